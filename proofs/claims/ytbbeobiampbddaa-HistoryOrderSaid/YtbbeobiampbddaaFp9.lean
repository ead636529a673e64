import Derived.Test.YtbbeobiampbddaaFh
import Derived.Test.YtbbeobiampbddaaLz
set_option linter.unusedVariables false
set_option linter.unusedSimpArgs false
namespace Go.Proofs.Ytbbeobiampbddaa
open Go Go.RowKit Go.Proofs.YtbbeobiampbddaaL
set_option maxRecDepth 100000
set_option maxHeartbeats 4000000
/-! elasticstore/elasticstoreref39.Precedes: function 16 -/
theorem esref39_Precedes.calls {ok : Nat → Prop} {w0 : World} {x1 : history_History} {x5 : Int} {x6 : Int} {v2 : Value} {r : Bool} (hf : esref39_Precedes x1 x5 x6 = some r) (i0 : (vl t_history_History x1 v2).holds ok w0) :
    Calls Try.prog 16 #[v2, .int .i64 x5, .int .i64 x6] w0 fun e w' => ∃ v, e = .returned v ∧ ∃ y : Unit, v = .bool r ∧ St ok (bz w0) w' [] [] := by
  unfold esref39_Precedes at hf
  refine calls_of_W (fn := Try.f16) (N := 51) Try.func16 rfl Try.ntmps16 rfl ?_
  have hs : St ok (bz w0) w0 [vl t_history_History x1 v2] [] := St.init (All.cons i0 All.nil)
  clear i0
  obtain ⟨cs3, hl4, rfl⟩ := hs.aggv (n := 1) 0 rfl rfl rfl
  refine W.seqK fun K7 hK7 => ?_
  refine W.region ?_
  refine WL.box (vs := cs3) hs rfl rfl (fun g8 w hs => ?_)
  refine WL.assign (v := .bool false) rfl ?_
  refine WL.nil ?_
  refine hK7 _ _ ?_
  refine W.seqK fun K9 hK9 => ?_
  refine W.region ?_
  refine WL.fieldAddr (m := 0) rfl FA24_0 rfl ?_
  refine WL.loadF (z := x1.Operations) F_history_History_Operations hs 0 rfl 0 rfl rfl TI22 (.inr rfl) rfl rfl (fun v10 hs => ?_)
  obtain ⟨a11, c12, rfl⟩ := hs.slice 0 rfl
  refine WL.len (v := .slice a11 (x1.Operations).length c12) rfl (len_slice UN22) ?_
  refine WL.assign (v := .int .i64 ((x1.Operations).length : Int)) rfl ?_
  refine WL.nil ?_
  refine hK9 _ _ ?_
  refine W.seqK fun K13 hK13 => ?_
  have Jk16 : ∀ (x15 : Bool) (ρ : Env) (w : World), ρ 6 = .bool x15 → St ok (bz w0) w [] [] → esref39_Precedes.j1 x15 = some r → K13 ρ w := by
    intro x15 ρ w h14_6 hs hf
    refine hK13 _ _ ?_
    unfold esref39_Precedes.j1 at hf
    refine W.ret ?_
    have hr := Option.some.inj hf; subst hr
    exact ⟨_, resOk_one rfl h14_6, (), rfl, (hs.mask []).pick []⟩
  rcases iteE hf with ⟨hc17, hf⟩ | ⟨hc17, hf⟩
  {
  rcases iteE hf with ⟨hc18, hf⟩ | ⟨hc18, hf⟩
  {
  rcases iteE hf with ⟨hc19, hf⟩ | ⟨hc19, hf⟩
  {
  rcases iteE hf with ⟨hc20, hf⟩ | ⟨hc20, hf⟩
  {
  obtain ⟨x24, hxx24, hf⟩ := bindE hf
  rcases iteE hf with ⟨hc28, hf⟩ | ⟨hc28, hf⟩
  {
  obtain ⟨x32, hxx32, hf⟩ := bindE hf
  obtain ⟨x39, hxx39, hf⟩ := bindE hf
  refine W.any (by kernel_rfl) 40 1 [true, true, true, true, true, true, true, true, true, true, true, true, true, true, true, true, true, true, true, true, true, true, true, true, true, true, true, true, true, true, true, true, true, true, true, true, true, true, true, true, false] rfl rfl (poAt [pv (.int .i64 x5), pv (.bool (decide (0 ≤ x5))), pv (.bool (decide (0 ≤ x5))), pv (.int .i64 x5), pv (.int .i64 ((x1.Operations).length : Int)), pv (.bool (decide (x5 < ((x1.Operations).length : Int)))), pv (.bool (decide (x5 < ((x1.Operations).length : Int)))), pv (.bool (decide (x5 < ((x1.Operations).length : Int)))), pv (.int .i64 x6), pv (.bool (decide (0 ≤ x6))), pv (.bool (decide (0 ≤ x6))), pv (.bool (decide (0 ≤ x6))), pv (.int .i64 x6), pv (.int .i64 ((x1.Operations).length : Int)), pv (.bool (decide (x6 < ((x1.Operations).length : Int)))), pv (.bool (decide (x6 < ((x1.Operations).length : Int)))), pv (.bool (decide (x6 < ((x1.Operations).length : Int)))), pv (.pointer (some ⟨g8, 0, none⟩)), pq (fun y : (Option Addr × Nat) => .slice y.1 (x1.Operations).length y.2) (fun v => [vl (tSlice t_history_Operation) x1.Operations v]) (fun v => []), pv (.int .i64 x5), pq (fun y : Addr => .pointer (some y)) (fun v => [pl t_history_Operation x24 (adOf v)]) (fun v => []), pq (fun y : Addr => .pointer (some y)) (fun v => [pl (tInt .i64) x24.Return (adOf v)]) (fun v => []), pv (.int .i64 x24.Return), pv (.bool (x24.Return != 0)), pv (.bool (x24.Return != 0)), pv (.bool (x24.Return != 0)), pv (.pointer (some ⟨g8, 0, none⟩)), pq (fun y : (Option Addr × Nat) => .slice y.1 (x1.Operations).length y.2) (fun v => [vl (tSlice t_history_Operation) x1.Operations v]) (fun v => []), pv (.int .i64 x5), pq (fun y : Addr => .pointer (some y)) (fun v => [pl t_history_Operation x32 (adOf v)]) (fun v => []), pq (fun y : Addr => .pointer (some y)) (fun v => [pl (tInt .i64) x32.Return (adOf v)]) (fun v => []), pv (.int .i64 x32.Return), pv (.pointer (some ⟨g8, 0, none⟩)), pq (fun y : (Option Addr × Nat) => .slice y.1 (x1.Operations).length y.2) (fun v => [vl (tSlice t_history_Operation) x1.Operations v]) (fun v => []), pv (.int .i64 x6), pq (fun y : Addr => .pointer (some y)) (fun v => [pl t_history_Operation x39 (adOf v)]) (fun v => []), pq (fun y : Addr => .pointer (some y)) (fun v => [pl (tInt .i64) x39.Call (adOf v)]) (fun v => []), pv (.int .i64 x39.Call), pv (.bool (decide (x32.Return < x39.Call))), pv (.bool (decide (x32.Return < x39.Call)))]) (Λ := [blk g8 24 cs3]) hs (by kernel_rfl) (by kernel_rfl) (by kernel_rfl) ⟨⟨⟨⟨⟨⟨⟨⟨⟨⟨⟨⟨⟨⟨⟨⟨⟨⟨⟨⟨⟨⟨⟨⟨⟨⟨⟨⟨⟨⟨⟨⟨⟨⟨⟨⟨⟨⟨⟨⟨trivial, ?_⟩, ?_⟩, ?_⟩, ?_⟩, ?_⟩, ?_⟩, ?_⟩, ?_⟩, ?_⟩, ?_⟩, ?_⟩, ?_⟩, ?_⟩, ?_⟩, ?_⟩, ?_⟩, ?_⟩, ?_⟩, ?_⟩, ?_⟩, ?_⟩, ?_⟩, ?_⟩, ?_⟩, ?_⟩, ?_⟩, ?_⟩, ?_⟩, ?_⟩, ?_⟩, ?_⟩, ?_⟩, ?_⟩, ?_⟩, ?_⟩, ?_⟩, ?_⟩, ?_⟩, ?_⟩, ?_⟩ ?_
  {
  intro ρ w Γx Λx hs hu hp
  refine WL.move (v := .int .i64 x5) (hu 1 rfl) ?_
  exact WL.nil ⟨rfl, _, rfl, rfl, hs.cutG 0 0⟩ }
  {
  intro ρ w Γx Λx hs hu hp
  have e43 : ρ 11 = .int .i64 x5 := (hp 0 rfl).1
  refine WL.bin (v := .bool (decide (0 ≤ x5))) e43 rfl (ib_geq _ _ _) ?_
  exact WL.nil ⟨rfl, _, rfl, rfl, hs.cutG 0 0⟩ }
  {
  intro ρ w Γx Λx hs hu hp
  have e44 : ρ 12 = .bool (decide (0 ≤ x5)) := (hp 1 rfl).1
  refine WL.move (v := .bool (decide (0 ≤ x5))) e44 ?_
  exact WL.nil ⟨rfl, _, rfl, rfl, hs.cutG 0 0⟩ }
  {
  intro ρ w Γx Λx hs hu hp
  have e45 : ρ 13 = .bool (decide (0 ≤ x5)) := (hp 2 rfl).1
  refine WL.move (v := .int .i64 x5) (hu 1 rfl) ?_ (hg := (wanted_of rfl rfl (bool_tr e45 hc17)).trans rfl)
  exact WL.nil ⟨rfl, _, rfl, rfl, hs.cutG 0 0⟩ }
  {
  intro ρ w Γx Λx hs hu hp
  have e46 : ρ 13 = .bool (decide (0 ≤ x5)) := (hp 2 rfl).1
  refine WL.move (v := .int .i64 ((x1.Operations).length : Int)) (hu 7 rfl) ?_ (hg := (wanted_of rfl rfl (bool_tr e46 hc17)).trans rfl)
  exact WL.nil ⟨rfl, _, rfl, rfl, hs.cutG 0 0⟩ }
  {
  intro ρ w Γx Λx hs hu hp
  have e47 : ρ 14 = .int .i64 x5 := (hp 3 rfl).1
  have e48 : ρ 15 = .int .i64 ((x1.Operations).length : Int) := (hp 4 rfl).1
  have e49 : ρ 13 = .bool (decide (0 ≤ x5)) := (hp 2 rfl).1
  refine WL.bin (v := .bool (decide (x5 < ((x1.Operations).length : Int)))) e47 e48 (ib_lss _ _ _) ?_ (hg := (wanted_of rfl rfl (bool_tr e49 hc17)).trans rfl)
  exact WL.nil ⟨rfl, _, rfl, rfl, hs.cutG 0 0⟩ }
  {
  intro ρ w Γx Λx hs hu hp
  have e50 : ρ 13 = .bool (decide (0 ≤ x5)) := (hp 2 rfl).1
  have e51 : ρ 16 = .bool (decide (x5 < ((x1.Operations).length : Int))) := (hp 5 rfl).1
  refine WL.pickT (v := .bool (decide (x5 < ((x1.Operations).length : Int)))) (bool_tr e50 hc17) e51 ?_
  exact WL.nil ⟨rfl, _, rfl, rfl, hs.cutG 0 0⟩ }
  {
  intro ρ w Γx Λx hs hu hp
  have e52 : ρ 17 = .bool (decide (x5 < ((x1.Operations).length : Int))) := (hp 6 rfl).1
  refine WL.move (v := .bool (decide (x5 < ((x1.Operations).length : Int)))) e52 ?_
  exact WL.nil ⟨rfl, _, rfl, rfl, hs.cutG 0 0⟩ }
  {
  intro ρ w Γx Λx hs hu hp
  have e53 : ρ 18 = .bool (decide (x5 < ((x1.Operations).length : Int))) := (hp 7 rfl).1
  refine WL.move (v := .int .i64 x6) (hu 2 rfl) ?_ (hg := (wanted_of rfl rfl (bool_tr e53 hc18)).trans rfl)
  exact WL.nil ⟨rfl, _, rfl, rfl, hs.cutG 0 0⟩ }
  {
  intro ρ w Γx Λx hs hu hp
  have e54 : ρ 19 = .int .i64 x6 := (hp 8 rfl).1
  have e55 : ρ 18 = .bool (decide (x5 < ((x1.Operations).length : Int))) := (hp 7 rfl).1
  refine WL.bin (v := .bool (decide (0 ≤ x6))) e54 rfl (ib_geq _ _ _) ?_ (hg := (wanted_of rfl rfl (bool_tr e55 hc18)).trans rfl)
  exact WL.nil ⟨rfl, _, rfl, rfl, hs.cutG 0 0⟩ }
  {
  intro ρ w Γx Λx hs hu hp
  have e56 : ρ 18 = .bool (decide (x5 < ((x1.Operations).length : Int))) := (hp 7 rfl).1
  have e57 : ρ 20 = .bool (decide (0 ≤ x6)) := (hp 9 rfl).1
  refine WL.pickT (v := .bool (decide (0 ≤ x6))) (bool_tr e56 hc18) e57 ?_
  exact WL.nil ⟨rfl, _, rfl, rfl, hs.cutG 0 0⟩ }
  {
  intro ρ w Γx Λx hs hu hp
  have e58 : ρ 21 = .bool (decide (0 ≤ x6)) := (hp 10 rfl).1
  refine WL.move (v := .bool (decide (0 ≤ x6))) e58 ?_
  exact WL.nil ⟨rfl, _, rfl, rfl, hs.cutG 0 0⟩ }
  {
  intro ρ w Γx Λx hs hu hp
  have e59 : ρ 22 = .bool (decide (0 ≤ x6)) := (hp 11 rfl).1
  refine WL.move (v := .int .i64 x6) (hu 2 rfl) ?_ (hg := (wanted_of rfl rfl (bool_tr e59 hc19)).trans rfl)
  exact WL.nil ⟨rfl, _, rfl, rfl, hs.cutG 0 0⟩ }
  {
  intro ρ w Γx Λx hs hu hp
  have e60 : ρ 22 = .bool (decide (0 ≤ x6)) := (hp 11 rfl).1
  refine WL.move (v := .int .i64 ((x1.Operations).length : Int)) (hu 7 rfl) ?_ (hg := (wanted_of rfl rfl (bool_tr e60 hc19)).trans rfl)
  exact WL.nil ⟨rfl, _, rfl, rfl, hs.cutG 0 0⟩ }
  {
  intro ρ w Γx Λx hs hu hp
  have e61 : ρ 23 = .int .i64 x6 := (hp 12 rfl).1
  have e62 : ρ 24 = .int .i64 ((x1.Operations).length : Int) := (hp 13 rfl).1
  have e63 : ρ 22 = .bool (decide (0 ≤ x6)) := (hp 11 rfl).1
  refine WL.bin (v := .bool (decide (x6 < ((x1.Operations).length : Int)))) e61 e62 (ib_lss _ _ _) ?_ (hg := (wanted_of rfl rfl (bool_tr e63 hc19)).trans rfl)
  exact WL.nil ⟨rfl, _, rfl, rfl, hs.cutG 0 0⟩ }
  {
  intro ρ w Γx Λx hs hu hp
  have e64 : ρ 22 = .bool (decide (0 ≤ x6)) := (hp 11 rfl).1
  have e65 : ρ 25 = .bool (decide (x6 < ((x1.Operations).length : Int))) := (hp 14 rfl).1
  refine WL.pickT (v := .bool (decide (x6 < ((x1.Operations).length : Int)))) (bool_tr e64 hc19) e65 ?_
  exact WL.nil ⟨rfl, _, rfl, rfl, hs.cutG 0 0⟩ }
  {
  intro ρ w Γx Λx hs hu hp
  have e66 : ρ 26 = .bool (decide (x6 < ((x1.Operations).length : Int))) := (hp 15 rfl).1
  refine WL.move (v := .bool (decide (x6 < ((x1.Operations).length : Int)))) e66 ?_
  exact WL.nil ⟨rfl, _, rfl, rfl, hs.cutG 0 0⟩ }
  {
  intro ρ w Γx Λx hs hu hp
  have e67 : ρ 27 = .bool (decide (x6 < ((x1.Operations).length : Int))) := (hp 16 rfl).1
  refine WL.fieldAddr (m := 0) (hu 3 rfl) FA24_0 rfl ?_ (hg := (wanted_of rfl rfl (bool_tr e67 hc20)).trans rfl)
  exact WL.nil ⟨rfl, _, rfl, rfl, hs.cutG 0 0⟩ }
  {
  intro ρ w Γx Λx hs hu hp
  have e68 : ρ 28 = .pointer (some ⟨g8, 0, none⟩) := (hp 17 rfl).1
  have e69 : ρ 27 = .bool (decide (x6 < ((x1.Operations).length : Int))) := (hp 16 rfl).1
  refine WL.loadF (z := x1.Operations) F_history_History_Operations hs (Λx.length + 0) (getApp rfl) (Γx.length + 1) (getApp rfl) rfl TI22 (.inr rfl) e68 rfl (fun v21 hs => ?_) (hg := (wanted_of rfl rfl (bool_tr e69 hc20)).trans rfl)
  obtain ⟨a22, c23, rfl⟩ := hs.slice 0 rfl
  have hs := hs.add (it := vl (tSlice t_history_Operation) x1.Operations (.slice a22 (x1.Operations).length c23)) fun ok hA => hA.get 0 rfl
  exact WL.nil ⟨rfl, _, rfl, ⟨(a22, c23), rfl⟩, hs.cutG 1 1⟩ }
  {
  intro ρ w Γx Λx hs hu hp
  have e70 : ρ 27 = .bool (decide (x6 < ((x1.Operations).length : Int))) := (hp 16 rfl).1
  refine WL.move (v := .int .i64 x5) (hu 1 rfl) ?_ (hg := (wanted_of rfl rfl (bool_tr e70 hc20)).trans rfl)
  exact WL.nil ⟨rfl, _, rfl, rfl, hs.cutG 0 0⟩ }
  {
  intro ρ w Γx Λx hs hu hp
  obtain ⟨⟨⟨a71, c72⟩, e73r⟩, hm74⟩ := hp 18 rfl
  have e73 : ρ 29 = .slice a71 (x1.Operations).length c72 := e73r
  rw [e73r] at hm74
  have hs := hs.memo1 (it := vl (tSlice t_history_Operation) x1.Operations (.slice a71 (x1.Operations).length c72)) (List.mem_append.2 (.inl (hm74 _ (List.mem_of_getElem? (i := 0) rfl))))
  have e75 : ρ 30 = .int .i64 x5 := (hp 19 rfl).1
  have e76 : ρ 27 = .bool (decide (x6 < ((x1.Operations).length : Int))) := (hp 16 rfl).1
  refine WL.indexAddr hs 0 rfl UN22 TI35 e73 e75 hxx24 (fun ad25 hs => ?_) (hg := (wanted_of rfl rfl (bool_tr e76 hc20)).trans rfl)
  have hs := hs.add (it := pl t_history_Operation x24 ad25) fun ok hA => hA.get 0 rfl
  exact WL.nil ⟨rfl, _, rfl, ⟨ad25, rfl⟩, hs.cutG 1 2⟩ }
  {
  intro ρ w Γx Λx hs hu hp
  obtain ⟨⟨ad77, e78r⟩, hm79⟩ := hp 20 rfl
  have e78 : ρ 31 = .pointer (some ad77) := e78r
  rw [e78r] at hm79
  have hs := hs.memo1 (it := pl t_history_Operation x24 ad77) (List.mem_append.2 (.inl (hm79 _ (List.mem_of_getElem? (i := 0) rfl))))
  have e80 : ρ 27 = .bool (decide (x6 < ((x1.Operations).length : Int))) := (hp 16 rfl).1
  refine WL.fieldAddrP (z := x24.Return) F_history_Operation_Return hs 0 rfl e78 FA35_5 rfl (fun ad26 hs => ?_) (hg := (wanted_of rfl rfl (bool_tr e80 hc20)).trans rfl)
  have hs := hs.add (it := pl (tInt .i64) x24.Return ad26) fun ok hA => hA.get 0 rfl
  exact WL.nil ⟨rfl, _, rfl, ⟨ad26, rfl⟩, hs.cutG 1 2⟩ }
  {
  intro ρ w Γx Λx hs hu hp
  obtain ⟨⟨ad81, e82r⟩, hm83⟩ := hp 21 rfl
  have e82 : ρ 32 = .pointer (some ad81) := e82r
  rw [e82r] at hm83
  have hs := hs.memo1 (it := pl (tInt .i64) x24.Return ad81) (List.mem_append.2 (.inl (hm83 _ (List.mem_of_getElem? (i := 0) rfl))))
  have e84 : ρ 27 = .bool (decide (x6 < ((x1.Operations).length : Int))) := (hp 16 rfl).1
  refine WL.loadP hs 0 rfl TI3 (.inr rfl) e82 (fun v27 hs => ?_) (hg := (wanted_of rfl rfl (bool_tr e84 hc20)).trans rfl)
  obtain rfl := hs.int 0 rfl
  exact WL.nil ⟨rfl, _, rfl, rfl, hs.cutG 0 2⟩ }
  {
  intro ρ w Γx Λx hs hu hp
  have e85 : ρ 33 = .int .i64 x24.Return := (hp 22 rfl).1
  have e86 : ρ 27 = .bool (decide (x6 < ((x1.Operations).length : Int))) := (hp 16 rfl).1
  refine WL.bin (v := .bool (x24.Return != 0)) e85 rfl (ib_neq _ _ _) ?_ (hg := (wanted_of rfl rfl (bool_tr e86 hc20)).trans rfl)
  exact WL.nil ⟨rfl, _, rfl, rfl, hs.cutG 0 0⟩ }
  {
  intro ρ w Γx Λx hs hu hp
  have e87 : ρ 27 = .bool (decide (x6 < ((x1.Operations).length : Int))) := (hp 16 rfl).1
  have e88 : ρ 34 = .bool (x24.Return != 0) := (hp 23 rfl).1
  refine WL.pickT (v := .bool (x24.Return != 0)) (bool_tr e87 hc20) e88 ?_
  exact WL.nil ⟨rfl, _, rfl, rfl, hs.cutG 0 0⟩ }
  {
  intro ρ w Γx Λx hs hu hp
  have e89 : ρ 35 = .bool (x24.Return != 0) := (hp 24 rfl).1
  refine WL.move (v := .bool (x24.Return != 0)) e89 ?_
  exact WL.nil ⟨rfl, _, rfl, rfl, hs.cutG 0 0⟩ }
  {
  intro ρ w Γx Λx hs hu hp
  have e90 : ρ 36 = .bool (x24.Return != 0) := (hp 25 rfl).1
  refine WL.fieldAddr (m := 0) (hu 3 rfl) FA24_0 rfl ?_ (hg := (wanted_of rfl rfl (bool_tr e90 hc28)).trans rfl)
  exact WL.nil ⟨rfl, _, rfl, rfl, hs.cutG 0 0⟩ }
  {
  intro ρ w Γx Λx hs hu hp
  have e91 : ρ 37 = .pointer (some ⟨g8, 0, none⟩) := (hp 26 rfl).1
  have e92 : ρ 36 = .bool (x24.Return != 0) := (hp 25 rfl).1
  refine WL.loadF (z := x1.Operations) F_history_History_Operations hs (Λx.length + 0) (getApp rfl) (Γx.length + 1) (getApp rfl) rfl TI22 (.inr rfl) e91 rfl (fun v29 hs => ?_) (hg := (wanted_of rfl rfl (bool_tr e92 hc28)).trans rfl)
  obtain ⟨a30, c31, rfl⟩ := hs.slice 0 rfl
  have hs := hs.add (it := vl (tSlice t_history_Operation) x1.Operations (.slice a30 (x1.Operations).length c31)) fun ok hA => hA.get 0 rfl
  exact WL.nil ⟨rfl, _, rfl, ⟨(a30, c31), rfl⟩, hs.cutG 1 1⟩ }
  {
  intro ρ w Γx Λx hs hu hp
  have e93 : ρ 36 = .bool (x24.Return != 0) := (hp 25 rfl).1
  refine WL.move (v := .int .i64 x5) (hu 1 rfl) ?_ (hg := (wanted_of rfl rfl (bool_tr e93 hc28)).trans rfl)
  exact WL.nil ⟨rfl, _, rfl, rfl, hs.cutG 0 0⟩ }
  {
  intro ρ w Γx Λx hs hu hp
  obtain ⟨⟨⟨a94, c95⟩, e96r⟩, hm97⟩ := hp 27 rfl
  have e96 : ρ 38 = .slice a94 (x1.Operations).length c95 := e96r
  rw [e96r] at hm97
  have hs := hs.memo1 (it := vl (tSlice t_history_Operation) x1.Operations (.slice a94 (x1.Operations).length c95)) (List.mem_append.2 (.inl (hm97 _ (List.mem_of_getElem? (i := 0) rfl))))
  have e98 : ρ 39 = .int .i64 x5 := (hp 28 rfl).1
  have e99 : ρ 36 = .bool (x24.Return != 0) := (hp 25 rfl).1
  refine WL.indexAddr hs 0 rfl UN22 TI35 e96 e98 hxx32 (fun ad33 hs => ?_) (hg := (wanted_of rfl rfl (bool_tr e99 hc28)).trans rfl)
  have hs := hs.add (it := pl t_history_Operation x32 ad33) fun ok hA => hA.get 0 rfl
  exact WL.nil ⟨rfl, _, rfl, ⟨ad33, rfl⟩, hs.cutG 1 2⟩ }
  {
  intro ρ w Γx Λx hs hu hp
  obtain ⟨⟨ad100, e101r⟩, hm102⟩ := hp 29 rfl
  have e101 : ρ 40 = .pointer (some ad100) := e101r
  rw [e101r] at hm102
  have hs := hs.memo1 (it := pl t_history_Operation x32 ad100) (List.mem_append.2 (.inl (hm102 _ (List.mem_of_getElem? (i := 0) rfl))))
  have e103 : ρ 36 = .bool (x24.Return != 0) := (hp 25 rfl).1
  refine WL.fieldAddrP (z := x32.Return) F_history_Operation_Return hs 0 rfl e101 FA35_5 rfl (fun ad34 hs => ?_) (hg := (wanted_of rfl rfl (bool_tr e103 hc28)).trans rfl)
  have hs := hs.add (it := pl (tInt .i64) x32.Return ad34) fun ok hA => hA.get 0 rfl
  exact WL.nil ⟨rfl, _, rfl, ⟨ad34, rfl⟩, hs.cutG 1 2⟩ }
  {
  intro ρ w Γx Λx hs hu hp
  obtain ⟨⟨ad104, e105r⟩, hm106⟩ := hp 30 rfl
  have e105 : ρ 41 = .pointer (some ad104) := e105r
  rw [e105r] at hm106
  have hs := hs.memo1 (it := pl (tInt .i64) x32.Return ad104) (List.mem_append.2 (.inl (hm106 _ (List.mem_of_getElem? (i := 0) rfl))))
  have e107 : ρ 36 = .bool (x24.Return != 0) := (hp 25 rfl).1
  refine WL.loadP hs 0 rfl TI3 (.inr rfl) e105 (fun v35 hs => ?_) (hg := (wanted_of rfl rfl (bool_tr e107 hc28)).trans rfl)
  obtain rfl := hs.int 0 rfl
  exact WL.nil ⟨rfl, _, rfl, rfl, hs.cutG 0 2⟩ }
  {
  intro ρ w Γx Λx hs hu hp
  have e108 : ρ 36 = .bool (x24.Return != 0) := (hp 25 rfl).1
  refine WL.fieldAddr (m := 0) (hu 3 rfl) FA24_0 rfl ?_ (hg := (wanted_of rfl rfl (bool_tr e108 hc28)).trans rfl)
  exact WL.nil ⟨rfl, _, rfl, rfl, hs.cutG 0 0⟩ }
  {
  intro ρ w Γx Λx hs hu hp
  have e109 : ρ 43 = .pointer (some ⟨g8, 0, none⟩) := (hp 32 rfl).1
  have e110 : ρ 36 = .bool (x24.Return != 0) := (hp 25 rfl).1
  refine WL.loadF (z := x1.Operations) F_history_History_Operations hs (Λx.length + 0) (getApp rfl) (Γx.length + 1) (getApp rfl) rfl TI22 (.inr rfl) e109 rfl (fun v36 hs => ?_) (hg := (wanted_of rfl rfl (bool_tr e110 hc28)).trans rfl)
  obtain ⟨a37, c38, rfl⟩ := hs.slice 0 rfl
  have hs := hs.add (it := vl (tSlice t_history_Operation) x1.Operations (.slice a37 (x1.Operations).length c38)) fun ok hA => hA.get 0 rfl
  exact WL.nil ⟨rfl, _, rfl, ⟨(a37, c38), rfl⟩, hs.cutG 1 1⟩ }
  {
  intro ρ w Γx Λx hs hu hp
  have e111 : ρ 36 = .bool (x24.Return != 0) := (hp 25 rfl).1
  refine WL.move (v := .int .i64 x6) (hu 2 rfl) ?_ (hg := (wanted_of rfl rfl (bool_tr e111 hc28)).trans rfl)
  exact WL.nil ⟨rfl, _, rfl, rfl, hs.cutG 0 0⟩ }
  {
  intro ρ w Γx Λx hs hu hp
  obtain ⟨⟨⟨a112, c113⟩, e114r⟩, hm115⟩ := hp 33 rfl
  have e114 : ρ 44 = .slice a112 (x1.Operations).length c113 := e114r
  rw [e114r] at hm115
  have hs := hs.memo1 (it := vl (tSlice t_history_Operation) x1.Operations (.slice a112 (x1.Operations).length c113)) (List.mem_append.2 (.inl (hm115 _ (List.mem_of_getElem? (i := 0) rfl))))
  have e116 : ρ 45 = .int .i64 x6 := (hp 34 rfl).1
  have e117 : ρ 36 = .bool (x24.Return != 0) := (hp 25 rfl).1
  refine WL.indexAddr hs 0 rfl UN22 TI35 e114 e116 hxx39 (fun ad40 hs => ?_) (hg := (wanted_of rfl rfl (bool_tr e117 hc28)).trans rfl)
  have hs := hs.add (it := pl t_history_Operation x39 ad40) fun ok hA => hA.get 0 rfl
  exact WL.nil ⟨rfl, _, rfl, ⟨ad40, rfl⟩, hs.cutG 1 2⟩ }
  {
  intro ρ w Γx Λx hs hu hp
  obtain ⟨⟨ad118, e119r⟩, hm120⟩ := hp 35 rfl
  have e119 : ρ 46 = .pointer (some ad118) := e119r
  rw [e119r] at hm120
  have hs := hs.memo1 (it := pl t_history_Operation x39 ad118) (List.mem_append.2 (.inl (hm120 _ (List.mem_of_getElem? (i := 0) rfl))))
  have e121 : ρ 36 = .bool (x24.Return != 0) := (hp 25 rfl).1
  refine WL.fieldAddrP (z := x39.Call) F_history_Operation_Call hs 0 rfl e119 FA35_4 rfl (fun ad41 hs => ?_) (hg := (wanted_of rfl rfl (bool_tr e121 hc28)).trans rfl)
  have hs := hs.add (it := pl (tInt .i64) x39.Call ad41) fun ok hA => hA.get 0 rfl
  exact WL.nil ⟨rfl, _, rfl, ⟨ad41, rfl⟩, hs.cutG 1 2⟩ }
  {
  intro ρ w Γx Λx hs hu hp
  obtain ⟨⟨ad122, e123r⟩, hm124⟩ := hp 36 rfl
  have e123 : ρ 47 = .pointer (some ad122) := e123r
  rw [e123r] at hm124
  have hs := hs.memo1 (it := pl (tInt .i64) x39.Call ad122) (List.mem_append.2 (.inl (hm124 _ (List.mem_of_getElem? (i := 0) rfl))))
  have e125 : ρ 36 = .bool (x24.Return != 0) := (hp 25 rfl).1
  refine WL.loadP hs 0 rfl TI3 (.inr rfl) e123 (fun v42 hs => ?_) (hg := (wanted_of rfl rfl (bool_tr e125 hc28)).trans rfl)
  obtain rfl := hs.int 0 rfl
  exact WL.nil ⟨rfl, _, rfl, rfl, hs.cutG 0 2⟩ }
  {
  intro ρ w Γx Λx hs hu hp
  have e126 : ρ 42 = .int .i64 x32.Return := (hp 31 rfl).1
  have e127 : ρ 48 = .int .i64 x39.Call := (hp 37 rfl).1
  have e128 : ρ 36 = .bool (x24.Return != 0) := (hp 25 rfl).1
  refine WL.bin (v := .bool (decide (x32.Return < x39.Call))) e126 e127 (ib_lss _ _ _) ?_ (hg := (wanted_of rfl rfl (bool_tr e128 hc28)).trans rfl)
  exact WL.nil ⟨rfl, _, rfl, rfl, hs.cutG 0 0⟩ }
  {
  intro ρ w Γx Λx hs hu hp
  have e129 : ρ 36 = .bool (x24.Return != 0) := (hp 25 rfl).1
  have e130 : ρ 49 = .bool (decide (x32.Return < x39.Call)) := (hp 38 rfl).1
  refine WL.pickT (v := .bool (decide (x32.Return < x39.Call))) (bool_tr e129 hc28) e130 ?_
  exact WL.nil ⟨rfl, _, rfl, rfl, hs.cutG 0 0⟩ }
  {
  intro ρ w hs hu131 hp
  obtain ⟨⟨⟨⟨⟨⟨⟨⟨⟨⟨⟨⟨⟨⟨⟨⟨⟨⟨⟨⟨⟨⟨⟨⟨⟨⟨⟨⟨⟨⟨⟨⟨⟨⟨⟨⟨⟨⟨⟨⟨_, hp0_⟩, hp1_⟩, hp2_⟩, hp3_⟩, hp4_⟩, hp5_⟩, hp6_⟩, hp7_⟩, hp8_⟩, hp9_⟩, hp10_⟩, hp11_⟩, hp12_⟩, hp13_⟩, hp14_⟩, hp15_⟩, hp16_⟩, hp17_⟩, hp18_⟩, hp19_⟩, hp20_⟩, hp21_⟩, hp22_⟩, hp23_⟩, hp24_⟩, hp25_⟩, hp26_⟩, hp27_⟩, hp28_⟩, hp29_⟩, hp30_⟩, hp31_⟩, hp32_⟩, hp33_⟩, hp34_⟩, hp35_⟩, hp36_⟩, hp37_⟩, hp38_⟩, hp39_⟩ := hp
  have hs : St ok (bz w0) w [pl (tInt .i64) x39.Call (adOf (ρ 47)), pl t_history_Operation x39 (adOf (ρ 46)), vl (tSlice t_history_Operation) x1.Operations (ρ 44), pl (tInt .i64) x32.Return (adOf (ρ 41)), pl t_history_Operation x32 (adOf (ρ 40)), vl (tSlice t_history_Operation) x1.Operations (ρ 38), pl (tInt .i64) x24.Return (adOf (ρ 32)), pl t_history_Operation x24 (adOf (ρ 31)), vl (tSlice t_history_Operation) x1.Operations (ρ 29), vl (tSlice t_history_Operation) x1.Operations (.slice a11 (x1.Operations).length c12), vl t_history_History x1 (.agg cs3.toArray)] [blk g8 24 cs3] := hs
  have e132 : ρ 50 = .bool (decide (x32.Return < x39.Call)) := hp39_
  have e133 : ρ 49 = .bool (decide (x32.Return < x39.Call)) := hp38_
  have e134 : ρ 48 = .int .i64 x39.Call := hp37_
  obtain ⟨ad135, e136⟩ := hp36_
  have e136 : ρ 47 = .pointer (some ad135) := e136
  try rw [e136] at hs
  obtain ⟨ad137, e138⟩ := hp35_
  have e138 : ρ 46 = .pointer (some ad137) := e138
  try rw [e138] at hs
  have e139 : ρ 45 = .int .i64 x6 := hp34_
  obtain ⟨⟨a140, c141⟩, e142⟩ := hp33_
  have e142 : ρ 44 = .slice a140 (x1.Operations).length c141 := e142
  try rw [e142] at hs
  have e143 : ρ 43 = .pointer (some ⟨g8, 0, none⟩) := hp32_
  have e144 : ρ 42 = .int .i64 x32.Return := hp31_
  obtain ⟨ad145, e146⟩ := hp30_
  have e146 : ρ 41 = .pointer (some ad145) := e146
  try rw [e146] at hs
  obtain ⟨ad147, e148⟩ := hp29_
  have e148 : ρ 40 = .pointer (some ad147) := e148
  try rw [e148] at hs
  have e149 : ρ 39 = .int .i64 x5 := hp28_
  obtain ⟨⟨a150, c151⟩, e152⟩ := hp27_
  have e152 : ρ 38 = .slice a150 (x1.Operations).length c151 := e152
  try rw [e152] at hs
  have e153 : ρ 37 = .pointer (some ⟨g8, 0, none⟩) := hp26_
  have e154 : ρ 36 = .bool (x24.Return != 0) := hp25_
  have e155 : ρ 35 = .bool (x24.Return != 0) := hp24_
  have e156 : ρ 34 = .bool (x24.Return != 0) := hp23_
  have e157 : ρ 33 = .int .i64 x24.Return := hp22_
  obtain ⟨ad158, e159⟩ := hp21_
  have e159 : ρ 32 = .pointer (some ad158) := e159
  try rw [e159] at hs
  obtain ⟨ad160, e161⟩ := hp20_
  have e161 : ρ 31 = .pointer (some ad160) := e161
  try rw [e161] at hs
  have e162 : ρ 30 = .int .i64 x5 := hp19_
  obtain ⟨⟨a163, c164⟩, e165⟩ := hp18_
  have e165 : ρ 29 = .slice a163 (x1.Operations).length c164 := e165
  try rw [e165] at hs
  have e166 : ρ 28 = .pointer (some ⟨g8, 0, none⟩) := hp17_
  have e167 : ρ 27 = .bool (decide (x6 < ((x1.Operations).length : Int))) := hp16_
  have e168 : ρ 26 = .bool (decide (x6 < ((x1.Operations).length : Int))) := hp15_
  have e169 : ρ 25 = .bool (decide (x6 < ((x1.Operations).length : Int))) := hp14_
  have e170 : ρ 24 = .int .i64 ((x1.Operations).length : Int) := hp13_
  have e171 : ρ 23 = .int .i64 x6 := hp12_
  have e172 : ρ 22 = .bool (decide (0 ≤ x6)) := hp11_
  have e173 : ρ 21 = .bool (decide (0 ≤ x6)) := hp10_
  have e174 : ρ 20 = .bool (decide (0 ≤ x6)) := hp9_
  have e175 : ρ 19 = .int .i64 x6 := hp8_
  have e176 : ρ 18 = .bool (decide (x5 < ((x1.Operations).length : Int))) := hp7_
  have e177 : ρ 17 = .bool (decide (x5 < ((x1.Operations).length : Int))) := hp6_
  have e178 : ρ 16 = .bool (decide (x5 < ((x1.Operations).length : Int))) := hp5_
  have e179 : ρ 15 = .int .i64 ((x1.Operations).length : Int) := hp4_
  have e180 : ρ 14 = .int .i64 x5 := hp3_
  have e181 : ρ 13 = .bool (decide (0 ≤ x5)) := hp2_
  have e182 : ρ 12 = .bool (decide (0 ≤ x5)) := hp1_
  have e183 : ρ 11 = .int .i64 x5 := hp0_
  refine WA.step [40] (by kernel_rfl) (by simp) ⟨?_, trivial⟩
  refine WL.assign (v := .bool (decide (x32.Return < x39.Call))) e132 ?_
  refine WL.nil ⟨rfl, _, rfl, ?_⟩
  refine WA.done (by kernel_rfl) ?_
  exact Jk16 (decide (x32.Return < x39.Call)) _ _ rfl ((hs.mask []).pick []) hf } }
  {
  refine W.any (by kernel_rfl) 40 1 [true, true, true, true, true, true, true, true, true, true, true, true, true, true, true, true, true, true, true, true, true, true, true, true, true, true, true, true, true, true, true, true, true, true, true, true, true, true, true, true, false] rfl rfl (poAt [pv (.int .i64 x5), pv (.bool (decide (0 ≤ x5))), pv (.bool (decide (0 ≤ x5))), pv (.int .i64 x5), pv (.int .i64 ((x1.Operations).length : Int)), pv (.bool (decide (x5 < ((x1.Operations).length : Int)))), pv (.bool (decide (x5 < ((x1.Operations).length : Int)))), pv (.bool (decide (x5 < ((x1.Operations).length : Int)))), pv (.int .i64 x6), pv (.bool (decide (0 ≤ x6))), pv (.bool (decide (0 ≤ x6))), pv (.bool (decide (0 ≤ x6))), pv (.int .i64 x6), pv (.int .i64 ((x1.Operations).length : Int)), pv (.bool (decide (x6 < ((x1.Operations).length : Int)))), pv (.bool (decide (x6 < ((x1.Operations).length : Int)))), pv (.bool (decide (x6 < ((x1.Operations).length : Int)))), pv (.pointer (some ⟨g8, 0, none⟩)), pq (fun y : (Option Addr × Nat) => .slice y.1 (x1.Operations).length y.2) (fun v => [vl (tSlice t_history_Operation) x1.Operations v]) (fun v => []), pv (.int .i64 x5), pq (fun y : Addr => .pointer (some y)) (fun v => [pl t_history_Operation x24 (adOf v)]) (fun v => []), pq (fun y : Addr => .pointer (some y)) (fun v => [pl (tInt .i64) x24.Return (adOf v)]) (fun v => []), pv (.int .i64 x24.Return), pv (.bool (x24.Return != 0)), pv (.bool (x24.Return != 0)), pv (.bool (x24.Return != 0)), pv (undef), pv (undef), pv (undef), pv (undef), pv (undef), pv (undef), pv (undef), pv (undef), pv (undef), pv (undef), pv (undef), pv (undef), pv (undef), pv (.bool false)]) (Λ := [blk g8 24 cs3]) hs (by kernel_rfl) (by kernel_rfl) (by kernel_rfl) ⟨⟨⟨⟨⟨⟨⟨⟨⟨⟨⟨⟨⟨⟨⟨⟨⟨⟨⟨⟨⟨⟨⟨⟨⟨⟨⟨⟨⟨⟨⟨⟨⟨⟨⟨⟨⟨⟨⟨⟨trivial, ?_⟩, ?_⟩, ?_⟩, ?_⟩, ?_⟩, ?_⟩, ?_⟩, ?_⟩, ?_⟩, ?_⟩, ?_⟩, ?_⟩, ?_⟩, ?_⟩, ?_⟩, ?_⟩, ?_⟩, ?_⟩, ?_⟩, ?_⟩, ?_⟩, ?_⟩, ?_⟩, ?_⟩, ?_⟩, ?_⟩, ?_⟩, ?_⟩, ?_⟩, ?_⟩, ?_⟩, ?_⟩, ?_⟩, ?_⟩, ?_⟩, ?_⟩, ?_⟩, ?_⟩, ?_⟩, ?_⟩ ?_
  {
  intro ρ w Γx Λx hs hu hp
  refine WL.move (v := .int .i64 x5) (hu 1 rfl) ?_
  exact WL.nil ⟨rfl, _, rfl, rfl, hs.cutG 0 0⟩ }
  {
  intro ρ w Γx Λx hs hu hp
  have e184 : ρ 11 = .int .i64 x5 := (hp 0 rfl).1
  refine WL.bin (v := .bool (decide (0 ≤ x5))) e184 rfl (ib_geq _ _ _) ?_
  exact WL.nil ⟨rfl, _, rfl, rfl, hs.cutG 0 0⟩ }
  {
  intro ρ w Γx Λx hs hu hp
  have e185 : ρ 12 = .bool (decide (0 ≤ x5)) := (hp 1 rfl).1
  refine WL.move (v := .bool (decide (0 ≤ x5))) e185 ?_
  exact WL.nil ⟨rfl, _, rfl, rfl, hs.cutG 0 0⟩ }
  {
  intro ρ w Γx Λx hs hu hp
  have e186 : ρ 13 = .bool (decide (0 ≤ x5)) := (hp 2 rfl).1
  refine WL.move (v := .int .i64 x5) (hu 1 rfl) ?_ (hg := (wanted_of rfl rfl (bool_tr e186 hc17)).trans rfl)
  exact WL.nil ⟨rfl, _, rfl, rfl, hs.cutG 0 0⟩ }
  {
  intro ρ w Γx Λx hs hu hp
  have e187 : ρ 13 = .bool (decide (0 ≤ x5)) := (hp 2 rfl).1
  refine WL.move (v := .int .i64 ((x1.Operations).length : Int)) (hu 7 rfl) ?_ (hg := (wanted_of rfl rfl (bool_tr e187 hc17)).trans rfl)
  exact WL.nil ⟨rfl, _, rfl, rfl, hs.cutG 0 0⟩ }
  {
  intro ρ w Γx Λx hs hu hp
  have e188 : ρ 14 = .int .i64 x5 := (hp 3 rfl).1
  have e189 : ρ 15 = .int .i64 ((x1.Operations).length : Int) := (hp 4 rfl).1
  have e190 : ρ 13 = .bool (decide (0 ≤ x5)) := (hp 2 rfl).1
  refine WL.bin (v := .bool (decide (x5 < ((x1.Operations).length : Int)))) e188 e189 (ib_lss _ _ _) ?_ (hg := (wanted_of rfl rfl (bool_tr e190 hc17)).trans rfl)
  exact WL.nil ⟨rfl, _, rfl, rfl, hs.cutG 0 0⟩ }
  {
  intro ρ w Γx Λx hs hu hp
  have e191 : ρ 13 = .bool (decide (0 ≤ x5)) := (hp 2 rfl).1
  have e192 : ρ 16 = .bool (decide (x5 < ((x1.Operations).length : Int))) := (hp 5 rfl).1
  refine WL.pickT (v := .bool (decide (x5 < ((x1.Operations).length : Int)))) (bool_tr e191 hc17) e192 ?_
  exact WL.nil ⟨rfl, _, rfl, rfl, hs.cutG 0 0⟩ }
  {
  intro ρ w Γx Λx hs hu hp
  have e193 : ρ 17 = .bool (decide (x5 < ((x1.Operations).length : Int))) := (hp 6 rfl).1
  refine WL.move (v := .bool (decide (x5 < ((x1.Operations).length : Int)))) e193 ?_
  exact WL.nil ⟨rfl, _, rfl, rfl, hs.cutG 0 0⟩ }
  {
  intro ρ w Γx Λx hs hu hp
  have e194 : ρ 18 = .bool (decide (x5 < ((x1.Operations).length : Int))) := (hp 7 rfl).1
  refine WL.move (v := .int .i64 x6) (hu 2 rfl) ?_ (hg := (wanted_of rfl rfl (bool_tr e194 hc18)).trans rfl)
  exact WL.nil ⟨rfl, _, rfl, rfl, hs.cutG 0 0⟩ }
  {
  intro ρ w Γx Λx hs hu hp
  have e195 : ρ 19 = .int .i64 x6 := (hp 8 rfl).1
  have e196 : ρ 18 = .bool (decide (x5 < ((x1.Operations).length : Int))) := (hp 7 rfl).1
  refine WL.bin (v := .bool (decide (0 ≤ x6))) e195 rfl (ib_geq _ _ _) ?_ (hg := (wanted_of rfl rfl (bool_tr e196 hc18)).trans rfl)
  exact WL.nil ⟨rfl, _, rfl, rfl, hs.cutG 0 0⟩ }
  {
  intro ρ w Γx Λx hs hu hp
  have e197 : ρ 18 = .bool (decide (x5 < ((x1.Operations).length : Int))) := (hp 7 rfl).1
  have e198 : ρ 20 = .bool (decide (0 ≤ x6)) := (hp 9 rfl).1
  refine WL.pickT (v := .bool (decide (0 ≤ x6))) (bool_tr e197 hc18) e198 ?_
  exact WL.nil ⟨rfl, _, rfl, rfl, hs.cutG 0 0⟩ }
  {
  intro ρ w Γx Λx hs hu hp
  have e199 : ρ 21 = .bool (decide (0 ≤ x6)) := (hp 10 rfl).1
  refine WL.move (v := .bool (decide (0 ≤ x6))) e199 ?_
  exact WL.nil ⟨rfl, _, rfl, rfl, hs.cutG 0 0⟩ }
  {
  intro ρ w Γx Λx hs hu hp
  have e200 : ρ 22 = .bool (decide (0 ≤ x6)) := (hp 11 rfl).1
  refine WL.move (v := .int .i64 x6) (hu 2 rfl) ?_ (hg := (wanted_of rfl rfl (bool_tr e200 hc19)).trans rfl)
  exact WL.nil ⟨rfl, _, rfl, rfl, hs.cutG 0 0⟩ }
  {
  intro ρ w Γx Λx hs hu hp
  have e201 : ρ 22 = .bool (decide (0 ≤ x6)) := (hp 11 rfl).1
  refine WL.move (v := .int .i64 ((x1.Operations).length : Int)) (hu 7 rfl) ?_ (hg := (wanted_of rfl rfl (bool_tr e201 hc19)).trans rfl)
  exact WL.nil ⟨rfl, _, rfl, rfl, hs.cutG 0 0⟩ }
  {
  intro ρ w Γx Λx hs hu hp
  have e202 : ρ 23 = .int .i64 x6 := (hp 12 rfl).1
  have e203 : ρ 24 = .int .i64 ((x1.Operations).length : Int) := (hp 13 rfl).1
  have e204 : ρ 22 = .bool (decide (0 ≤ x6)) := (hp 11 rfl).1
  refine WL.bin (v := .bool (decide (x6 < ((x1.Operations).length : Int)))) e202 e203 (ib_lss _ _ _) ?_ (hg := (wanted_of rfl rfl (bool_tr e204 hc19)).trans rfl)
  exact WL.nil ⟨rfl, _, rfl, rfl, hs.cutG 0 0⟩ }
  {
  intro ρ w Γx Λx hs hu hp
  have e205 : ρ 22 = .bool (decide (0 ≤ x6)) := (hp 11 rfl).1
  have e206 : ρ 25 = .bool (decide (x6 < ((x1.Operations).length : Int))) := (hp 14 rfl).1
  refine WL.pickT (v := .bool (decide (x6 < ((x1.Operations).length : Int)))) (bool_tr e205 hc19) e206 ?_
  exact WL.nil ⟨rfl, _, rfl, rfl, hs.cutG 0 0⟩ }
  {
  intro ρ w Γx Λx hs hu hp
  have e207 : ρ 26 = .bool (decide (x6 < ((x1.Operations).length : Int))) := (hp 15 rfl).1
  refine WL.move (v := .bool (decide (x6 < ((x1.Operations).length : Int)))) e207 ?_
  exact WL.nil ⟨rfl, _, rfl, rfl, hs.cutG 0 0⟩ }
  {
  intro ρ w Γx Λx hs hu hp
  have e208 : ρ 27 = .bool (decide (x6 < ((x1.Operations).length : Int))) := (hp 16 rfl).1
  refine WL.fieldAddr (m := 0) (hu 3 rfl) FA24_0 rfl ?_ (hg := (wanted_of rfl rfl (bool_tr e208 hc20)).trans rfl)
  exact WL.nil ⟨rfl, _, rfl, rfl, hs.cutG 0 0⟩ }
  {
  intro ρ w Γx Λx hs hu hp
  have e209 : ρ 28 = .pointer (some ⟨g8, 0, none⟩) := (hp 17 rfl).1
  have e210 : ρ 27 = .bool (decide (x6 < ((x1.Operations).length : Int))) := (hp 16 rfl).1
  refine WL.loadF (z := x1.Operations) F_history_History_Operations hs (Λx.length + 0) (getApp rfl) (Γx.length + 1) (getApp rfl) rfl TI22 (.inr rfl) e209 rfl (fun v21 hs => ?_) (hg := (wanted_of rfl rfl (bool_tr e210 hc20)).trans rfl)
  obtain ⟨a22, c23, rfl⟩ := hs.slice 0 rfl
  have hs := hs.add (it := vl (tSlice t_history_Operation) x1.Operations (.slice a22 (x1.Operations).length c23)) fun ok hA => hA.get 0 rfl
  exact WL.nil ⟨rfl, _, rfl, ⟨(a22, c23), rfl⟩, hs.cutG 1 1⟩ }
  {
  intro ρ w Γx Λx hs hu hp
  have e211 : ρ 27 = .bool (decide (x6 < ((x1.Operations).length : Int))) := (hp 16 rfl).1
  refine WL.move (v := .int .i64 x5) (hu 1 rfl) ?_ (hg := (wanted_of rfl rfl (bool_tr e211 hc20)).trans rfl)
  exact WL.nil ⟨rfl, _, rfl, rfl, hs.cutG 0 0⟩ }
  {
  intro ρ w Γx Λx hs hu hp
  obtain ⟨⟨⟨a212, c213⟩, e214r⟩, hm215⟩ := hp 18 rfl
  have e214 : ρ 29 = .slice a212 (x1.Operations).length c213 := e214r
  rw [e214r] at hm215
  have hs := hs.memo1 (it := vl (tSlice t_history_Operation) x1.Operations (.slice a212 (x1.Operations).length c213)) (List.mem_append.2 (.inl (hm215 _ (List.mem_of_getElem? (i := 0) rfl))))
  have e216 : ρ 30 = .int .i64 x5 := (hp 19 rfl).1
  have e217 : ρ 27 = .bool (decide (x6 < ((x1.Operations).length : Int))) := (hp 16 rfl).1
  refine WL.indexAddr hs 0 rfl UN22 TI35 e214 e216 hxx24 (fun ad25 hs => ?_) (hg := (wanted_of rfl rfl (bool_tr e217 hc20)).trans rfl)
  have hs := hs.add (it := pl t_history_Operation x24 ad25) fun ok hA => hA.get 0 rfl
  exact WL.nil ⟨rfl, _, rfl, ⟨ad25, rfl⟩, hs.cutG 1 2⟩ }
  {
  intro ρ w Γx Λx hs hu hp
  obtain ⟨⟨ad218, e219r⟩, hm220⟩ := hp 20 rfl
  have e219 : ρ 31 = .pointer (some ad218) := e219r
  rw [e219r] at hm220
  have hs := hs.memo1 (it := pl t_history_Operation x24 ad218) (List.mem_append.2 (.inl (hm220 _ (List.mem_of_getElem? (i := 0) rfl))))
  have e221 : ρ 27 = .bool (decide (x6 < ((x1.Operations).length : Int))) := (hp 16 rfl).1
  refine WL.fieldAddrP (z := x24.Return) F_history_Operation_Return hs 0 rfl e219 FA35_5 rfl (fun ad26 hs => ?_) (hg := (wanted_of rfl rfl (bool_tr e221 hc20)).trans rfl)
  have hs := hs.add (it := pl (tInt .i64) x24.Return ad26) fun ok hA => hA.get 0 rfl
  exact WL.nil ⟨rfl, _, rfl, ⟨ad26, rfl⟩, hs.cutG 1 2⟩ }
  {
  intro ρ w Γx Λx hs hu hp
  obtain ⟨⟨ad222, e223r⟩, hm224⟩ := hp 21 rfl
  have e223 : ρ 32 = .pointer (some ad222) := e223r
  rw [e223r] at hm224
  have hs := hs.memo1 (it := pl (tInt .i64) x24.Return ad222) (List.mem_append.2 (.inl (hm224 _ (List.mem_of_getElem? (i := 0) rfl))))
  have e225 : ρ 27 = .bool (decide (x6 < ((x1.Operations).length : Int))) := (hp 16 rfl).1
  refine WL.loadP hs 0 rfl TI3 (.inr rfl) e223 (fun v27 hs => ?_) (hg := (wanted_of rfl rfl (bool_tr e225 hc20)).trans rfl)
  obtain rfl := hs.int 0 rfl
  exact WL.nil ⟨rfl, _, rfl, rfl, hs.cutG 0 2⟩ }
  {
  intro ρ w Γx Λx hs hu hp
  have e226 : ρ 33 = .int .i64 x24.Return := (hp 22 rfl).1
  have e227 : ρ 27 = .bool (decide (x6 < ((x1.Operations).length : Int))) := (hp 16 rfl).1
  refine WL.bin (v := .bool (x24.Return != 0)) e226 rfl (ib_neq _ _ _) ?_ (hg := (wanted_of rfl rfl (bool_tr e227 hc20)).trans rfl)
  exact WL.nil ⟨rfl, _, rfl, rfl, hs.cutG 0 0⟩ }
  {
  intro ρ w Γx Λx hs hu hp
  have e228 : ρ 27 = .bool (decide (x6 < ((x1.Operations).length : Int))) := (hp 16 rfl).1
  have e229 : ρ 34 = .bool (x24.Return != 0) := (hp 23 rfl).1
  refine WL.pickT (v := .bool (x24.Return != 0)) (bool_tr e228 hc20) e229 ?_
  exact WL.nil ⟨rfl, _, rfl, rfl, hs.cutG 0 0⟩ }
  {
  intro ρ w Γx Λx hs hu hp
  have e230 : ρ 35 = .bool (x24.Return != 0) := (hp 24 rfl).1
  refine WL.move (v := .bool (x24.Return != 0)) e230 ?_
  exact WL.nil ⟨rfl, _, rfl, rfl, hs.cutG 0 0⟩ }
  {
  intro ρ w Γx Λx hs hu hp
  have e231 : ρ 36 = .bool (x24.Return != 0) := (hp 25 rfl).1
  refine WL.pass ((wanted_of rfl rfl (bool_tr e231 hc28)).trans rfl) rfl ?_
  exact WL.nil ⟨rfl, _, rfl, rfl, hs.cutG 0 0⟩ }
  {
  intro ρ w Γx Λx hs hu hp
  have e232 : ρ 37 = undef := (hp 26 rfl).1
  have e233 : ρ 36 = .bool (x24.Return != 0) := (hp 25 rfl).1
  refine WL.pass ((wanted_of rfl rfl (bool_tr e233 hc28)).trans rfl) rfl ?_
  exact WL.nil ⟨rfl, _, rfl, rfl, hs.cutG 0 0⟩ }
  {
  intro ρ w Γx Λx hs hu hp
  have e234 : ρ 36 = .bool (x24.Return != 0) := (hp 25 rfl).1
  refine WL.pass ((wanted_of rfl rfl (bool_tr e234 hc28)).trans rfl) rfl ?_
  exact WL.nil ⟨rfl, _, rfl, rfl, hs.cutG 0 0⟩ }
  {
  intro ρ w Γx Λx hs hu hp
  have e235 : ρ 38 = undef := (hp 27 rfl).1
  have e236 : ρ 39 = undef := (hp 28 rfl).1
  have e237 : ρ 36 = .bool (x24.Return != 0) := (hp 25 rfl).1
  refine WL.pass ((wanted_of rfl rfl (bool_tr e237 hc28)).trans rfl) rfl ?_
  exact WL.nil ⟨rfl, _, rfl, rfl, hs.cutG 0 0⟩ }
  {
  intro ρ w Γx Λx hs hu hp
  have e238 : ρ 40 = undef := (hp 29 rfl).1
  have e239 : ρ 36 = .bool (x24.Return != 0) := (hp 25 rfl).1
  refine WL.pass ((wanted_of rfl rfl (bool_tr e239 hc28)).trans rfl) rfl ?_
  exact WL.nil ⟨rfl, _, rfl, rfl, hs.cutG 0 0⟩ }
  {
  intro ρ w Γx Λx hs hu hp
  have e240 : ρ 41 = undef := (hp 30 rfl).1
  have e241 : ρ 36 = .bool (x24.Return != 0) := (hp 25 rfl).1
  refine WL.pass ((wanted_of rfl rfl (bool_tr e241 hc28)).trans rfl) rfl ?_
  exact WL.nil ⟨rfl, _, rfl, rfl, hs.cutG 0 0⟩ }
  {
  intro ρ w Γx Λx hs hu hp
  have e242 : ρ 36 = .bool (x24.Return != 0) := (hp 25 rfl).1
  refine WL.pass ((wanted_of rfl rfl (bool_tr e242 hc28)).trans rfl) rfl ?_
  exact WL.nil ⟨rfl, _, rfl, rfl, hs.cutG 0 0⟩ }
  {
  intro ρ w Γx Λx hs hu hp
  have e243 : ρ 43 = undef := (hp 32 rfl).1
  have e244 : ρ 36 = .bool (x24.Return != 0) := (hp 25 rfl).1
  refine WL.pass ((wanted_of rfl rfl (bool_tr e244 hc28)).trans rfl) rfl ?_
  exact WL.nil ⟨rfl, _, rfl, rfl, hs.cutG 0 0⟩ }
  {
  intro ρ w Γx Λx hs hu hp
  have e245 : ρ 36 = .bool (x24.Return != 0) := (hp 25 rfl).1
  refine WL.pass ((wanted_of rfl rfl (bool_tr e245 hc28)).trans rfl) rfl ?_
  exact WL.nil ⟨rfl, _, rfl, rfl, hs.cutG 0 0⟩ }
  {
  intro ρ w Γx Λx hs hu hp
  have e246 : ρ 44 = undef := (hp 33 rfl).1
  have e247 : ρ 45 = undef := (hp 34 rfl).1
  have e248 : ρ 36 = .bool (x24.Return != 0) := (hp 25 rfl).1
  refine WL.pass ((wanted_of rfl rfl (bool_tr e248 hc28)).trans rfl) rfl ?_
  exact WL.nil ⟨rfl, _, rfl, rfl, hs.cutG 0 0⟩ }
  {
  intro ρ w Γx Λx hs hu hp
  have e249 : ρ 46 = undef := (hp 35 rfl).1
  have e250 : ρ 36 = .bool (x24.Return != 0) := (hp 25 rfl).1
  refine WL.pass ((wanted_of rfl rfl (bool_tr e250 hc28)).trans rfl) rfl ?_
  exact WL.nil ⟨rfl, _, rfl, rfl, hs.cutG 0 0⟩ }
  {
  intro ρ w Γx Λx hs hu hp
  have e251 : ρ 47 = undef := (hp 36 rfl).1
  have e252 : ρ 36 = .bool (x24.Return != 0) := (hp 25 rfl).1
  refine WL.pass ((wanted_of rfl rfl (bool_tr e252 hc28)).trans rfl) rfl ?_
  exact WL.nil ⟨rfl, _, rfl, rfl, hs.cutG 0 0⟩ }
  {
  intro ρ w Γx Λx hs hu hp
  have e253 : ρ 42 = undef := (hp 31 rfl).1
  have e254 : ρ 48 = undef := (hp 37 rfl).1
  have e255 : ρ 36 = .bool (x24.Return != 0) := (hp 25 rfl).1
  refine WL.pass ((wanted_of rfl rfl (bool_tr e255 hc28)).trans rfl) rfl ?_
  exact WL.nil ⟨rfl, _, rfl, rfl, hs.cutG 0 0⟩ }
  {
  intro ρ w Γx Λx hs hu hp
  have e256 : ρ 36 = .bool (x24.Return != 0) := (hp 25 rfl).1
  have e257 : ρ 49 = undef := (hp 38 rfl).1
  refine WL.pickF (v := .bool false) (bool_tr e256 hc28) rfl ?_
  exact WL.nil ⟨rfl, _, rfl, rfl, hs.cutG 0 0⟩ }
  {
  intro ρ w hs hu258 hp
  obtain ⟨⟨⟨⟨⟨⟨⟨⟨⟨⟨⟨⟨⟨⟨⟨⟨⟨⟨⟨⟨⟨⟨⟨⟨⟨⟨⟨⟨⟨⟨⟨⟨⟨⟨⟨⟨⟨⟨⟨⟨_, hp0_⟩, hp1_⟩, hp2_⟩, hp3_⟩, hp4_⟩, hp5_⟩, hp6_⟩, hp7_⟩, hp8_⟩, hp9_⟩, hp10_⟩, hp11_⟩, hp12_⟩, hp13_⟩, hp14_⟩, hp15_⟩, hp16_⟩, hp17_⟩, hp18_⟩, hp19_⟩, hp20_⟩, hp21_⟩, hp22_⟩, hp23_⟩, hp24_⟩, hp25_⟩, hp26_⟩, hp27_⟩, hp28_⟩, hp29_⟩, hp30_⟩, hp31_⟩, hp32_⟩, hp33_⟩, hp34_⟩, hp35_⟩, hp36_⟩, hp37_⟩, hp38_⟩, hp39_⟩ := hp
  have hs : St ok (bz w0) w [pl (tInt .i64) x24.Return (adOf (ρ 32)), pl t_history_Operation x24 (adOf (ρ 31)), vl (tSlice t_history_Operation) x1.Operations (ρ 29), vl (tSlice t_history_Operation) x1.Operations (.slice a11 (x1.Operations).length c12), vl t_history_History x1 (.agg cs3.toArray)] [blk g8 24 cs3] := hs
  have e259 : ρ 50 = .bool false := hp39_
  have e260 : ρ 49 = undef := hp38_
  have e261 : ρ 48 = undef := hp37_
  have e262 : ρ 47 = undef := hp36_
  have e263 : ρ 46 = undef := hp35_
  have e264 : ρ 45 = undef := hp34_
  have e265 : ρ 44 = undef := hp33_
  have e266 : ρ 43 = undef := hp32_
  have e267 : ρ 42 = undef := hp31_
  have e268 : ρ 41 = undef := hp30_
  have e269 : ρ 40 = undef := hp29_
  have e270 : ρ 39 = undef := hp28_
  have e271 : ρ 38 = undef := hp27_
  have e272 : ρ 37 = undef := hp26_
  have e273 : ρ 36 = .bool (x24.Return != 0) := hp25_
  have e274 : ρ 35 = .bool (x24.Return != 0) := hp24_
  have e275 : ρ 34 = .bool (x24.Return != 0) := hp23_
  have e276 : ρ 33 = .int .i64 x24.Return := hp22_
  obtain ⟨ad277, e278⟩ := hp21_
  have e278 : ρ 32 = .pointer (some ad277) := e278
  try rw [e278] at hs
  obtain ⟨ad279, e280⟩ := hp20_
  have e280 : ρ 31 = .pointer (some ad279) := e280
  try rw [e280] at hs
  have e281 : ρ 30 = .int .i64 x5 := hp19_
  obtain ⟨⟨a282, c283⟩, e284⟩ := hp18_
  have e284 : ρ 29 = .slice a282 (x1.Operations).length c283 := e284
  try rw [e284] at hs
  have e285 : ρ 28 = .pointer (some ⟨g8, 0, none⟩) := hp17_
  have e286 : ρ 27 = .bool (decide (x6 < ((x1.Operations).length : Int))) := hp16_
  have e287 : ρ 26 = .bool (decide (x6 < ((x1.Operations).length : Int))) := hp15_
  have e288 : ρ 25 = .bool (decide (x6 < ((x1.Operations).length : Int))) := hp14_
  have e289 : ρ 24 = .int .i64 ((x1.Operations).length : Int) := hp13_
  have e290 : ρ 23 = .int .i64 x6 := hp12_
  have e291 : ρ 22 = .bool (decide (0 ≤ x6)) := hp11_
  have e292 : ρ 21 = .bool (decide (0 ≤ x6)) := hp10_
  have e293 : ρ 20 = .bool (decide (0 ≤ x6)) := hp9_
  have e294 : ρ 19 = .int .i64 x6 := hp8_
  have e295 : ρ 18 = .bool (decide (x5 < ((x1.Operations).length : Int))) := hp7_
  have e296 : ρ 17 = .bool (decide (x5 < ((x1.Operations).length : Int))) := hp6_
  have e297 : ρ 16 = .bool (decide (x5 < ((x1.Operations).length : Int))) := hp5_
  have e298 : ρ 15 = .int .i64 ((x1.Operations).length : Int) := hp4_
  have e299 : ρ 14 = .int .i64 x5 := hp3_
  have e300 : ρ 13 = .bool (decide (0 ≤ x5)) := hp2_
  have e301 : ρ 12 = .bool (decide (0 ≤ x5)) := hp1_
  have e302 : ρ 11 = .int .i64 x5 := hp0_
  refine WA.step [40] (by kernel_rfl) (by simp) ⟨?_, trivial⟩
  refine WL.assign (v := .bool false) e259 ?_
  refine WL.nil ⟨rfl, _, rfl, ?_⟩
  refine WA.done (by kernel_rfl) ?_
  exact Jk16 false _ _ rfl ((hs.mask []).pick []) hf } } }
  {
  refine W.any (by kernel_rfl) 40 1 [true, true, true, true, true, true, true, true, true, true, true, true, true, true, true, true, true, true, true, true, true, true, true, true, true, true, true, true, true, true, true, true, true, true, true, true, true, true, true, true, false] rfl rfl (poAt [pv (.int .i64 x5), pv (.bool (decide (0 ≤ x5))), pv (.bool (decide (0 ≤ x5))), pv (.int .i64 x5), pv (.int .i64 ((x1.Operations).length : Int)), pv (.bool (decide (x5 < ((x1.Operations).length : Int)))), pv (.bool (decide (x5 < ((x1.Operations).length : Int)))), pv (.bool (decide (x5 < ((x1.Operations).length : Int)))), pv (.int .i64 x6), pv (.bool (decide (0 ≤ x6))), pv (.bool (decide (0 ≤ x6))), pv (.bool (decide (0 ≤ x6))), pv (.int .i64 x6), pv (.int .i64 ((x1.Operations).length : Int)), pv (.bool (decide (x6 < ((x1.Operations).length : Int)))), pv (.bool (decide (x6 < ((x1.Operations).length : Int)))), pv (.bool (decide (x6 < ((x1.Operations).length : Int)))), pv (undef), pv (undef), pv (undef), pv (undef), pv (undef), pv (undef), pv (undef), pv (.bool false), pv (.bool false), pv (undef), pv (undef), pv (undef), pv (undef), pv (undef), pv (undef), pv (undef), pv (undef), pv (undef), pv (undef), pv (undef), pv (undef), pv (undef), pv (.bool false)]) (Λ := [blk g8 24 cs3]) hs (by kernel_rfl) (by kernel_rfl) (by kernel_rfl) ⟨⟨⟨⟨⟨⟨⟨⟨⟨⟨⟨⟨⟨⟨⟨⟨⟨⟨⟨⟨⟨⟨⟨⟨⟨⟨⟨⟨⟨⟨⟨⟨⟨⟨⟨⟨⟨⟨⟨⟨trivial, ?_⟩, ?_⟩, ?_⟩, ?_⟩, ?_⟩, ?_⟩, ?_⟩, ?_⟩, ?_⟩, ?_⟩, ?_⟩, ?_⟩, ?_⟩, ?_⟩, ?_⟩, ?_⟩, ?_⟩, ?_⟩, ?_⟩, ?_⟩, ?_⟩, ?_⟩, ?_⟩, ?_⟩, ?_⟩, ?_⟩, ?_⟩, ?_⟩, ?_⟩, ?_⟩, ?_⟩, ?_⟩, ?_⟩, ?_⟩, ?_⟩, ?_⟩, ?_⟩, ?_⟩, ?_⟩, ?_⟩ ?_
  {
  intro ρ w Γx Λx hs hu hp
  refine WL.move (v := .int .i64 x5) (hu 1 rfl) ?_
  exact WL.nil ⟨rfl, _, rfl, rfl, hs.cutG 0 0⟩ }
  {
  intro ρ w Γx Λx hs hu hp
  have e303 : ρ 11 = .int .i64 x5 := (hp 0 rfl).1
  refine WL.bin (v := .bool (decide (0 ≤ x5))) e303 rfl (ib_geq _ _ _) ?_
  exact WL.nil ⟨rfl, _, rfl, rfl, hs.cutG 0 0⟩ }
  {
  intro ρ w Γx Λx hs hu hp
  have e304 : ρ 12 = .bool (decide (0 ≤ x5)) := (hp 1 rfl).1
  refine WL.move (v := .bool (decide (0 ≤ x5))) e304 ?_
  exact WL.nil ⟨rfl, _, rfl, rfl, hs.cutG 0 0⟩ }
  {
  intro ρ w Γx Λx hs hu hp
  have e305 : ρ 13 = .bool (decide (0 ≤ x5)) := (hp 2 rfl).1
  refine WL.move (v := .int .i64 x5) (hu 1 rfl) ?_ (hg := (wanted_of rfl rfl (bool_tr e305 hc17)).trans rfl)
  exact WL.nil ⟨rfl, _, rfl, rfl, hs.cutG 0 0⟩ }
  {
  intro ρ w Γx Λx hs hu hp
  have e306 : ρ 13 = .bool (decide (0 ≤ x5)) := (hp 2 rfl).1
  refine WL.move (v := .int .i64 ((x1.Operations).length : Int)) (hu 7 rfl) ?_ (hg := (wanted_of rfl rfl (bool_tr e306 hc17)).trans rfl)
  exact WL.nil ⟨rfl, _, rfl, rfl, hs.cutG 0 0⟩ }
  {
  intro ρ w Γx Λx hs hu hp
  have e307 : ρ 14 = .int .i64 x5 := (hp 3 rfl).1
  have e308 : ρ 15 = .int .i64 ((x1.Operations).length : Int) := (hp 4 rfl).1
  have e309 : ρ 13 = .bool (decide (0 ≤ x5)) := (hp 2 rfl).1
  refine WL.bin (v := .bool (decide (x5 < ((x1.Operations).length : Int)))) e307 e308 (ib_lss _ _ _) ?_ (hg := (wanted_of rfl rfl (bool_tr e309 hc17)).trans rfl)
  exact WL.nil ⟨rfl, _, rfl, rfl, hs.cutG 0 0⟩ }
  {
  intro ρ w Γx Λx hs hu hp
  have e310 : ρ 13 = .bool (decide (0 ≤ x5)) := (hp 2 rfl).1
  have e311 : ρ 16 = .bool (decide (x5 < ((x1.Operations).length : Int))) := (hp 5 rfl).1
  refine WL.pickT (v := .bool (decide (x5 < ((x1.Operations).length : Int)))) (bool_tr e310 hc17) e311 ?_
  exact WL.nil ⟨rfl, _, rfl, rfl, hs.cutG 0 0⟩ }
  {
  intro ρ w Γx Λx hs hu hp
  have e312 : ρ 17 = .bool (decide (x5 < ((x1.Operations).length : Int))) := (hp 6 rfl).1
  refine WL.move (v := .bool (decide (x5 < ((x1.Operations).length : Int)))) e312 ?_
  exact WL.nil ⟨rfl, _, rfl, rfl, hs.cutG 0 0⟩ }
  {
  intro ρ w Γx Λx hs hu hp
  have e313 : ρ 18 = .bool (decide (x5 < ((x1.Operations).length : Int))) := (hp 7 rfl).1
  refine WL.move (v := .int .i64 x6) (hu 2 rfl) ?_ (hg := (wanted_of rfl rfl (bool_tr e313 hc18)).trans rfl)
  exact WL.nil ⟨rfl, _, rfl, rfl, hs.cutG 0 0⟩ }
  {
  intro ρ w Γx Λx hs hu hp
  have e314 : ρ 19 = .int .i64 x6 := (hp 8 rfl).1
  have e315 : ρ 18 = .bool (decide (x5 < ((x1.Operations).length : Int))) := (hp 7 rfl).1
  refine WL.bin (v := .bool (decide (0 ≤ x6))) e314 rfl (ib_geq _ _ _) ?_ (hg := (wanted_of rfl rfl (bool_tr e315 hc18)).trans rfl)
  exact WL.nil ⟨rfl, _, rfl, rfl, hs.cutG 0 0⟩ }
  {
  intro ρ w Γx Λx hs hu hp
  have e316 : ρ 18 = .bool (decide (x5 < ((x1.Operations).length : Int))) := (hp 7 rfl).1
  have e317 : ρ 20 = .bool (decide (0 ≤ x6)) := (hp 9 rfl).1
  refine WL.pickT (v := .bool (decide (0 ≤ x6))) (bool_tr e316 hc18) e317 ?_
  exact WL.nil ⟨rfl, _, rfl, rfl, hs.cutG 0 0⟩ }
  {
  intro ρ w Γx Λx hs hu hp
  have e318 : ρ 21 = .bool (decide (0 ≤ x6)) := (hp 10 rfl).1
  refine WL.move (v := .bool (decide (0 ≤ x6))) e318 ?_
  exact WL.nil ⟨rfl, _, rfl, rfl, hs.cutG 0 0⟩ }
  {
  intro ρ w Γx Λx hs hu hp
  have e319 : ρ 22 = .bool (decide (0 ≤ x6)) := (hp 11 rfl).1
  refine WL.move (v := .int .i64 x6) (hu 2 rfl) ?_ (hg := (wanted_of rfl rfl (bool_tr e319 hc19)).trans rfl)
  exact WL.nil ⟨rfl, _, rfl, rfl, hs.cutG 0 0⟩ }
  {
  intro ρ w Γx Λx hs hu hp
  have e320 : ρ 22 = .bool (decide (0 ≤ x6)) := (hp 11 rfl).1
  refine WL.move (v := .int .i64 ((x1.Operations).length : Int)) (hu 7 rfl) ?_ (hg := (wanted_of rfl rfl (bool_tr e320 hc19)).trans rfl)
  exact WL.nil ⟨rfl, _, rfl, rfl, hs.cutG 0 0⟩ }
  {
  intro ρ w Γx Λx hs hu hp
  have e321 : ρ 23 = .int .i64 x6 := (hp 12 rfl).1
  have e322 : ρ 24 = .int .i64 ((x1.Operations).length : Int) := (hp 13 rfl).1
  have e323 : ρ 22 = .bool (decide (0 ≤ x6)) := (hp 11 rfl).1
  refine WL.bin (v := .bool (decide (x6 < ((x1.Operations).length : Int)))) e321 e322 (ib_lss _ _ _) ?_ (hg := (wanted_of rfl rfl (bool_tr e323 hc19)).trans rfl)
  exact WL.nil ⟨rfl, _, rfl, rfl, hs.cutG 0 0⟩ }
  {
  intro ρ w Γx Λx hs hu hp
  have e324 : ρ 22 = .bool (decide (0 ≤ x6)) := (hp 11 rfl).1
  have e325 : ρ 25 = .bool (decide (x6 < ((x1.Operations).length : Int))) := (hp 14 rfl).1
  refine WL.pickT (v := .bool (decide (x6 < ((x1.Operations).length : Int)))) (bool_tr e324 hc19) e325 ?_
  exact WL.nil ⟨rfl, _, rfl, rfl, hs.cutG 0 0⟩ }
  {
  intro ρ w Γx Λx hs hu hp
  have e326 : ρ 26 = .bool (decide (x6 < ((x1.Operations).length : Int))) := (hp 15 rfl).1
  refine WL.move (v := .bool (decide (x6 < ((x1.Operations).length : Int)))) e326 ?_
  exact WL.nil ⟨rfl, _, rfl, rfl, hs.cutG 0 0⟩ }
  {
  intro ρ w Γx Λx hs hu hp
  have e327 : ρ 27 = .bool (decide (x6 < ((x1.Operations).length : Int))) := (hp 16 rfl).1
  refine WL.pass ((wanted_of rfl rfl (bool_tr e327 hc20)).trans rfl) rfl ?_
  exact WL.nil ⟨rfl, _, rfl, rfl, hs.cutG 0 0⟩ }
  {
  intro ρ w Γx Λx hs hu hp
  have e328 : ρ 28 = undef := (hp 17 rfl).1
  have e329 : ρ 27 = .bool (decide (x6 < ((x1.Operations).length : Int))) := (hp 16 rfl).1
  refine WL.pass ((wanted_of rfl rfl (bool_tr e329 hc20)).trans rfl) rfl ?_
  exact WL.nil ⟨rfl, _, rfl, rfl, hs.cutG 0 0⟩ }
  {
  intro ρ w Γx Λx hs hu hp
  have e330 : ρ 27 = .bool (decide (x6 < ((x1.Operations).length : Int))) := (hp 16 rfl).1
  refine WL.pass ((wanted_of rfl rfl (bool_tr e330 hc20)).trans rfl) rfl ?_
  exact WL.nil ⟨rfl, _, rfl, rfl, hs.cutG 0 0⟩ }
  {
  intro ρ w Γx Λx hs hu hp
  have e331 : ρ 29 = undef := (hp 18 rfl).1
  have e332 : ρ 30 = undef := (hp 19 rfl).1
  have e333 : ρ 27 = .bool (decide (x6 < ((x1.Operations).length : Int))) := (hp 16 rfl).1
  refine WL.pass ((wanted_of rfl rfl (bool_tr e333 hc20)).trans rfl) rfl ?_
  exact WL.nil ⟨rfl, _, rfl, rfl, hs.cutG 0 0⟩ }
  {
  intro ρ w Γx Λx hs hu hp
  have e334 : ρ 31 = undef := (hp 20 rfl).1
  have e335 : ρ 27 = .bool (decide (x6 < ((x1.Operations).length : Int))) := (hp 16 rfl).1
  refine WL.pass ((wanted_of rfl rfl (bool_tr e335 hc20)).trans rfl) rfl ?_
  exact WL.nil ⟨rfl, _, rfl, rfl, hs.cutG 0 0⟩ }
  {
  intro ρ w Γx Λx hs hu hp
  have e336 : ρ 32 = undef := (hp 21 rfl).1
  have e337 : ρ 27 = .bool (decide (x6 < ((x1.Operations).length : Int))) := (hp 16 rfl).1
  refine WL.pass ((wanted_of rfl rfl (bool_tr e337 hc20)).trans rfl) rfl ?_
  exact WL.nil ⟨rfl, _, rfl, rfl, hs.cutG 0 0⟩ }
  {
  intro ρ w Γx Λx hs hu hp
  have e338 : ρ 33 = undef := (hp 22 rfl).1
  have e339 : ρ 27 = .bool (decide (x6 < ((x1.Operations).length : Int))) := (hp 16 rfl).1
  refine WL.pass ((wanted_of rfl rfl (bool_tr e339 hc20)).trans rfl) rfl ?_
  exact WL.nil ⟨rfl, _, rfl, rfl, hs.cutG 0 0⟩ }
  {
  intro ρ w Γx Λx hs hu hp
  have e340 : ρ 27 = .bool (decide (x6 < ((x1.Operations).length : Int))) := (hp 16 rfl).1
  have e341 : ρ 34 = undef := (hp 23 rfl).1
  refine WL.pickF (v := .bool false) (bool_tr e340 hc20) rfl ?_
  exact WL.nil ⟨rfl, _, rfl, rfl, hs.cutG 0 0⟩ }
  {
  intro ρ w Γx Λx hs hu hp
  have e342 : ρ 35 = .bool false := (hp 24 rfl).1
  refine WL.move (v := .bool false) e342 ?_
  exact WL.nil ⟨rfl, _, rfl, rfl, hs.cutG 0 0⟩ }
  {
  intro ρ w Γx Λx hs hu hp
  have e343 : ρ 36 = .bool false := (hp 25 rfl).1
  refine WL.pass ((wanted_of rfl rfl e343).trans rfl) rfl ?_
  exact WL.nil ⟨rfl, _, rfl, rfl, hs.cutG 0 0⟩ }
  {
  intro ρ w Γx Λx hs hu hp
  have e344 : ρ 37 = undef := (hp 26 rfl).1
  have e345 : ρ 36 = .bool false := (hp 25 rfl).1
  refine WL.pass ((wanted_of rfl rfl e345).trans rfl) rfl ?_
  exact WL.nil ⟨rfl, _, rfl, rfl, hs.cutG 0 0⟩ }
  {
  intro ρ w Γx Λx hs hu hp
  have e346 : ρ 36 = .bool false := (hp 25 rfl).1
  refine WL.pass ((wanted_of rfl rfl e346).trans rfl) rfl ?_
  exact WL.nil ⟨rfl, _, rfl, rfl, hs.cutG 0 0⟩ }
  {
  intro ρ w Γx Λx hs hu hp
  have e347 : ρ 38 = undef := (hp 27 rfl).1
  have e348 : ρ 39 = undef := (hp 28 rfl).1
  have e349 : ρ 36 = .bool false := (hp 25 rfl).1
  refine WL.pass ((wanted_of rfl rfl e349).trans rfl) rfl ?_
  exact WL.nil ⟨rfl, _, rfl, rfl, hs.cutG 0 0⟩ }
  {
  intro ρ w Γx Λx hs hu hp
  have e350 : ρ 40 = undef := (hp 29 rfl).1
  have e351 : ρ 36 = .bool false := (hp 25 rfl).1
  refine WL.pass ((wanted_of rfl rfl e351).trans rfl) rfl ?_
  exact WL.nil ⟨rfl, _, rfl, rfl, hs.cutG 0 0⟩ }
  {
  intro ρ w Γx Λx hs hu hp
  have e352 : ρ 41 = undef := (hp 30 rfl).1
  have e353 : ρ 36 = .bool false := (hp 25 rfl).1
  refine WL.pass ((wanted_of rfl rfl e353).trans rfl) rfl ?_
  exact WL.nil ⟨rfl, _, rfl, rfl, hs.cutG 0 0⟩ }
  {
  intro ρ w Γx Λx hs hu hp
  have e354 : ρ 36 = .bool false := (hp 25 rfl).1
  refine WL.pass ((wanted_of rfl rfl e354).trans rfl) rfl ?_
  exact WL.nil ⟨rfl, _, rfl, rfl, hs.cutG 0 0⟩ }
  {
  intro ρ w Γx Λx hs hu hp
  have e355 : ρ 43 = undef := (hp 32 rfl).1
  have e356 : ρ 36 = .bool false := (hp 25 rfl).1
  refine WL.pass ((wanted_of rfl rfl e356).trans rfl) rfl ?_
  exact WL.nil ⟨rfl, _, rfl, rfl, hs.cutG 0 0⟩ }
  {
  intro ρ w Γx Λx hs hu hp
  have e357 : ρ 36 = .bool false := (hp 25 rfl).1
  refine WL.pass ((wanted_of rfl rfl e357).trans rfl) rfl ?_
  exact WL.nil ⟨rfl, _, rfl, rfl, hs.cutG 0 0⟩ }
  {
  intro ρ w Γx Λx hs hu hp
  have e358 : ρ 44 = undef := (hp 33 rfl).1
  have e359 : ρ 45 = undef := (hp 34 rfl).1
  have e360 : ρ 36 = .bool false := (hp 25 rfl).1
  refine WL.pass ((wanted_of rfl rfl e360).trans rfl) rfl ?_
  exact WL.nil ⟨rfl, _, rfl, rfl, hs.cutG 0 0⟩ }
  {
  intro ρ w Γx Λx hs hu hp
  have e361 : ρ 46 = undef := (hp 35 rfl).1
  have e362 : ρ 36 = .bool false := (hp 25 rfl).1
  refine WL.pass ((wanted_of rfl rfl e362).trans rfl) rfl ?_
  exact WL.nil ⟨rfl, _, rfl, rfl, hs.cutG 0 0⟩ }
  {
  intro ρ w Γx Λx hs hu hp
  have e363 : ρ 47 = undef := (hp 36 rfl).1
  have e364 : ρ 36 = .bool false := (hp 25 rfl).1
  refine WL.pass ((wanted_of rfl rfl e364).trans rfl) rfl ?_
  exact WL.nil ⟨rfl, _, rfl, rfl, hs.cutG 0 0⟩ }
  {
  intro ρ w Γx Λx hs hu hp
  have e365 : ρ 42 = undef := (hp 31 rfl).1
  have e366 : ρ 48 = undef := (hp 37 rfl).1
  have e367 : ρ 36 = .bool false := (hp 25 rfl).1
  refine WL.pass ((wanted_of rfl rfl e367).trans rfl) rfl ?_
  exact WL.nil ⟨rfl, _, rfl, rfl, hs.cutG 0 0⟩ }
  {
  intro ρ w Γx Λx hs hu hp
  have e368 : ρ 36 = .bool false := (hp 25 rfl).1
  have e369 : ρ 49 = undef := (hp 38 rfl).1
  refine WL.pickF (v := .bool false) e368 rfl ?_
  exact WL.nil ⟨rfl, _, rfl, rfl, hs.cutG 0 0⟩ }
  {
  intro ρ w hs hu370 hp
  obtain ⟨⟨⟨⟨⟨⟨⟨⟨⟨⟨⟨⟨⟨⟨⟨⟨⟨⟨⟨⟨⟨⟨⟨⟨⟨⟨⟨⟨⟨⟨⟨⟨⟨⟨⟨⟨⟨⟨⟨⟨_, hp0_⟩, hp1_⟩, hp2_⟩, hp3_⟩, hp4_⟩, hp5_⟩, hp6_⟩, hp7_⟩, hp8_⟩, hp9_⟩, hp10_⟩, hp11_⟩, hp12_⟩, hp13_⟩, hp14_⟩, hp15_⟩, hp16_⟩, hp17_⟩, hp18_⟩, hp19_⟩, hp20_⟩, hp21_⟩, hp22_⟩, hp23_⟩, hp24_⟩, hp25_⟩, hp26_⟩, hp27_⟩, hp28_⟩, hp29_⟩, hp30_⟩, hp31_⟩, hp32_⟩, hp33_⟩, hp34_⟩, hp35_⟩, hp36_⟩, hp37_⟩, hp38_⟩, hp39_⟩ := hp
  have hs : St ok (bz w0) w [vl (tSlice t_history_Operation) x1.Operations (.slice a11 (x1.Operations).length c12), vl t_history_History x1 (.agg cs3.toArray)] [blk g8 24 cs3] := hs
  have e371 : ρ 50 = .bool false := hp39_
  have e372 : ρ 49 = undef := hp38_
  have e373 : ρ 48 = undef := hp37_
  have e374 : ρ 47 = undef := hp36_
  have e375 : ρ 46 = undef := hp35_
  have e376 : ρ 45 = undef := hp34_
  have e377 : ρ 44 = undef := hp33_
  have e378 : ρ 43 = undef := hp32_
  have e379 : ρ 42 = undef := hp31_
  have e380 : ρ 41 = undef := hp30_
  have e381 : ρ 40 = undef := hp29_
  have e382 : ρ 39 = undef := hp28_
  have e383 : ρ 38 = undef := hp27_
  have e384 : ρ 37 = undef := hp26_
  have e385 : ρ 36 = .bool false := hp25_
  have e386 : ρ 35 = .bool false := hp24_
  have e387 : ρ 34 = undef := hp23_
  have e388 : ρ 33 = undef := hp22_
  have e389 : ρ 32 = undef := hp21_
  have e390 : ρ 31 = undef := hp20_
  have e391 : ρ 30 = undef := hp19_
  have e392 : ρ 29 = undef := hp18_
  have e393 : ρ 28 = undef := hp17_
  have e394 : ρ 27 = .bool (decide (x6 < ((x1.Operations).length : Int))) := hp16_
  have e395 : ρ 26 = .bool (decide (x6 < ((x1.Operations).length : Int))) := hp15_
  have e396 : ρ 25 = .bool (decide (x6 < ((x1.Operations).length : Int))) := hp14_
  have e397 : ρ 24 = .int .i64 ((x1.Operations).length : Int) := hp13_
  have e398 : ρ 23 = .int .i64 x6 := hp12_
  have e399 : ρ 22 = .bool (decide (0 ≤ x6)) := hp11_
  have e400 : ρ 21 = .bool (decide (0 ≤ x6)) := hp10_
  have e401 : ρ 20 = .bool (decide (0 ≤ x6)) := hp9_
  have e402 : ρ 19 = .int .i64 x6 := hp8_
  have e403 : ρ 18 = .bool (decide (x5 < ((x1.Operations).length : Int))) := hp7_
  have e404 : ρ 17 = .bool (decide (x5 < ((x1.Operations).length : Int))) := hp6_
  have e405 : ρ 16 = .bool (decide (x5 < ((x1.Operations).length : Int))) := hp5_
  have e406 : ρ 15 = .int .i64 ((x1.Operations).length : Int) := hp4_
  have e407 : ρ 14 = .int .i64 x5 := hp3_
  have e408 : ρ 13 = .bool (decide (0 ≤ x5)) := hp2_
  have e409 : ρ 12 = .bool (decide (0 ≤ x5)) := hp1_
  have e410 : ρ 11 = .int .i64 x5 := hp0_
  refine WA.step [40] (by kernel_rfl) (by simp) ⟨?_, trivial⟩
  refine WL.assign (v := .bool false) e371 ?_
  refine WL.nil ⟨rfl, _, rfl, ?_⟩
  refine WA.done (by kernel_rfl) ?_
  exact Jk16 false _ _ rfl ((hs.mask []).pick []) hf } } }
  {
  refine W.any (by kernel_rfl) 40 1 [true, true, true, true, true, true, true, true, true, true, true, true, true, true, true, true, true, true, true, true, true, true, true, true, true, true, true, true, true, true, true, true, true, true, true, true, true, true, true, true, false] rfl rfl (poAt [pv (.int .i64 x5), pv (.bool (decide (0 ≤ x5))), pv (.bool (decide (0 ≤ x5))), pv (.int .i64 x5), pv (.int .i64 ((x1.Operations).length : Int)), pv (.bool (decide (x5 < ((x1.Operations).length : Int)))), pv (.bool (decide (x5 < ((x1.Operations).length : Int)))), pv (.bool (decide (x5 < ((x1.Operations).length : Int)))), pv (.int .i64 x6), pv (.bool (decide (0 ≤ x6))), pv (.bool (decide (0 ≤ x6))), pv (.bool (decide (0 ≤ x6))), pv (undef), pv (undef), pv (undef), pv (.bool false), pv (.bool false), pv (undef), pv (undef), pv (undef), pv (undef), pv (undef), pv (undef), pv (undef), pv (.bool false), pv (.bool false), pv (undef), pv (undef), pv (undef), pv (undef), pv (undef), pv (undef), pv (undef), pv (undef), pv (undef), pv (undef), pv (undef), pv (undef), pv (undef), pv (.bool false)]) (Λ := [blk g8 24 cs3]) hs (by kernel_rfl) (by kernel_rfl) (by kernel_rfl) ⟨⟨⟨⟨⟨⟨⟨⟨⟨⟨⟨⟨⟨⟨⟨⟨⟨⟨⟨⟨⟨⟨⟨⟨⟨⟨⟨⟨⟨⟨⟨⟨⟨⟨⟨⟨⟨⟨⟨⟨trivial, ?_⟩, ?_⟩, ?_⟩, ?_⟩, ?_⟩, ?_⟩, ?_⟩, ?_⟩, ?_⟩, ?_⟩, ?_⟩, ?_⟩, ?_⟩, ?_⟩, ?_⟩, ?_⟩, ?_⟩, ?_⟩, ?_⟩, ?_⟩, ?_⟩, ?_⟩, ?_⟩, ?_⟩, ?_⟩, ?_⟩, ?_⟩, ?_⟩, ?_⟩, ?_⟩, ?_⟩, ?_⟩, ?_⟩, ?_⟩, ?_⟩, ?_⟩, ?_⟩, ?_⟩, ?_⟩, ?_⟩ ?_
  {
  intro ρ w Γx Λx hs hu hp
  refine WL.move (v := .int .i64 x5) (hu 1 rfl) ?_
  exact WL.nil ⟨rfl, _, rfl, rfl, hs.cutG 0 0⟩ }
  {
  intro ρ w Γx Λx hs hu hp
  have e411 : ρ 11 = .int .i64 x5 := (hp 0 rfl).1
  refine WL.bin (v := .bool (decide (0 ≤ x5))) e411 rfl (ib_geq _ _ _) ?_
  exact WL.nil ⟨rfl, _, rfl, rfl, hs.cutG 0 0⟩ }
  {
  intro ρ w Γx Λx hs hu hp
  have e412 : ρ 12 = .bool (decide (0 ≤ x5)) := (hp 1 rfl).1
  refine WL.move (v := .bool (decide (0 ≤ x5))) e412 ?_
  exact WL.nil ⟨rfl, _, rfl, rfl, hs.cutG 0 0⟩ }
  {
  intro ρ w Γx Λx hs hu hp
  have e413 : ρ 13 = .bool (decide (0 ≤ x5)) := (hp 2 rfl).1
  refine WL.move (v := .int .i64 x5) (hu 1 rfl) ?_ (hg := (wanted_of rfl rfl (bool_tr e413 hc17)).trans rfl)
  exact WL.nil ⟨rfl, _, rfl, rfl, hs.cutG 0 0⟩ }
  {
  intro ρ w Γx Λx hs hu hp
  have e414 : ρ 13 = .bool (decide (0 ≤ x5)) := (hp 2 rfl).1
  refine WL.move (v := .int .i64 ((x1.Operations).length : Int)) (hu 7 rfl) ?_ (hg := (wanted_of rfl rfl (bool_tr e414 hc17)).trans rfl)
  exact WL.nil ⟨rfl, _, rfl, rfl, hs.cutG 0 0⟩ }
  {
  intro ρ w Γx Λx hs hu hp
  have e415 : ρ 14 = .int .i64 x5 := (hp 3 rfl).1
  have e416 : ρ 15 = .int .i64 ((x1.Operations).length : Int) := (hp 4 rfl).1
  have e417 : ρ 13 = .bool (decide (0 ≤ x5)) := (hp 2 rfl).1
  refine WL.bin (v := .bool (decide (x5 < ((x1.Operations).length : Int)))) e415 e416 (ib_lss _ _ _) ?_ (hg := (wanted_of rfl rfl (bool_tr e417 hc17)).trans rfl)
  exact WL.nil ⟨rfl, _, rfl, rfl, hs.cutG 0 0⟩ }
  {
  intro ρ w Γx Λx hs hu hp
  have e418 : ρ 13 = .bool (decide (0 ≤ x5)) := (hp 2 rfl).1
  have e419 : ρ 16 = .bool (decide (x5 < ((x1.Operations).length : Int))) := (hp 5 rfl).1
  refine WL.pickT (v := .bool (decide (x5 < ((x1.Operations).length : Int)))) (bool_tr e418 hc17) e419 ?_
  exact WL.nil ⟨rfl, _, rfl, rfl, hs.cutG 0 0⟩ }
  {
  intro ρ w Γx Λx hs hu hp
  have e420 : ρ 17 = .bool (decide (x5 < ((x1.Operations).length : Int))) := (hp 6 rfl).1
  refine WL.move (v := .bool (decide (x5 < ((x1.Operations).length : Int)))) e420 ?_
  exact WL.nil ⟨rfl, _, rfl, rfl, hs.cutG 0 0⟩ }
  {
  intro ρ w Γx Λx hs hu hp
  have e421 : ρ 18 = .bool (decide (x5 < ((x1.Operations).length : Int))) := (hp 7 rfl).1
  refine WL.move (v := .int .i64 x6) (hu 2 rfl) ?_ (hg := (wanted_of rfl rfl (bool_tr e421 hc18)).trans rfl)
  exact WL.nil ⟨rfl, _, rfl, rfl, hs.cutG 0 0⟩ }
  {
  intro ρ w Γx Λx hs hu hp
  have e422 : ρ 19 = .int .i64 x6 := (hp 8 rfl).1
  have e423 : ρ 18 = .bool (decide (x5 < ((x1.Operations).length : Int))) := (hp 7 rfl).1
  refine WL.bin (v := .bool (decide (0 ≤ x6))) e422 rfl (ib_geq _ _ _) ?_ (hg := (wanted_of rfl rfl (bool_tr e423 hc18)).trans rfl)
  exact WL.nil ⟨rfl, _, rfl, rfl, hs.cutG 0 0⟩ }
  {
  intro ρ w Γx Λx hs hu hp
  have e424 : ρ 18 = .bool (decide (x5 < ((x1.Operations).length : Int))) := (hp 7 rfl).1
  have e425 : ρ 20 = .bool (decide (0 ≤ x6)) := (hp 9 rfl).1
  refine WL.pickT (v := .bool (decide (0 ≤ x6))) (bool_tr e424 hc18) e425 ?_
  exact WL.nil ⟨rfl, _, rfl, rfl, hs.cutG 0 0⟩ }
  {
  intro ρ w Γx Λx hs hu hp
  have e426 : ρ 21 = .bool (decide (0 ≤ x6)) := (hp 10 rfl).1
  refine WL.move (v := .bool (decide (0 ≤ x6))) e426 ?_
  exact WL.nil ⟨rfl, _, rfl, rfl, hs.cutG 0 0⟩ }
  {
  intro ρ w Γx Λx hs hu hp
  have e427 : ρ 22 = .bool (decide (0 ≤ x6)) := (hp 11 rfl).1
  refine WL.pass ((wanted_of rfl rfl (bool_tr e427 hc19)).trans rfl) rfl ?_
  exact WL.nil ⟨rfl, _, rfl, rfl, hs.cutG 0 0⟩ }
  {
  intro ρ w Γx Λx hs hu hp
  have e428 : ρ 22 = .bool (decide (0 ≤ x6)) := (hp 11 rfl).1
  refine WL.pass ((wanted_of rfl rfl (bool_tr e428 hc19)).trans rfl) rfl ?_
  exact WL.nil ⟨rfl, _, rfl, rfl, hs.cutG 0 0⟩ }
  {
  intro ρ w Γx Λx hs hu hp
  have e429 : ρ 23 = undef := (hp 12 rfl).1
  have e430 : ρ 24 = undef := (hp 13 rfl).1
  have e431 : ρ 22 = .bool (decide (0 ≤ x6)) := (hp 11 rfl).1
  refine WL.pass ((wanted_of rfl rfl (bool_tr e431 hc19)).trans rfl) rfl ?_
  exact WL.nil ⟨rfl, _, rfl, rfl, hs.cutG 0 0⟩ }
  {
  intro ρ w Γx Λx hs hu hp
  have e432 : ρ 22 = .bool (decide (0 ≤ x6)) := (hp 11 rfl).1
  have e433 : ρ 25 = undef := (hp 14 rfl).1
  refine WL.pickF (v := .bool false) (bool_tr e432 hc19) rfl ?_
  exact WL.nil ⟨rfl, _, rfl, rfl, hs.cutG 0 0⟩ }
  {
  intro ρ w Γx Λx hs hu hp
  have e434 : ρ 26 = .bool false := (hp 15 rfl).1
  refine WL.move (v := .bool false) e434 ?_
  exact WL.nil ⟨rfl, _, rfl, rfl, hs.cutG 0 0⟩ }
  {
  intro ρ w Γx Λx hs hu hp
  have e435 : ρ 27 = .bool false := (hp 16 rfl).1
  refine WL.pass ((wanted_of rfl rfl e435).trans rfl) rfl ?_
  exact WL.nil ⟨rfl, _, rfl, rfl, hs.cutG 0 0⟩ }
  {
  intro ρ w Γx Λx hs hu hp
  have e436 : ρ 28 = undef := (hp 17 rfl).1
  have e437 : ρ 27 = .bool false := (hp 16 rfl).1
  refine WL.pass ((wanted_of rfl rfl e437).trans rfl) rfl ?_
  exact WL.nil ⟨rfl, _, rfl, rfl, hs.cutG 0 0⟩ }
  {
  intro ρ w Γx Λx hs hu hp
  have e438 : ρ 27 = .bool false := (hp 16 rfl).1
  refine WL.pass ((wanted_of rfl rfl e438).trans rfl) rfl ?_
  exact WL.nil ⟨rfl, _, rfl, rfl, hs.cutG 0 0⟩ }
  {
  intro ρ w Γx Λx hs hu hp
  have e439 : ρ 29 = undef := (hp 18 rfl).1
  have e440 : ρ 30 = undef := (hp 19 rfl).1
  have e441 : ρ 27 = .bool false := (hp 16 rfl).1
  refine WL.pass ((wanted_of rfl rfl e441).trans rfl) rfl ?_
  exact WL.nil ⟨rfl, _, rfl, rfl, hs.cutG 0 0⟩ }
  {
  intro ρ w Γx Λx hs hu hp
  have e442 : ρ 31 = undef := (hp 20 rfl).1
  have e443 : ρ 27 = .bool false := (hp 16 rfl).1
  refine WL.pass ((wanted_of rfl rfl e443).trans rfl) rfl ?_
  exact WL.nil ⟨rfl, _, rfl, rfl, hs.cutG 0 0⟩ }
  {
  intro ρ w Γx Λx hs hu hp
  have e444 : ρ 32 = undef := (hp 21 rfl).1
  have e445 : ρ 27 = .bool false := (hp 16 rfl).1
  refine WL.pass ((wanted_of rfl rfl e445).trans rfl) rfl ?_
  exact WL.nil ⟨rfl, _, rfl, rfl, hs.cutG 0 0⟩ }
  {
  intro ρ w Γx Λx hs hu hp
  have e446 : ρ 33 = undef := (hp 22 rfl).1
  have e447 : ρ 27 = .bool false := (hp 16 rfl).1
  refine WL.pass ((wanted_of rfl rfl e447).trans rfl) rfl ?_
  exact WL.nil ⟨rfl, _, rfl, rfl, hs.cutG 0 0⟩ }
  {
  intro ρ w Γx Λx hs hu hp
  have e448 : ρ 27 = .bool false := (hp 16 rfl).1
  have e449 : ρ 34 = undef := (hp 23 rfl).1
  refine WL.pickF (v := .bool false) e448 rfl ?_
  exact WL.nil ⟨rfl, _, rfl, rfl, hs.cutG 0 0⟩ }
  {
  intro ρ w Γx Λx hs hu hp
  have e450 : ρ 35 = .bool false := (hp 24 rfl).1
  refine WL.move (v := .bool false) e450 ?_
  exact WL.nil ⟨rfl, _, rfl, rfl, hs.cutG 0 0⟩ }
  {
  intro ρ w Γx Λx hs hu hp
  have e451 : ρ 36 = .bool false := (hp 25 rfl).1
  refine WL.pass ((wanted_of rfl rfl e451).trans rfl) rfl ?_
  exact WL.nil ⟨rfl, _, rfl, rfl, hs.cutG 0 0⟩ }
  {
  intro ρ w Γx Λx hs hu hp
  have e452 : ρ 37 = undef := (hp 26 rfl).1
  have e453 : ρ 36 = .bool false := (hp 25 rfl).1
  refine WL.pass ((wanted_of rfl rfl e453).trans rfl) rfl ?_
  exact WL.nil ⟨rfl, _, rfl, rfl, hs.cutG 0 0⟩ }
  {
  intro ρ w Γx Λx hs hu hp
  have e454 : ρ 36 = .bool false := (hp 25 rfl).1
  refine WL.pass ((wanted_of rfl rfl e454).trans rfl) rfl ?_
  exact WL.nil ⟨rfl, _, rfl, rfl, hs.cutG 0 0⟩ }
  {
  intro ρ w Γx Λx hs hu hp
  have e455 : ρ 38 = undef := (hp 27 rfl).1
  have e456 : ρ 39 = undef := (hp 28 rfl).1
  have e457 : ρ 36 = .bool false := (hp 25 rfl).1
  refine WL.pass ((wanted_of rfl rfl e457).trans rfl) rfl ?_
  exact WL.nil ⟨rfl, _, rfl, rfl, hs.cutG 0 0⟩ }
  {
  intro ρ w Γx Λx hs hu hp
  have e458 : ρ 40 = undef := (hp 29 rfl).1
  have e459 : ρ 36 = .bool false := (hp 25 rfl).1
  refine WL.pass ((wanted_of rfl rfl e459).trans rfl) rfl ?_
  exact WL.nil ⟨rfl, _, rfl, rfl, hs.cutG 0 0⟩ }
  {
  intro ρ w Γx Λx hs hu hp
  have e460 : ρ 41 = undef := (hp 30 rfl).1
  have e461 : ρ 36 = .bool false := (hp 25 rfl).1
  refine WL.pass ((wanted_of rfl rfl e461).trans rfl) rfl ?_
  exact WL.nil ⟨rfl, _, rfl, rfl, hs.cutG 0 0⟩ }
  {
  intro ρ w Γx Λx hs hu hp
  have e462 : ρ 36 = .bool false := (hp 25 rfl).1
  refine WL.pass ((wanted_of rfl rfl e462).trans rfl) rfl ?_
  exact WL.nil ⟨rfl, _, rfl, rfl, hs.cutG 0 0⟩ }
  {
  intro ρ w Γx Λx hs hu hp
  have e463 : ρ 43 = undef := (hp 32 rfl).1
  have e464 : ρ 36 = .bool false := (hp 25 rfl).1
  refine WL.pass ((wanted_of rfl rfl e464).trans rfl) rfl ?_
  exact WL.nil ⟨rfl, _, rfl, rfl, hs.cutG 0 0⟩ }
  {
  intro ρ w Γx Λx hs hu hp
  have e465 : ρ 36 = .bool false := (hp 25 rfl).1
  refine WL.pass ((wanted_of rfl rfl e465).trans rfl) rfl ?_
  exact WL.nil ⟨rfl, _, rfl, rfl, hs.cutG 0 0⟩ }
  {
  intro ρ w Γx Λx hs hu hp
  have e466 : ρ 44 = undef := (hp 33 rfl).1
  have e467 : ρ 45 = undef := (hp 34 rfl).1
  have e468 : ρ 36 = .bool false := (hp 25 rfl).1
  refine WL.pass ((wanted_of rfl rfl e468).trans rfl) rfl ?_
  exact WL.nil ⟨rfl, _, rfl, rfl, hs.cutG 0 0⟩ }
  {
  intro ρ w Γx Λx hs hu hp
  have e469 : ρ 46 = undef := (hp 35 rfl).1
  have e470 : ρ 36 = .bool false := (hp 25 rfl).1
  refine WL.pass ((wanted_of rfl rfl e470).trans rfl) rfl ?_
  exact WL.nil ⟨rfl, _, rfl, rfl, hs.cutG 0 0⟩ }
  {
  intro ρ w Γx Λx hs hu hp
  have e471 : ρ 47 = undef := (hp 36 rfl).1
  have e472 : ρ 36 = .bool false := (hp 25 rfl).1
  refine WL.pass ((wanted_of rfl rfl e472).trans rfl) rfl ?_
  exact WL.nil ⟨rfl, _, rfl, rfl, hs.cutG 0 0⟩ }
  {
  intro ρ w Γx Λx hs hu hp
  have e473 : ρ 42 = undef := (hp 31 rfl).1
  have e474 : ρ 48 = undef := (hp 37 rfl).1
  have e475 : ρ 36 = .bool false := (hp 25 rfl).1
  refine WL.pass ((wanted_of rfl rfl e475).trans rfl) rfl ?_
  exact WL.nil ⟨rfl, _, rfl, rfl, hs.cutG 0 0⟩ }
  {
  intro ρ w Γx Λx hs hu hp
  have e476 : ρ 36 = .bool false := (hp 25 rfl).1
  have e477 : ρ 49 = undef := (hp 38 rfl).1
  refine WL.pickF (v := .bool false) e476 rfl ?_
  exact WL.nil ⟨rfl, _, rfl, rfl, hs.cutG 0 0⟩ }
  {
  intro ρ w hs hu478 hp
  obtain ⟨⟨⟨⟨⟨⟨⟨⟨⟨⟨⟨⟨⟨⟨⟨⟨⟨⟨⟨⟨⟨⟨⟨⟨⟨⟨⟨⟨⟨⟨⟨⟨⟨⟨⟨⟨⟨⟨⟨⟨_, hp0_⟩, hp1_⟩, hp2_⟩, hp3_⟩, hp4_⟩, hp5_⟩, hp6_⟩, hp7_⟩, hp8_⟩, hp9_⟩, hp10_⟩, hp11_⟩, hp12_⟩, hp13_⟩, hp14_⟩, hp15_⟩, hp16_⟩, hp17_⟩, hp18_⟩, hp19_⟩, hp20_⟩, hp21_⟩, hp22_⟩, hp23_⟩, hp24_⟩, hp25_⟩, hp26_⟩, hp27_⟩, hp28_⟩, hp29_⟩, hp30_⟩, hp31_⟩, hp32_⟩, hp33_⟩, hp34_⟩, hp35_⟩, hp36_⟩, hp37_⟩, hp38_⟩, hp39_⟩ := hp
  have hs : St ok (bz w0) w [vl (tSlice t_history_Operation) x1.Operations (.slice a11 (x1.Operations).length c12), vl t_history_History x1 (.agg cs3.toArray)] [blk g8 24 cs3] := hs
  have e479 : ρ 50 = .bool false := hp39_
  have e480 : ρ 49 = undef := hp38_
  have e481 : ρ 48 = undef := hp37_
  have e482 : ρ 47 = undef := hp36_
  have e483 : ρ 46 = undef := hp35_
  have e484 : ρ 45 = undef := hp34_
  have e485 : ρ 44 = undef := hp33_
  have e486 : ρ 43 = undef := hp32_
  have e487 : ρ 42 = undef := hp31_
  have e488 : ρ 41 = undef := hp30_
  have e489 : ρ 40 = undef := hp29_
  have e490 : ρ 39 = undef := hp28_
  have e491 : ρ 38 = undef := hp27_
  have e492 : ρ 37 = undef := hp26_
  have e493 : ρ 36 = .bool false := hp25_
  have e494 : ρ 35 = .bool false := hp24_
  have e495 : ρ 34 = undef := hp23_
  have e496 : ρ 33 = undef := hp22_
  have e497 : ρ 32 = undef := hp21_
  have e498 : ρ 31 = undef := hp20_
  have e499 : ρ 30 = undef := hp19_
  have e500 : ρ 29 = undef := hp18_
  have e501 : ρ 28 = undef := hp17_
  have e502 : ρ 27 = .bool false := hp16_
  have e503 : ρ 26 = .bool false := hp15_
  have e504 : ρ 25 = undef := hp14_
  have e505 : ρ 24 = undef := hp13_
  have e506 : ρ 23 = undef := hp12_
  have e507 : ρ 22 = .bool (decide (0 ≤ x6)) := hp11_
  have e508 : ρ 21 = .bool (decide (0 ≤ x6)) := hp10_
  have e509 : ρ 20 = .bool (decide (0 ≤ x6)) := hp9_
  have e510 : ρ 19 = .int .i64 x6 := hp8_
  have e511 : ρ 18 = .bool (decide (x5 < ((x1.Operations).length : Int))) := hp7_
  have e512 : ρ 17 = .bool (decide (x5 < ((x1.Operations).length : Int))) := hp6_
  have e513 : ρ 16 = .bool (decide (x5 < ((x1.Operations).length : Int))) := hp5_
  have e514 : ρ 15 = .int .i64 ((x1.Operations).length : Int) := hp4_
  have e515 : ρ 14 = .int .i64 x5 := hp3_
  have e516 : ρ 13 = .bool (decide (0 ≤ x5)) := hp2_
  have e517 : ρ 12 = .bool (decide (0 ≤ x5)) := hp1_
  have e518 : ρ 11 = .int .i64 x5 := hp0_
  refine WA.step [40] (by kernel_rfl) (by simp) ⟨?_, trivial⟩
  refine WL.assign (v := .bool false) e479 ?_
  refine WL.nil ⟨rfl, _, rfl, ?_⟩
  refine WA.done (by kernel_rfl) ?_
  exact Jk16 false _ _ rfl ((hs.mask []).pick []) hf } } }
  {
  refine W.any (by kernel_rfl) 40 1 [true, true, true, true, true, true, true, true, true, true, true, true, true, true, true, true, true, true, true, true, true, true, true, true, true, true, true, true, true, true, true, true, true, true, true, true, true, true, true, true, false] rfl rfl (poAt [pv (.int .i64 x5), pv (.bool (decide (0 ≤ x5))), pv (.bool (decide (0 ≤ x5))), pv (.int .i64 x5), pv (.int .i64 ((x1.Operations).length : Int)), pv (.bool (decide (x5 < ((x1.Operations).length : Int)))), pv (.bool (decide (x5 < ((x1.Operations).length : Int)))), pv (.bool (decide (x5 < ((x1.Operations).length : Int)))), pv (undef), pv (undef), pv (.bool false), pv (.bool false), pv (undef), pv (undef), pv (undef), pv (.bool false), pv (.bool false), pv (undef), pv (undef), pv (undef), pv (undef), pv (undef), pv (undef), pv (undef), pv (.bool false), pv (.bool false), pv (undef), pv (undef), pv (undef), pv (undef), pv (undef), pv (undef), pv (undef), pv (undef), pv (undef), pv (undef), pv (undef), pv (undef), pv (undef), pv (.bool false)]) (Λ := [blk g8 24 cs3]) hs (by kernel_rfl) (by kernel_rfl) (by kernel_rfl) ⟨⟨⟨⟨⟨⟨⟨⟨⟨⟨⟨⟨⟨⟨⟨⟨⟨⟨⟨⟨⟨⟨⟨⟨⟨⟨⟨⟨⟨⟨⟨⟨⟨⟨⟨⟨⟨⟨⟨⟨trivial, ?_⟩, ?_⟩, ?_⟩, ?_⟩, ?_⟩, ?_⟩, ?_⟩, ?_⟩, ?_⟩, ?_⟩, ?_⟩, ?_⟩, ?_⟩, ?_⟩, ?_⟩, ?_⟩, ?_⟩, ?_⟩, ?_⟩, ?_⟩, ?_⟩, ?_⟩, ?_⟩, ?_⟩, ?_⟩, ?_⟩, ?_⟩, ?_⟩, ?_⟩, ?_⟩, ?_⟩, ?_⟩, ?_⟩, ?_⟩, ?_⟩, ?_⟩, ?_⟩, ?_⟩, ?_⟩, ?_⟩ ?_
  {
  intro ρ w Γx Λx hs hu hp
  refine WL.move (v := .int .i64 x5) (hu 1 rfl) ?_
  exact WL.nil ⟨rfl, _, rfl, rfl, hs.cutG 0 0⟩ }
  {
  intro ρ w Γx Λx hs hu hp
  have e519 : ρ 11 = .int .i64 x5 := (hp 0 rfl).1
  refine WL.bin (v := .bool (decide (0 ≤ x5))) e519 rfl (ib_geq _ _ _) ?_
  exact WL.nil ⟨rfl, _, rfl, rfl, hs.cutG 0 0⟩ }
  {
  intro ρ w Γx Λx hs hu hp
  have e520 : ρ 12 = .bool (decide (0 ≤ x5)) := (hp 1 rfl).1
  refine WL.move (v := .bool (decide (0 ≤ x5))) e520 ?_
  exact WL.nil ⟨rfl, _, rfl, rfl, hs.cutG 0 0⟩ }
  {
  intro ρ w Γx Λx hs hu hp
  have e521 : ρ 13 = .bool (decide (0 ≤ x5)) := (hp 2 rfl).1
  refine WL.move (v := .int .i64 x5) (hu 1 rfl) ?_ (hg := (wanted_of rfl rfl (bool_tr e521 hc17)).trans rfl)
  exact WL.nil ⟨rfl, _, rfl, rfl, hs.cutG 0 0⟩ }
  {
  intro ρ w Γx Λx hs hu hp
  have e522 : ρ 13 = .bool (decide (0 ≤ x5)) := (hp 2 rfl).1
  refine WL.move (v := .int .i64 ((x1.Operations).length : Int)) (hu 7 rfl) ?_ (hg := (wanted_of rfl rfl (bool_tr e522 hc17)).trans rfl)
  exact WL.nil ⟨rfl, _, rfl, rfl, hs.cutG 0 0⟩ }
  {
  intro ρ w Γx Λx hs hu hp
  have e523 : ρ 14 = .int .i64 x5 := (hp 3 rfl).1
  have e524 : ρ 15 = .int .i64 ((x1.Operations).length : Int) := (hp 4 rfl).1
  have e525 : ρ 13 = .bool (decide (0 ≤ x5)) := (hp 2 rfl).1
  refine WL.bin (v := .bool (decide (x5 < ((x1.Operations).length : Int)))) e523 e524 (ib_lss _ _ _) ?_ (hg := (wanted_of rfl rfl (bool_tr e525 hc17)).trans rfl)
  exact WL.nil ⟨rfl, _, rfl, rfl, hs.cutG 0 0⟩ }
  {
  intro ρ w Γx Λx hs hu hp
  have e526 : ρ 13 = .bool (decide (0 ≤ x5)) := (hp 2 rfl).1
  have e527 : ρ 16 = .bool (decide (x5 < ((x1.Operations).length : Int))) := (hp 5 rfl).1
  refine WL.pickT (v := .bool (decide (x5 < ((x1.Operations).length : Int)))) (bool_tr e526 hc17) e527 ?_
  exact WL.nil ⟨rfl, _, rfl, rfl, hs.cutG 0 0⟩ }
  {
  intro ρ w Γx Λx hs hu hp
  have e528 : ρ 17 = .bool (decide (x5 < ((x1.Operations).length : Int))) := (hp 6 rfl).1
  refine WL.move (v := .bool (decide (x5 < ((x1.Operations).length : Int)))) e528 ?_
  exact WL.nil ⟨rfl, _, rfl, rfl, hs.cutG 0 0⟩ }
  {
  intro ρ w Γx Λx hs hu hp
  have e529 : ρ 18 = .bool (decide (x5 < ((x1.Operations).length : Int))) := (hp 7 rfl).1
  refine WL.pass ((wanted_of rfl rfl (bool_tr e529 hc18)).trans rfl) rfl ?_
  exact WL.nil ⟨rfl, _, rfl, rfl, hs.cutG 0 0⟩ }
  {
  intro ρ w Γx Λx hs hu hp
  have e530 : ρ 19 = undef := (hp 8 rfl).1
  have e531 : ρ 18 = .bool (decide (x5 < ((x1.Operations).length : Int))) := (hp 7 rfl).1
  refine WL.pass ((wanted_of rfl rfl (bool_tr e531 hc18)).trans rfl) rfl ?_
  exact WL.nil ⟨rfl, _, rfl, rfl, hs.cutG 0 0⟩ }
  {
  intro ρ w Γx Λx hs hu hp
  have e532 : ρ 18 = .bool (decide (x5 < ((x1.Operations).length : Int))) := (hp 7 rfl).1
  have e533 : ρ 20 = undef := (hp 9 rfl).1
  refine WL.pickF (v := .bool false) (bool_tr e532 hc18) rfl ?_
  exact WL.nil ⟨rfl, _, rfl, rfl, hs.cutG 0 0⟩ }
  {
  intro ρ w Γx Λx hs hu hp
  have e534 : ρ 21 = .bool false := (hp 10 rfl).1
  refine WL.move (v := .bool false) e534 ?_
  exact WL.nil ⟨rfl, _, rfl, rfl, hs.cutG 0 0⟩ }
  {
  intro ρ w Γx Λx hs hu hp
  have e535 : ρ 22 = .bool false := (hp 11 rfl).1
  refine WL.pass ((wanted_of rfl rfl e535).trans rfl) rfl ?_
  exact WL.nil ⟨rfl, _, rfl, rfl, hs.cutG 0 0⟩ }
  {
  intro ρ w Γx Λx hs hu hp
  have e536 : ρ 22 = .bool false := (hp 11 rfl).1
  refine WL.pass ((wanted_of rfl rfl e536).trans rfl) rfl ?_
  exact WL.nil ⟨rfl, _, rfl, rfl, hs.cutG 0 0⟩ }
  {
  intro ρ w Γx Λx hs hu hp
  have e537 : ρ 23 = undef := (hp 12 rfl).1
  have e538 : ρ 24 = undef := (hp 13 rfl).1
  have e539 : ρ 22 = .bool false := (hp 11 rfl).1
  refine WL.pass ((wanted_of rfl rfl e539).trans rfl) rfl ?_
  exact WL.nil ⟨rfl, _, rfl, rfl, hs.cutG 0 0⟩ }
  {
  intro ρ w Γx Λx hs hu hp
  have e540 : ρ 22 = .bool false := (hp 11 rfl).1
  have e541 : ρ 25 = undef := (hp 14 rfl).1
  refine WL.pickF (v := .bool false) e540 rfl ?_
  exact WL.nil ⟨rfl, _, rfl, rfl, hs.cutG 0 0⟩ }
  {
  intro ρ w Γx Λx hs hu hp
  have e542 : ρ 26 = .bool false := (hp 15 rfl).1
  refine WL.move (v := .bool false) e542 ?_
  exact WL.nil ⟨rfl, _, rfl, rfl, hs.cutG 0 0⟩ }
  {
  intro ρ w Γx Λx hs hu hp
  have e543 : ρ 27 = .bool false := (hp 16 rfl).1
  refine WL.pass ((wanted_of rfl rfl e543).trans rfl) rfl ?_
  exact WL.nil ⟨rfl, _, rfl, rfl, hs.cutG 0 0⟩ }
  {
  intro ρ w Γx Λx hs hu hp
  have e544 : ρ 28 = undef := (hp 17 rfl).1
  have e545 : ρ 27 = .bool false := (hp 16 rfl).1
  refine WL.pass ((wanted_of rfl rfl e545).trans rfl) rfl ?_
  exact WL.nil ⟨rfl, _, rfl, rfl, hs.cutG 0 0⟩ }
  {
  intro ρ w Γx Λx hs hu hp
  have e546 : ρ 27 = .bool false := (hp 16 rfl).1
  refine WL.pass ((wanted_of rfl rfl e546).trans rfl) rfl ?_
  exact WL.nil ⟨rfl, _, rfl, rfl, hs.cutG 0 0⟩ }
  {
  intro ρ w Γx Λx hs hu hp
  have e547 : ρ 29 = undef := (hp 18 rfl).1
  have e548 : ρ 30 = undef := (hp 19 rfl).1
  have e549 : ρ 27 = .bool false := (hp 16 rfl).1
  refine WL.pass ((wanted_of rfl rfl e549).trans rfl) rfl ?_
  exact WL.nil ⟨rfl, _, rfl, rfl, hs.cutG 0 0⟩ }
  {
  intro ρ w Γx Λx hs hu hp
  have e550 : ρ 31 = undef := (hp 20 rfl).1
  have e551 : ρ 27 = .bool false := (hp 16 rfl).1
  refine WL.pass ((wanted_of rfl rfl e551).trans rfl) rfl ?_
  exact WL.nil ⟨rfl, _, rfl, rfl, hs.cutG 0 0⟩ }
  {
  intro ρ w Γx Λx hs hu hp
  have e552 : ρ 32 = undef := (hp 21 rfl).1
  have e553 : ρ 27 = .bool false := (hp 16 rfl).1
  refine WL.pass ((wanted_of rfl rfl e553).trans rfl) rfl ?_
  exact WL.nil ⟨rfl, _, rfl, rfl, hs.cutG 0 0⟩ }
  {
  intro ρ w Γx Λx hs hu hp
  have e554 : ρ 33 = undef := (hp 22 rfl).1
  have e555 : ρ 27 = .bool false := (hp 16 rfl).1
  refine WL.pass ((wanted_of rfl rfl e555).trans rfl) rfl ?_
  exact WL.nil ⟨rfl, _, rfl, rfl, hs.cutG 0 0⟩ }
  {
  intro ρ w Γx Λx hs hu hp
  have e556 : ρ 27 = .bool false := (hp 16 rfl).1
  have e557 : ρ 34 = undef := (hp 23 rfl).1
  refine WL.pickF (v := .bool false) e556 rfl ?_
  exact WL.nil ⟨rfl, _, rfl, rfl, hs.cutG 0 0⟩ }
  {
  intro ρ w Γx Λx hs hu hp
  have e558 : ρ 35 = .bool false := (hp 24 rfl).1
  refine WL.move (v := .bool false) e558 ?_
  exact WL.nil ⟨rfl, _, rfl, rfl, hs.cutG 0 0⟩ }
  {
  intro ρ w Γx Λx hs hu hp
  have e559 : ρ 36 = .bool false := (hp 25 rfl).1
  refine WL.pass ((wanted_of rfl rfl e559).trans rfl) rfl ?_
  exact WL.nil ⟨rfl, _, rfl, rfl, hs.cutG 0 0⟩ }
  {
  intro ρ w Γx Λx hs hu hp
  have e560 : ρ 37 = undef := (hp 26 rfl).1
  have e561 : ρ 36 = .bool false := (hp 25 rfl).1
  refine WL.pass ((wanted_of rfl rfl e561).trans rfl) rfl ?_
  exact WL.nil ⟨rfl, _, rfl, rfl, hs.cutG 0 0⟩ }
  {
  intro ρ w Γx Λx hs hu hp
  have e562 : ρ 36 = .bool false := (hp 25 rfl).1
  refine WL.pass ((wanted_of rfl rfl e562).trans rfl) rfl ?_
  exact WL.nil ⟨rfl, _, rfl, rfl, hs.cutG 0 0⟩ }
  {
  intro ρ w Γx Λx hs hu hp
  have e563 : ρ 38 = undef := (hp 27 rfl).1
  have e564 : ρ 39 = undef := (hp 28 rfl).1
  have e565 : ρ 36 = .bool false := (hp 25 rfl).1
  refine WL.pass ((wanted_of rfl rfl e565).trans rfl) rfl ?_
  exact WL.nil ⟨rfl, _, rfl, rfl, hs.cutG 0 0⟩ }
  {
  intro ρ w Γx Λx hs hu hp
  have e566 : ρ 40 = undef := (hp 29 rfl).1
  have e567 : ρ 36 = .bool false := (hp 25 rfl).1
  refine WL.pass ((wanted_of rfl rfl e567).trans rfl) rfl ?_
  exact WL.nil ⟨rfl, _, rfl, rfl, hs.cutG 0 0⟩ }
  {
  intro ρ w Γx Λx hs hu hp
  have e568 : ρ 41 = undef := (hp 30 rfl).1
  have e569 : ρ 36 = .bool false := (hp 25 rfl).1
  refine WL.pass ((wanted_of rfl rfl e569).trans rfl) rfl ?_
  exact WL.nil ⟨rfl, _, rfl, rfl, hs.cutG 0 0⟩ }
  {
  intro ρ w Γx Λx hs hu hp
  have e570 : ρ 36 = .bool false := (hp 25 rfl).1
  refine WL.pass ((wanted_of rfl rfl e570).trans rfl) rfl ?_
  exact WL.nil ⟨rfl, _, rfl, rfl, hs.cutG 0 0⟩ }
  {
  intro ρ w Γx Λx hs hu hp
  have e571 : ρ 43 = undef := (hp 32 rfl).1
  have e572 : ρ 36 = .bool false := (hp 25 rfl).1
  refine WL.pass ((wanted_of rfl rfl e572).trans rfl) rfl ?_
  exact WL.nil ⟨rfl, _, rfl, rfl, hs.cutG 0 0⟩ }
  {
  intro ρ w Γx Λx hs hu hp
  have e573 : ρ 36 = .bool false := (hp 25 rfl).1
  refine WL.pass ((wanted_of rfl rfl e573).trans rfl) rfl ?_
  exact WL.nil ⟨rfl, _, rfl, rfl, hs.cutG 0 0⟩ }
  {
  intro ρ w Γx Λx hs hu hp
  have e574 : ρ 44 = undef := (hp 33 rfl).1
  have e575 : ρ 45 = undef := (hp 34 rfl).1
  have e576 : ρ 36 = .bool false := (hp 25 rfl).1
  refine WL.pass ((wanted_of rfl rfl e576).trans rfl) rfl ?_
  exact WL.nil ⟨rfl, _, rfl, rfl, hs.cutG 0 0⟩ }
  {
  intro ρ w Γx Λx hs hu hp
  have e577 : ρ 46 = undef := (hp 35 rfl).1
  have e578 : ρ 36 = .bool false := (hp 25 rfl).1
  refine WL.pass ((wanted_of rfl rfl e578).trans rfl) rfl ?_
  exact WL.nil ⟨rfl, _, rfl, rfl, hs.cutG 0 0⟩ }
  {
  intro ρ w Γx Λx hs hu hp
  have e579 : ρ 47 = undef := (hp 36 rfl).1
  have e580 : ρ 36 = .bool false := (hp 25 rfl).1
  refine WL.pass ((wanted_of rfl rfl e580).trans rfl) rfl ?_
  exact WL.nil ⟨rfl, _, rfl, rfl, hs.cutG 0 0⟩ }
  {
  intro ρ w Γx Λx hs hu hp
  have e581 : ρ 42 = undef := (hp 31 rfl).1
  have e582 : ρ 48 = undef := (hp 37 rfl).1
  have e583 : ρ 36 = .bool false := (hp 25 rfl).1
  refine WL.pass ((wanted_of rfl rfl e583).trans rfl) rfl ?_
  exact WL.nil ⟨rfl, _, rfl, rfl, hs.cutG 0 0⟩ }
  {
  intro ρ w Γx Λx hs hu hp
  have e584 : ρ 36 = .bool false := (hp 25 rfl).1
  have e585 : ρ 49 = undef := (hp 38 rfl).1
  refine WL.pickF (v := .bool false) e584 rfl ?_
  exact WL.nil ⟨rfl, _, rfl, rfl, hs.cutG 0 0⟩ }
  {
  intro ρ w hs hu586 hp
  obtain ⟨⟨⟨⟨⟨⟨⟨⟨⟨⟨⟨⟨⟨⟨⟨⟨⟨⟨⟨⟨⟨⟨⟨⟨⟨⟨⟨⟨⟨⟨⟨⟨⟨⟨⟨⟨⟨⟨⟨⟨_, hp0_⟩, hp1_⟩, hp2_⟩, hp3_⟩, hp4_⟩, hp5_⟩, hp6_⟩, hp7_⟩, hp8_⟩, hp9_⟩, hp10_⟩, hp11_⟩, hp12_⟩, hp13_⟩, hp14_⟩, hp15_⟩, hp16_⟩, hp17_⟩, hp18_⟩, hp19_⟩, hp20_⟩, hp21_⟩, hp22_⟩, hp23_⟩, hp24_⟩, hp25_⟩, hp26_⟩, hp27_⟩, hp28_⟩, hp29_⟩, hp30_⟩, hp31_⟩, hp32_⟩, hp33_⟩, hp34_⟩, hp35_⟩, hp36_⟩, hp37_⟩, hp38_⟩, hp39_⟩ := hp
  have hs : St ok (bz w0) w [vl (tSlice t_history_Operation) x1.Operations (.slice a11 (x1.Operations).length c12), vl t_history_History x1 (.agg cs3.toArray)] [blk g8 24 cs3] := hs
  have e587 : ρ 50 = .bool false := hp39_
  have e588 : ρ 49 = undef := hp38_
  have e589 : ρ 48 = undef := hp37_
  have e590 : ρ 47 = undef := hp36_
  have e591 : ρ 46 = undef := hp35_
  have e592 : ρ 45 = undef := hp34_
  have e593 : ρ 44 = undef := hp33_
  have e594 : ρ 43 = undef := hp32_
  have e595 : ρ 42 = undef := hp31_
  have e596 : ρ 41 = undef := hp30_
  have e597 : ρ 40 = undef := hp29_
  have e598 : ρ 39 = undef := hp28_
  have e599 : ρ 38 = undef := hp27_
  have e600 : ρ 37 = undef := hp26_
  have e601 : ρ 36 = .bool false := hp25_
  have e602 : ρ 35 = .bool false := hp24_
  have e603 : ρ 34 = undef := hp23_
  have e604 : ρ 33 = undef := hp22_
  have e605 : ρ 32 = undef := hp21_
  have e606 : ρ 31 = undef := hp20_
  have e607 : ρ 30 = undef := hp19_
  have e608 : ρ 29 = undef := hp18_
  have e609 : ρ 28 = undef := hp17_
  have e610 : ρ 27 = .bool false := hp16_
  have e611 : ρ 26 = .bool false := hp15_
  have e612 : ρ 25 = undef := hp14_
  have e613 : ρ 24 = undef := hp13_
  have e614 : ρ 23 = undef := hp12_
  have e615 : ρ 22 = .bool false := hp11_
  have e616 : ρ 21 = .bool false := hp10_
  have e617 : ρ 20 = undef := hp9_
  have e618 : ρ 19 = undef := hp8_
  have e619 : ρ 18 = .bool (decide (x5 < ((x1.Operations).length : Int))) := hp7_
  have e620 : ρ 17 = .bool (decide (x5 < ((x1.Operations).length : Int))) := hp6_
  have e621 : ρ 16 = .bool (decide (x5 < ((x1.Operations).length : Int))) := hp5_
  have e622 : ρ 15 = .int .i64 ((x1.Operations).length : Int) := hp4_
  have e623 : ρ 14 = .int .i64 x5 := hp3_
  have e624 : ρ 13 = .bool (decide (0 ≤ x5)) := hp2_
  have e625 : ρ 12 = .bool (decide (0 ≤ x5)) := hp1_
  have e626 : ρ 11 = .int .i64 x5 := hp0_
  refine WA.step [40] (by kernel_rfl) (by simp) ⟨?_, trivial⟩
  refine WL.assign (v := .bool false) e587 ?_
  refine WL.nil ⟨rfl, _, rfl, ?_⟩
  refine WA.done (by kernel_rfl) ?_
  exact Jk16 false _ _ rfl ((hs.mask []).pick []) hf } } }
  {
  refine W.any (by kernel_rfl) 40 1 [true, true, true, true, true, true, true, true, true, true, true, true, true, true, true, true, true, true, true, true, true, true, true, true, true, true, true, true, true, true, true, true, true, true, true, true, true, true, true, true, false] rfl rfl (poAt [pv (.int .i64 x5), pv (.bool (decide (0 ≤ x5))), pv (.bool (decide (0 ≤ x5))), pv (undef), pv (undef), pv (undef), pv (.bool false), pv (.bool false), pv (undef), pv (undef), pv (.bool false), pv (.bool false), pv (undef), pv (undef), pv (undef), pv (.bool false), pv (.bool false), pv (undef), pv (undef), pv (undef), pv (undef), pv (undef), pv (undef), pv (undef), pv (.bool false), pv (.bool false), pv (undef), pv (undef), pv (undef), pv (undef), pv (undef), pv (undef), pv (undef), pv (undef), pv (undef), pv (undef), pv (undef), pv (undef), pv (undef), pv (.bool false)]) (Λ := [blk g8 24 cs3]) hs (by kernel_rfl) (by kernel_rfl) (by kernel_rfl) ⟨⟨⟨⟨⟨⟨⟨⟨⟨⟨⟨⟨⟨⟨⟨⟨⟨⟨⟨⟨⟨⟨⟨⟨⟨⟨⟨⟨⟨⟨⟨⟨⟨⟨⟨⟨⟨⟨⟨⟨trivial, ?_⟩, ?_⟩, ?_⟩, ?_⟩, ?_⟩, ?_⟩, ?_⟩, ?_⟩, ?_⟩, ?_⟩, ?_⟩, ?_⟩, ?_⟩, ?_⟩, ?_⟩, ?_⟩, ?_⟩, ?_⟩, ?_⟩, ?_⟩, ?_⟩, ?_⟩, ?_⟩, ?_⟩, ?_⟩, ?_⟩, ?_⟩, ?_⟩, ?_⟩, ?_⟩, ?_⟩, ?_⟩, ?_⟩, ?_⟩, ?_⟩, ?_⟩, ?_⟩, ?_⟩, ?_⟩, ?_⟩ ?_
  {
  intro ρ w Γx Λx hs hu hp
  refine WL.move (v := .int .i64 x5) (hu 1 rfl) ?_
  exact WL.nil ⟨rfl, _, rfl, rfl, hs.cutG 0 0⟩ }
  {
  intro ρ w Γx Λx hs hu hp
  have e627 : ρ 11 = .int .i64 x5 := (hp 0 rfl).1
  refine WL.bin (v := .bool (decide (0 ≤ x5))) e627 rfl (ib_geq _ _ _) ?_
  exact WL.nil ⟨rfl, _, rfl, rfl, hs.cutG 0 0⟩ }
  {
  intro ρ w Γx Λx hs hu hp
  have e628 : ρ 12 = .bool (decide (0 ≤ x5)) := (hp 1 rfl).1
  refine WL.move (v := .bool (decide (0 ≤ x5))) e628 ?_
  exact WL.nil ⟨rfl, _, rfl, rfl, hs.cutG 0 0⟩ }
  {
  intro ρ w Γx Λx hs hu hp
  have e629 : ρ 13 = .bool (decide (0 ≤ x5)) := (hp 2 rfl).1
  refine WL.pass ((wanted_of rfl rfl (bool_tr e629 hc17)).trans rfl) rfl ?_
  exact WL.nil ⟨rfl, _, rfl, rfl, hs.cutG 0 0⟩ }
  {
  intro ρ w Γx Λx hs hu hp
  have e630 : ρ 13 = .bool (decide (0 ≤ x5)) := (hp 2 rfl).1
  refine WL.pass ((wanted_of rfl rfl (bool_tr e630 hc17)).trans rfl) rfl ?_
  exact WL.nil ⟨rfl, _, rfl, rfl, hs.cutG 0 0⟩ }
  {
  intro ρ w Γx Λx hs hu hp
  have e631 : ρ 14 = undef := (hp 3 rfl).1
  have e632 : ρ 15 = undef := (hp 4 rfl).1
  have e633 : ρ 13 = .bool (decide (0 ≤ x5)) := (hp 2 rfl).1
  refine WL.pass ((wanted_of rfl rfl (bool_tr e633 hc17)).trans rfl) rfl ?_
  exact WL.nil ⟨rfl, _, rfl, rfl, hs.cutG 0 0⟩ }
  {
  intro ρ w Γx Λx hs hu hp
  have e634 : ρ 13 = .bool (decide (0 ≤ x5)) := (hp 2 rfl).1
  have e635 : ρ 16 = undef := (hp 5 rfl).1
  refine WL.pickF (v := .bool false) (bool_tr e634 hc17) rfl ?_
  exact WL.nil ⟨rfl, _, rfl, rfl, hs.cutG 0 0⟩ }
  {
  intro ρ w Γx Λx hs hu hp
  have e636 : ρ 17 = .bool false := (hp 6 rfl).1
  refine WL.move (v := .bool false) e636 ?_
  exact WL.nil ⟨rfl, _, rfl, rfl, hs.cutG 0 0⟩ }
  {
  intro ρ w Γx Λx hs hu hp
  have e637 : ρ 18 = .bool false := (hp 7 rfl).1
  refine WL.pass ((wanted_of rfl rfl e637).trans rfl) rfl ?_
  exact WL.nil ⟨rfl, _, rfl, rfl, hs.cutG 0 0⟩ }
  {
  intro ρ w Γx Λx hs hu hp
  have e638 : ρ 19 = undef := (hp 8 rfl).1
  have e639 : ρ 18 = .bool false := (hp 7 rfl).1
  refine WL.pass ((wanted_of rfl rfl e639).trans rfl) rfl ?_
  exact WL.nil ⟨rfl, _, rfl, rfl, hs.cutG 0 0⟩ }
  {
  intro ρ w Γx Λx hs hu hp
  have e640 : ρ 18 = .bool false := (hp 7 rfl).1
  have e641 : ρ 20 = undef := (hp 9 rfl).1
  refine WL.pickF (v := .bool false) e640 rfl ?_
  exact WL.nil ⟨rfl, _, rfl, rfl, hs.cutG 0 0⟩ }
  {
  intro ρ w Γx Λx hs hu hp
  have e642 : ρ 21 = .bool false := (hp 10 rfl).1
  refine WL.move (v := .bool false) e642 ?_
  exact WL.nil ⟨rfl, _, rfl, rfl, hs.cutG 0 0⟩ }
  {
  intro ρ w Γx Λx hs hu hp
  have e643 : ρ 22 = .bool false := (hp 11 rfl).1
  refine WL.pass ((wanted_of rfl rfl e643).trans rfl) rfl ?_
  exact WL.nil ⟨rfl, _, rfl, rfl, hs.cutG 0 0⟩ }
  {
  intro ρ w Γx Λx hs hu hp
  have e644 : ρ 22 = .bool false := (hp 11 rfl).1
  refine WL.pass ((wanted_of rfl rfl e644).trans rfl) rfl ?_
  exact WL.nil ⟨rfl, _, rfl, rfl, hs.cutG 0 0⟩ }
  {
  intro ρ w Γx Λx hs hu hp
  have e645 : ρ 23 = undef := (hp 12 rfl).1
  have e646 : ρ 24 = undef := (hp 13 rfl).1
  have e647 : ρ 22 = .bool false := (hp 11 rfl).1
  refine WL.pass ((wanted_of rfl rfl e647).trans rfl) rfl ?_
  exact WL.nil ⟨rfl, _, rfl, rfl, hs.cutG 0 0⟩ }
  {
  intro ρ w Γx Λx hs hu hp
  have e648 : ρ 22 = .bool false := (hp 11 rfl).1
  have e649 : ρ 25 = undef := (hp 14 rfl).1
  refine WL.pickF (v := .bool false) e648 rfl ?_
  exact WL.nil ⟨rfl, _, rfl, rfl, hs.cutG 0 0⟩ }
  {
  intro ρ w Γx Λx hs hu hp
  have e650 : ρ 26 = .bool false := (hp 15 rfl).1
  refine WL.move (v := .bool false) e650 ?_
  exact WL.nil ⟨rfl, _, rfl, rfl, hs.cutG 0 0⟩ }
  {
  intro ρ w Γx Λx hs hu hp
  have e651 : ρ 27 = .bool false := (hp 16 rfl).1
  refine WL.pass ((wanted_of rfl rfl e651).trans rfl) rfl ?_
  exact WL.nil ⟨rfl, _, rfl, rfl, hs.cutG 0 0⟩ }
  {
  intro ρ w Γx Λx hs hu hp
  have e652 : ρ 28 = undef := (hp 17 rfl).1
  have e653 : ρ 27 = .bool false := (hp 16 rfl).1
  refine WL.pass ((wanted_of rfl rfl e653).trans rfl) rfl ?_
  exact WL.nil ⟨rfl, _, rfl, rfl, hs.cutG 0 0⟩ }
  {
  intro ρ w Γx Λx hs hu hp
  have e654 : ρ 27 = .bool false := (hp 16 rfl).1
  refine WL.pass ((wanted_of rfl rfl e654).trans rfl) rfl ?_
  exact WL.nil ⟨rfl, _, rfl, rfl, hs.cutG 0 0⟩ }
  {
  intro ρ w Γx Λx hs hu hp
  have e655 : ρ 29 = undef := (hp 18 rfl).1
  have e656 : ρ 30 = undef := (hp 19 rfl).1
  have e657 : ρ 27 = .bool false := (hp 16 rfl).1
  refine WL.pass ((wanted_of rfl rfl e657).trans rfl) rfl ?_
  exact WL.nil ⟨rfl, _, rfl, rfl, hs.cutG 0 0⟩ }
  {
  intro ρ w Γx Λx hs hu hp
  have e658 : ρ 31 = undef := (hp 20 rfl).1
  have e659 : ρ 27 = .bool false := (hp 16 rfl).1
  refine WL.pass ((wanted_of rfl rfl e659).trans rfl) rfl ?_
  exact WL.nil ⟨rfl, _, rfl, rfl, hs.cutG 0 0⟩ }
  {
  intro ρ w Γx Λx hs hu hp
  have e660 : ρ 32 = undef := (hp 21 rfl).1
  have e661 : ρ 27 = .bool false := (hp 16 rfl).1
  refine WL.pass ((wanted_of rfl rfl e661).trans rfl) rfl ?_
  exact WL.nil ⟨rfl, _, rfl, rfl, hs.cutG 0 0⟩ }
  {
  intro ρ w Γx Λx hs hu hp
  have e662 : ρ 33 = undef := (hp 22 rfl).1
  have e663 : ρ 27 = .bool false := (hp 16 rfl).1
  refine WL.pass ((wanted_of rfl rfl e663).trans rfl) rfl ?_
  exact WL.nil ⟨rfl, _, rfl, rfl, hs.cutG 0 0⟩ }
  {
  intro ρ w Γx Λx hs hu hp
  have e664 : ρ 27 = .bool false := (hp 16 rfl).1
  have e665 : ρ 34 = undef := (hp 23 rfl).1
  refine WL.pickF (v := .bool false) e664 rfl ?_
  exact WL.nil ⟨rfl, _, rfl, rfl, hs.cutG 0 0⟩ }
  {
  intro ρ w Γx Λx hs hu hp
  have e666 : ρ 35 = .bool false := (hp 24 rfl).1
  refine WL.move (v := .bool false) e666 ?_
  exact WL.nil ⟨rfl, _, rfl, rfl, hs.cutG 0 0⟩ }
  {
  intro ρ w Γx Λx hs hu hp
  have e667 : ρ 36 = .bool false := (hp 25 rfl).1
  refine WL.pass ((wanted_of rfl rfl e667).trans rfl) rfl ?_
  exact WL.nil ⟨rfl, _, rfl, rfl, hs.cutG 0 0⟩ }
  {
  intro ρ w Γx Λx hs hu hp
  have e668 : ρ 37 = undef := (hp 26 rfl).1
  have e669 : ρ 36 = .bool false := (hp 25 rfl).1
  refine WL.pass ((wanted_of rfl rfl e669).trans rfl) rfl ?_
  exact WL.nil ⟨rfl, _, rfl, rfl, hs.cutG 0 0⟩ }
  {
  intro ρ w Γx Λx hs hu hp
  have e670 : ρ 36 = .bool false := (hp 25 rfl).1
  refine WL.pass ((wanted_of rfl rfl e670).trans rfl) rfl ?_
  exact WL.nil ⟨rfl, _, rfl, rfl, hs.cutG 0 0⟩ }
  {
  intro ρ w Γx Λx hs hu hp
  have e671 : ρ 38 = undef := (hp 27 rfl).1
  have e672 : ρ 39 = undef := (hp 28 rfl).1
  have e673 : ρ 36 = .bool false := (hp 25 rfl).1
  refine WL.pass ((wanted_of rfl rfl e673).trans rfl) rfl ?_
  exact WL.nil ⟨rfl, _, rfl, rfl, hs.cutG 0 0⟩ }
  {
  intro ρ w Γx Λx hs hu hp
  have e674 : ρ 40 = undef := (hp 29 rfl).1
  have e675 : ρ 36 = .bool false := (hp 25 rfl).1
  refine WL.pass ((wanted_of rfl rfl e675).trans rfl) rfl ?_
  exact WL.nil ⟨rfl, _, rfl, rfl, hs.cutG 0 0⟩ }
  {
  intro ρ w Γx Λx hs hu hp
  have e676 : ρ 41 = undef := (hp 30 rfl).1
  have e677 : ρ 36 = .bool false := (hp 25 rfl).1
  refine WL.pass ((wanted_of rfl rfl e677).trans rfl) rfl ?_
  exact WL.nil ⟨rfl, _, rfl, rfl, hs.cutG 0 0⟩ }
  {
  intro ρ w Γx Λx hs hu hp
  have e678 : ρ 36 = .bool false := (hp 25 rfl).1
  refine WL.pass ((wanted_of rfl rfl e678).trans rfl) rfl ?_
  exact WL.nil ⟨rfl, _, rfl, rfl, hs.cutG 0 0⟩ }
  {
  intro ρ w Γx Λx hs hu hp
  have e679 : ρ 43 = undef := (hp 32 rfl).1
  have e680 : ρ 36 = .bool false := (hp 25 rfl).1
  refine WL.pass ((wanted_of rfl rfl e680).trans rfl) rfl ?_
  exact WL.nil ⟨rfl, _, rfl, rfl, hs.cutG 0 0⟩ }
  {
  intro ρ w Γx Λx hs hu hp
  have e681 : ρ 36 = .bool false := (hp 25 rfl).1
  refine WL.pass ((wanted_of rfl rfl e681).trans rfl) rfl ?_
  exact WL.nil ⟨rfl, _, rfl, rfl, hs.cutG 0 0⟩ }
  {
  intro ρ w Γx Λx hs hu hp
  have e682 : ρ 44 = undef := (hp 33 rfl).1
  have e683 : ρ 45 = undef := (hp 34 rfl).1
  have e684 : ρ 36 = .bool false := (hp 25 rfl).1
  refine WL.pass ((wanted_of rfl rfl e684).trans rfl) rfl ?_
  exact WL.nil ⟨rfl, _, rfl, rfl, hs.cutG 0 0⟩ }
  {
  intro ρ w Γx Λx hs hu hp
  have e685 : ρ 46 = undef := (hp 35 rfl).1
  have e686 : ρ 36 = .bool false := (hp 25 rfl).1
  refine WL.pass ((wanted_of rfl rfl e686).trans rfl) rfl ?_
  exact WL.nil ⟨rfl, _, rfl, rfl, hs.cutG 0 0⟩ }
  {
  intro ρ w Γx Λx hs hu hp
  have e687 : ρ 47 = undef := (hp 36 rfl).1
  have e688 : ρ 36 = .bool false := (hp 25 rfl).1
  refine WL.pass ((wanted_of rfl rfl e688).trans rfl) rfl ?_
  exact WL.nil ⟨rfl, _, rfl, rfl, hs.cutG 0 0⟩ }
  {
  intro ρ w Γx Λx hs hu hp
  have e689 : ρ 42 = undef := (hp 31 rfl).1
  have e690 : ρ 48 = undef := (hp 37 rfl).1
  have e691 : ρ 36 = .bool false := (hp 25 rfl).1
  refine WL.pass ((wanted_of rfl rfl e691).trans rfl) rfl ?_
  exact WL.nil ⟨rfl, _, rfl, rfl, hs.cutG 0 0⟩ }
  {
  intro ρ w Γx Λx hs hu hp
  have e692 : ρ 36 = .bool false := (hp 25 rfl).1
  have e693 : ρ 49 = undef := (hp 38 rfl).1
  refine WL.pickF (v := .bool false) e692 rfl ?_
  exact WL.nil ⟨rfl, _, rfl, rfl, hs.cutG 0 0⟩ }
  {
  intro ρ w hs hu694 hp
  obtain ⟨⟨⟨⟨⟨⟨⟨⟨⟨⟨⟨⟨⟨⟨⟨⟨⟨⟨⟨⟨⟨⟨⟨⟨⟨⟨⟨⟨⟨⟨⟨⟨⟨⟨⟨⟨⟨⟨⟨⟨_, hp0_⟩, hp1_⟩, hp2_⟩, hp3_⟩, hp4_⟩, hp5_⟩, hp6_⟩, hp7_⟩, hp8_⟩, hp9_⟩, hp10_⟩, hp11_⟩, hp12_⟩, hp13_⟩, hp14_⟩, hp15_⟩, hp16_⟩, hp17_⟩, hp18_⟩, hp19_⟩, hp20_⟩, hp21_⟩, hp22_⟩, hp23_⟩, hp24_⟩, hp25_⟩, hp26_⟩, hp27_⟩, hp28_⟩, hp29_⟩, hp30_⟩, hp31_⟩, hp32_⟩, hp33_⟩, hp34_⟩, hp35_⟩, hp36_⟩, hp37_⟩, hp38_⟩, hp39_⟩ := hp
  have hs : St ok (bz w0) w [vl (tSlice t_history_Operation) x1.Operations (.slice a11 (x1.Operations).length c12), vl t_history_History x1 (.agg cs3.toArray)] [blk g8 24 cs3] := hs
  have e695 : ρ 50 = .bool false := hp39_
  have e696 : ρ 49 = undef := hp38_
  have e697 : ρ 48 = undef := hp37_
  have e698 : ρ 47 = undef := hp36_
  have e699 : ρ 46 = undef := hp35_
  have e700 : ρ 45 = undef := hp34_
  have e701 : ρ 44 = undef := hp33_
  have e702 : ρ 43 = undef := hp32_
  have e703 : ρ 42 = undef := hp31_
  have e704 : ρ 41 = undef := hp30_
  have e705 : ρ 40 = undef := hp29_
  have e706 : ρ 39 = undef := hp28_
  have e707 : ρ 38 = undef := hp27_
  have e708 : ρ 37 = undef := hp26_
  have e709 : ρ 36 = .bool false := hp25_
  have e710 : ρ 35 = .bool false := hp24_
  have e711 : ρ 34 = undef := hp23_
  have e712 : ρ 33 = undef := hp22_
  have e713 : ρ 32 = undef := hp21_
  have e714 : ρ 31 = undef := hp20_
  have e715 : ρ 30 = undef := hp19_
  have e716 : ρ 29 = undef := hp18_
  have e717 : ρ 28 = undef := hp17_
  have e718 : ρ 27 = .bool false := hp16_
  have e719 : ρ 26 = .bool false := hp15_
  have e720 : ρ 25 = undef := hp14_
  have e721 : ρ 24 = undef := hp13_
  have e722 : ρ 23 = undef := hp12_
  have e723 : ρ 22 = .bool false := hp11_
  have e724 : ρ 21 = .bool false := hp10_
  have e725 : ρ 20 = undef := hp9_
  have e726 : ρ 19 = undef := hp8_
  have e727 : ρ 18 = .bool false := hp7_
  have e728 : ρ 17 = .bool false := hp6_
  have e729 : ρ 16 = undef := hp5_
  have e730 : ρ 15 = undef := hp4_
  have e731 : ρ 14 = undef := hp3_
  have e732 : ρ 13 = .bool (decide (0 ≤ x5)) := hp2_
  have e733 : ρ 12 = .bool (decide (0 ≤ x5)) := hp1_
  have e734 : ρ 11 = .int .i64 x5 := hp0_
  refine WA.step [40] (by kernel_rfl) (by simp) ⟨?_, trivial⟩
  refine WL.assign (v := .bool false) e695 ?_
  refine WL.nil ⟨rfl, _, rfl, ?_⟩
  refine WA.done (by kernel_rfl) ?_
  exact Jk16 false _ _ rfl ((hs.mask []).pick []) hf } }
/-! elasticstore/elasticstoreref39.Concurrent: function 18 -/
theorem esref39_Concurrent.calls {ok : Nat → Prop} {w0 : World} {x1 : history_History} {x5 : Int} {x6 : Int} {v2 : Value} {r : Bool} (hf : esref39_Concurrent x1 x5 x6 = some r) (i0 : (vl t_history_History x1 v2).holds ok w0) :
    Calls Try.prog 18 #[v2, .int .i64 x5, .int .i64 x6] w0 fun e w' => ∃ v, e = .returned v ∧ ∃ y : Unit, v = .bool r ∧ St ok (bz w0) w' [] [] := by
  unfold esref39_Concurrent at hf
  refine calls_of_W (fn := Try.f18) (N := 46) Try.func18 rfl Try.ntmps18 rfl ?_
  have hs : St ok (bz w0) w0 [vl t_history_History x1 v2] [] := St.init (All.cons i0 All.nil)
  clear i0
  obtain ⟨cs3, hl4, rfl⟩ := hs.aggv (n := 1) 0 rfl rfl rfl
  refine W.seqK fun K7 hK7 => ?_
  refine W.region ?_
  refine WL.box (vs := cs3) hs rfl rfl (fun g8 w hs => ?_)
  refine WL.assign (v := .bool false) rfl ?_
  refine WL.nil ?_
  refine hK7 _ _ ?_
  refine W.seqK fun K9 hK9 => ?_
  refine W.region ?_
  refine WL.fieldAddr (m := 0) rfl FA24_0 rfl ?_
  refine WL.loadF (z := x1.Operations) F_history_History_Operations hs 0 rfl 0 rfl rfl TI22 (.inr rfl) rfl rfl (fun v10 hs => ?_)
  obtain ⟨a11, c12, rfl⟩ := hs.slice 0 rfl
  refine WL.len (v := .slice a11 (x1.Operations).length c12) rfl (len_slice UN22) ?_
  refine WL.assign (v := .int .i64 ((x1.Operations).length : Int)) rfl ?_
  refine WL.nil ?_
  refine hK9 _ _ ?_
  refine W.seqK fun K13 hK13 => ?_
  have Jk16 : ∀ (x15 : Bool) (ρ : Env) (w : World), ρ 6 = .bool x15 → St ok (bz w0) w [] [] → esref39_Concurrent.j1 x15 = some r → K13 ρ w := by
    intro x15 ρ w h14_6 hs hf
    refine hK13 _ _ ?_
    unfold esref39_Concurrent.j1 at hf
    refine W.ret ?_
    have hr := Option.some.inj hf; subst hr
    exact ⟨_, resOk_one rfl h14_6, (), rfl, (hs.mask []).pick []⟩
  refine W.region ?_
  refine WL.move (v := .int .i64 x5) rfl ?_
  refine WL.bin (v := .bool (decide (0 ≤ x5))) rfl rfl (ib_geq _ _ _) ?_
  refine WL.move (v := .bool (decide (0 ≤ x5))) rfl ?_
  rcases iteE hf with ⟨hc17, hf⟩ | ⟨hc17, hf⟩
  {
  refine WL.move (v := .int .i64 x5) rfl ?_ (hg := (wanted_of rfl rfl (bool_tr rfl hc17)).trans rfl)
  refine WL.move (v := .int .i64 ((x1.Operations).length : Int)) rfl ?_ (hg := (wanted_of rfl rfl (bool_tr rfl hc17)).trans rfl)
  refine WL.bin (v := .bool (decide (x5 < ((x1.Operations).length : Int)))) rfl rfl (ib_lss _ _ _) ?_ (hg := (wanted_of rfl rfl (bool_tr rfl hc17)).trans rfl)
  refine WL.pickT (v := .bool (decide (x5 < ((x1.Operations).length : Int)))) (bool_tr rfl hc17) rfl ?_
  refine WL.move (v := .bool (decide (x5 < ((x1.Operations).length : Int)))) rfl ?_
  rcases iteE hf with ⟨hc18, hf⟩ | ⟨hc18, hf⟩
  {
  refine WL.move (v := .int .i64 x6) rfl ?_ (hg := (wanted_of rfl rfl (bool_tr rfl hc18)).trans rfl)
  refine WL.bin (v := .bool (decide (0 ≤ x6))) rfl rfl (ib_geq _ _ _) ?_ (hg := (wanted_of rfl rfl (bool_tr rfl hc18)).trans rfl)
  refine WL.pickT (v := .bool (decide (0 ≤ x6))) (bool_tr rfl hc18) rfl ?_
  refine WL.move (v := .bool (decide (0 ≤ x6))) rfl ?_
  rcases iteE hf with ⟨hc19, hf⟩ | ⟨hc19, hf⟩
  {
  refine WL.move (v := .int .i64 x6) rfl ?_ (hg := (wanted_of rfl rfl (bool_tr rfl hc19)).trans rfl)
  refine WL.move (v := .int .i64 ((x1.Operations).length : Int)) rfl ?_ (hg := (wanted_of rfl rfl (bool_tr rfl hc19)).trans rfl)
  refine WL.bin (v := .bool (decide (x6 < ((x1.Operations).length : Int)))) rfl rfl (ib_lss _ _ _) ?_ (hg := (wanted_of rfl rfl (bool_tr rfl hc19)).trans rfl)
  refine WL.pickT (v := .bool (decide (x6 < ((x1.Operations).length : Int)))) (bool_tr rfl hc19) rfl ?_
  refine WL.move (v := .bool (decide (x6 < ((x1.Operations).length : Int)))) rfl ?_
  rcases iteE hf with ⟨hc20, hf⟩ | ⟨hc20, hf⟩
  {
  refine WL.move (v := .int .i64 x5) rfl ?_ (hg := (wanted_of rfl rfl (bool_tr rfl hc20)).trans rfl)
  refine WL.move (v := .int .i64 x6) rfl ?_ (hg := (wanted_of rfl rfl (bool_tr rfl hc20)).trans rfl)
  refine WL.bin (v := .bool (x5 != x6)) rfl rfl (ib_neq _ _ _) ?_ (hg := (wanted_of rfl rfl (bool_tr rfl hc20)).trans rfl)
  refine WL.pickT (v := .bool (x5 != x6)) (bool_tr rfl hc20) rfl ?_
  refine WL.move (v := .bool (x5 != x6)) rfl ?_
  rcases iteE hf with ⟨hc21, hf⟩ | ⟨hc21, hf⟩
  {
  refine WL.loadAll hs 0 rfl TI24 rfl hl4 ?_ (hg := (wanted_of rfl rfl (bool_tr rfl hc21)).trans rfl)
  refine WL.move (v := .int .i64 x5) rfl ?_ (hg := (wanted_of rfl rfl (bool_tr rfl hc21)).trans rfl)
  refine WL.move (v := .int .i64 x6) rfl ?_ (hg := (wanted_of rfl rfl (bool_tr rfl hc21)).trans rfl)
  obtain ⟨x22, hxx22, hf⟩ := bindE hf
  refine WL.call (vs := [.agg cs3.toArray, .int .i64 x5, .int .i64 x6]) hs FN16 ⟨rfl, ⟨rfl, ⟨rfl, trivial⟩⟩⟩ (fun ok hA => esref39_Precedes.calls (x1 := x1) (x5 := x5) (x6 := x6) hxx22 (hA.get 1 rfl)) ?_ (hg := (wanted_of rfl rfl (bool_tr rfl hc21)).trans rfl)
  rintro _ w hs
  refine WL.not rfl ?_ (hg := (wanted_of rfl rfl (bool_tr rfl hc21)).trans rfl)
  refine WL.pickT (v := .bool (!x22)) (bool_tr rfl hc21) rfl ?_
  refine WL.move (v := .bool (!x22)) rfl ?_
  rcases iteE hf with ⟨hc23, hf⟩ | ⟨hc23, hf⟩
  {
  refine WL.loadAll hs 0 rfl TI24 rfl hl4 ?_ (hg := (wanted_of rfl rfl (bool_tr rfl hc23)).trans rfl)
  refine WL.move (v := .int .i64 x6) rfl ?_ (hg := (wanted_of rfl rfl (bool_tr rfl hc23)).trans rfl)
  refine WL.move (v := .int .i64 x5) rfl ?_ (hg := (wanted_of rfl rfl (bool_tr rfl hc23)).trans rfl)
  obtain ⟨x24, hxx24, hf⟩ := bindE hf
  refine WL.call (vs := [.agg cs3.toArray, .int .i64 x6, .int .i64 x5]) hs FN16 ⟨rfl, ⟨rfl, ⟨rfl, trivial⟩⟩⟩ (fun ok hA => esref39_Precedes.calls (x1 := x1) (x5 := x6) (x6 := x5) hxx24 (hA.get 1 rfl)) ?_ (hg := (wanted_of rfl rfl (bool_tr rfl hc23)).trans rfl)
  rintro _ w hs
  refine WL.not rfl ?_ (hg := (wanted_of rfl rfl (bool_tr rfl hc23)).trans rfl)
  refine WL.pickT (v := .bool (!x24)) (bool_tr rfl hc23) rfl ?_
  refine WL.assign (v := .bool (!x24)) rfl ?_
  refine WL.nil ?_
  exact Jk16 (!x24) _ _ rfl ((hs.mask []).pick []) hf }
  {
  refine WL.pass ((wanted_of rfl rfl (bool_tr rfl hc23)).trans rfl) rfl ?_
  refine WL.pass ((wanted_of rfl rfl (bool_tr rfl hc23)).trans rfl) rfl ?_
  refine WL.pass ((wanted_of rfl rfl (bool_tr rfl hc23)).trans rfl) rfl ?_
  refine WL.pass ((wanted_of rfl rfl (bool_tr rfl hc23)).trans rfl) rfl ?_
  refine WL.pass ((wanted_of rfl rfl (bool_tr rfl hc23)).trans rfl) rfl ?_
  refine WL.pickF (v := .bool false) (bool_tr rfl hc23) rfl ?_
  refine WL.assign (v := .bool false) rfl ?_
  refine WL.nil ?_
  exact Jk16 false _ _ rfl ((hs.mask []).pick []) hf } }
  {
  refine WL.pass ((wanted_of rfl rfl (bool_tr rfl hc21)).trans rfl) rfl ?_
  refine WL.pass ((wanted_of rfl rfl (bool_tr rfl hc21)).trans rfl) rfl ?_
  refine WL.pass ((wanted_of rfl rfl (bool_tr rfl hc21)).trans rfl) rfl ?_
  refine WL.pass ((wanted_of rfl rfl (bool_tr rfl hc21)).trans rfl) rfl ?_
  refine WL.pass ((wanted_of rfl rfl (bool_tr rfl hc21)).trans rfl) rfl ?_
  refine WL.pickF (v := .bool false) (bool_tr rfl hc21) rfl ?_
  refine WL.move (v := .bool false) rfl ?_
  refine WL.pass ((wanted_of rfl rfl rfl).trans rfl) rfl ?_
  refine WL.pass ((wanted_of rfl rfl rfl).trans rfl) rfl ?_
  refine WL.pass ((wanted_of rfl rfl rfl).trans rfl) rfl ?_
  refine WL.pass ((wanted_of rfl rfl rfl).trans rfl) rfl ?_
  refine WL.pass ((wanted_of rfl rfl rfl).trans rfl) rfl ?_
  refine WL.pickF (v := .bool false) rfl rfl ?_
  refine WL.assign (v := .bool false) rfl ?_
  refine WL.nil ?_
  exact Jk16 false _ _ rfl ((hs.mask []).pick []) hf } }
  {
  refine WL.pass ((wanted_of rfl rfl (bool_tr rfl hc20)).trans rfl) rfl ?_
  refine WL.pass ((wanted_of rfl rfl (bool_tr rfl hc20)).trans rfl) rfl ?_
  refine WL.pass ((wanted_of rfl rfl (bool_tr rfl hc20)).trans rfl) rfl ?_
  refine WL.pickF (v := .bool false) (bool_tr rfl hc20) rfl ?_
  refine WL.move (v := .bool false) rfl ?_
  refine WL.pass ((wanted_of rfl rfl rfl).trans rfl) rfl ?_
  refine WL.pass ((wanted_of rfl rfl rfl).trans rfl) rfl ?_
  refine WL.pass ((wanted_of rfl rfl rfl).trans rfl) rfl ?_
  refine WL.pass ((wanted_of rfl rfl rfl).trans rfl) rfl ?_
  refine WL.pass ((wanted_of rfl rfl rfl).trans rfl) rfl ?_
  refine WL.pickF (v := .bool false) rfl rfl ?_
  refine WL.move (v := .bool false) rfl ?_
  refine WL.pass ((wanted_of rfl rfl rfl).trans rfl) rfl ?_
  refine WL.pass ((wanted_of rfl rfl rfl).trans rfl) rfl ?_
  refine WL.pass ((wanted_of rfl rfl rfl).trans rfl) rfl ?_
  refine WL.pass ((wanted_of rfl rfl rfl).trans rfl) rfl ?_
  refine WL.pass ((wanted_of rfl rfl rfl).trans rfl) rfl ?_
  refine WL.pickF (v := .bool false) rfl rfl ?_
  refine WL.assign (v := .bool false) rfl ?_
  refine WL.nil ?_
  exact Jk16 false _ _ rfl ((hs.mask []).pick []) hf } }
  {
  refine WL.pass ((wanted_of rfl rfl (bool_tr rfl hc19)).trans rfl) rfl ?_
  refine WL.pass ((wanted_of rfl rfl (bool_tr rfl hc19)).trans rfl) rfl ?_
  refine WL.pass ((wanted_of rfl rfl (bool_tr rfl hc19)).trans rfl) rfl ?_
  refine WL.pickF (v := .bool false) (bool_tr rfl hc19) rfl ?_
  refine WL.move (v := .bool false) rfl ?_
  refine WL.pass ((wanted_of rfl rfl rfl).trans rfl) rfl ?_
  refine WL.pass ((wanted_of rfl rfl rfl).trans rfl) rfl ?_
  refine WL.pass ((wanted_of rfl rfl rfl).trans rfl) rfl ?_
  refine WL.pickF (v := .bool false) rfl rfl ?_
  refine WL.move (v := .bool false) rfl ?_
  refine WL.pass ((wanted_of rfl rfl rfl).trans rfl) rfl ?_
  refine WL.pass ((wanted_of rfl rfl rfl).trans rfl) rfl ?_
  refine WL.pass ((wanted_of rfl rfl rfl).trans rfl) rfl ?_
  refine WL.pass ((wanted_of rfl rfl rfl).trans rfl) rfl ?_
  refine WL.pass ((wanted_of rfl rfl rfl).trans rfl) rfl ?_
  refine WL.pickF (v := .bool false) rfl rfl ?_
  refine WL.move (v := .bool false) rfl ?_
  refine WL.pass ((wanted_of rfl rfl rfl).trans rfl) rfl ?_
  refine WL.pass ((wanted_of rfl rfl rfl).trans rfl) rfl ?_
  refine WL.pass ((wanted_of rfl rfl rfl).trans rfl) rfl ?_
  refine WL.pass ((wanted_of rfl rfl rfl).trans rfl) rfl ?_
  refine WL.pass ((wanted_of rfl rfl rfl).trans rfl) rfl ?_
  refine WL.pickF (v := .bool false) rfl rfl ?_
  refine WL.assign (v := .bool false) rfl ?_
  refine WL.nil ?_
  exact Jk16 false _ _ rfl ((hs.mask []).pick []) hf } }
  {
  refine WL.pass ((wanted_of rfl rfl (bool_tr rfl hc18)).trans rfl) rfl ?_
  refine WL.pass ((wanted_of rfl rfl (bool_tr rfl hc18)).trans rfl) rfl ?_
  refine WL.pickF (v := .bool false) (bool_tr rfl hc18) rfl ?_
  refine WL.move (v := .bool false) rfl ?_
  refine WL.pass ((wanted_of rfl rfl rfl).trans rfl) rfl ?_
  refine WL.pass ((wanted_of rfl rfl rfl).trans rfl) rfl ?_
  refine WL.pass ((wanted_of rfl rfl rfl).trans rfl) rfl ?_
  refine WL.pickF (v := .bool false) rfl rfl ?_
  refine WL.move (v := .bool false) rfl ?_
  refine WL.pass ((wanted_of rfl rfl rfl).trans rfl) rfl ?_
  refine WL.pass ((wanted_of rfl rfl rfl).trans rfl) rfl ?_
  refine WL.pass ((wanted_of rfl rfl rfl).trans rfl) rfl ?_
  refine WL.pickF (v := .bool false) rfl rfl ?_
  refine WL.move (v := .bool false) rfl ?_
  refine WL.pass ((wanted_of rfl rfl rfl).trans rfl) rfl ?_
  refine WL.pass ((wanted_of rfl rfl rfl).trans rfl) rfl ?_
  refine WL.pass ((wanted_of rfl rfl rfl).trans rfl) rfl ?_
  refine WL.pass ((wanted_of rfl rfl rfl).trans rfl) rfl ?_
  refine WL.pass ((wanted_of rfl rfl rfl).trans rfl) rfl ?_
  refine WL.pickF (v := .bool false) rfl rfl ?_
  refine WL.move (v := .bool false) rfl ?_
  refine WL.pass ((wanted_of rfl rfl rfl).trans rfl) rfl ?_
  refine WL.pass ((wanted_of rfl rfl rfl).trans rfl) rfl ?_
  refine WL.pass ((wanted_of rfl rfl rfl).trans rfl) rfl ?_
  refine WL.pass ((wanted_of rfl rfl rfl).trans rfl) rfl ?_
  refine WL.pass ((wanted_of rfl rfl rfl).trans rfl) rfl ?_
  refine WL.pickF (v := .bool false) rfl rfl ?_
  refine WL.assign (v := .bool false) rfl ?_
  refine WL.nil ?_
  exact Jk16 false _ _ rfl ((hs.mask []).pick []) hf } }
  {
  refine WL.pass ((wanted_of rfl rfl (bool_tr rfl hc17)).trans rfl) rfl ?_
  refine WL.pass ((wanted_of rfl rfl (bool_tr rfl hc17)).trans rfl) rfl ?_
  refine WL.pass ((wanted_of rfl rfl (bool_tr rfl hc17)).trans rfl) rfl ?_
  refine WL.pickF (v := .bool false) (bool_tr rfl hc17) rfl ?_
  refine WL.move (v := .bool false) rfl ?_
  refine WL.pass ((wanted_of rfl rfl rfl).trans rfl) rfl ?_
  refine WL.pass ((wanted_of rfl rfl rfl).trans rfl) rfl ?_
  refine WL.pickF (v := .bool false) rfl rfl ?_
  refine WL.move (v := .bool false) rfl ?_
  refine WL.pass ((wanted_of rfl rfl rfl).trans rfl) rfl ?_
  refine WL.pass ((wanted_of rfl rfl rfl).trans rfl) rfl ?_
  refine WL.pass ((wanted_of rfl rfl rfl).trans rfl) rfl ?_
  refine WL.pickF (v := .bool false) rfl rfl ?_
  refine WL.move (v := .bool false) rfl ?_
  refine WL.pass ((wanted_of rfl rfl rfl).trans rfl) rfl ?_
  refine WL.pass ((wanted_of rfl rfl rfl).trans rfl) rfl ?_
  refine WL.pass ((wanted_of rfl rfl rfl).trans rfl) rfl ?_
  refine WL.pickF (v := .bool false) rfl rfl ?_
  refine WL.move (v := .bool false) rfl ?_
  refine WL.pass ((wanted_of rfl rfl rfl).trans rfl) rfl ?_
  refine WL.pass ((wanted_of rfl rfl rfl).trans rfl) rfl ?_
  refine WL.pass ((wanted_of rfl rfl rfl).trans rfl) rfl ?_
  refine WL.pass ((wanted_of rfl rfl rfl).trans rfl) rfl ?_
  refine WL.pass ((wanted_of rfl rfl rfl).trans rfl) rfl ?_
  refine WL.pickF (v := .bool false) rfl rfl ?_
  refine WL.move (v := .bool false) rfl ?_
  refine WL.pass ((wanted_of rfl rfl rfl).trans rfl) rfl ?_
  refine WL.pass ((wanted_of rfl rfl rfl).trans rfl) rfl ?_
  refine WL.pass ((wanted_of rfl rfl rfl).trans rfl) rfl ?_
  refine WL.pass ((wanted_of rfl rfl rfl).trans rfl) rfl ?_
  refine WL.pass ((wanted_of rfl rfl rfl).trans rfl) rfl ?_
  refine WL.pickF (v := .bool false) rfl rfl ?_
  refine WL.assign (v := .bool false) rfl ?_
  refine WL.nil ?_
  exact Jk16 false _ _ rfl ((hs.mask []).pick []) hf }
end Go.Proofs.Ytbbeobiampbddaa
