import Derived.Test.YtahobbichanccaaFh
import Derived.Test.YtahobbichanccaaFp3
set_option linter.unusedVariables false
set_option linter.unusedSimpArgs false
namespace Go.Proofs.Ytahobbichanccaa
open Go Go.RowKit Go.Proofs.YtahobbichanccaaL
set_option maxRecDepth 100000
set_option maxHeartbeats 400000
/-! elasticstore/elasticstoreref36.Deliverable: function 21 -/
theorem esref36_Deliverable.calls {ok : Nat → Prop} {w0 : World} {x1 : network_Network} {v2 : Value} {r : List Int} (hf : esref36_Deliverable x1 = some r) (i0 : (vl t_network_Network x1 v2).holds ok w0) :
    Calls Try.prog 21 #[v2] w0 fun e w' => ∃ v, e = .returned v ∧ ∃ y : (Option Addr × Nat × Nat), v = .slice y.1 y.2.1 y.2.2 ∧ St ok (bz w0) w' [] [own (tInt .i64) 3 (.slice y.1 y.2.1 y.2.2) r] := by
  unfold esref36_Deliverable at hf
  refine calls_of_W (fn := Try.f21) (N := 36) Try.func21 rfl Try.ntmps21 rfl ?_
  have hs : St ok (bz w0) w0 [vl t_network_Network x1 v2] [] := St.init (All.cons i0 All.nil)
  clear i0
  obtain ⟨cs3, hl4, rfl⟩ := hs.aggv (n := 3) 0 rfl rfl rfl
  refine W.seqK fun K5 hK5 => ?_
  refine W.region ?_
  refine WL.box (vs := cs3) hs rfl rfl (fun g6 w hs => ?_)
  refine WL.assign (v := .slice none 0 0) rfl ?_
  refine WL.nil ?_
  refine hK5 _ _ ?_
  refine W.seqK fun K7 hK7 => ?_
  refine W.region ?_
  refine WL.assign (v := .slice none 0 0) rfl ?_
  refine WL.nil ?_
  refine hK7 _ _ ?_
  refine W.seqK fun K8 hK8 => ?_
  have hs := hs.ownNil (tInt .i64) 3
  have Jk14 : ∀ (x10 : List Int) (a11 : Option Addr) (c12 : Nat) (n13 : Nat) (ρ : Env) (w : World), ρ 3 = .slice a11 n13 c12 → St ok (bz w0) w [] [own (tInt .i64) 3 (.slice a11 n13 c12) x10] → esref36_Deliverable.j1 x10 = some r → K8 ρ w := by
    intro x10 a11 c12 n13 ρ w h9_3 hs hf
    refine hK8 _ _ ?_
    unfold esref36_Deliverable.j1 at hf
    refine W.seqK fun K15 hK15 => ?_
    refine W.region ?_
    refine WL.move (v := .slice a11 n13 c12) h9_3 ?_
    refine WL.assign (v := .slice a11 n13 c12) rfl ?_
    refine WL.nil ?_
    refine hK15 _ _ ?_
    refine W.ret ?_
    have hr := Option.some.inj hf; subst hr
    exact ⟨_, resOk_one rfl rfl, (a11, n13, c12), rfl, (hs.mask [true]).pick []⟩
  refine W.seqK fun K16 hK16 => ?_
  refine W.region ?_
  refine WL.assign (v := .int .i64 0) rfl ?_
  refine WL.nil ?_
  refine hK16 _ _ ?_
  refine W.block ?_
  obtain ⟨bs23, hbs23, hfs23⟩ := bindE hf
  refine W.loop hbs23 (fun s ρ w => match s with | (x18, x22) => ∃ (a19 : Option Addr), ∃ (c20 : Nat), ∃ (n21 : Nat), ρ 1 = .pointer (some ⟨g6, 0, none⟩) ∧ ρ 3 = .slice a19 n21 c20 ∧ ρ 4 = .int .i64 x22 ∧ St ok (bz w0) w [vl t_network_Network x1 (.agg cs3.toArray)] [own (tInt .i64) 3 (.slice a19 n21 c20) x18, blk g6 27 cs3]) ⟨none, 0, 0, rfl, rfl, rfl, (hs.mask [true, true]).pick [0]⟩ ?_
  intro s ρ w os23 hI hf hbbs23
  obtain ⟨x18, x22⟩ := s
  obtain ⟨a19, c20, n21, h17_1, h17_3, h17_4, hs⟩ := hI
  unfold esref36_Deliverable.l1 at hf
  refine W.seqK fun K24 hK24 => ?_
  refine W.seqK fun K25 hK25 => ?_
  refine W.region ?_
  refine WL.move (v := .int .i64 x22) h17_4 ?_
  refine WL.fieldAddr (m := 1) h17_1 FA27_1 rfl ?_
  refine WL.loadF (z := x1.Packets) F_network_Network_Packets hs 1 rfl 0 rfl rfl TI25 (.inr rfl) rfl rfl (fun v26 hs => ?_)
  obtain ⟨a27, c28, rfl⟩ := hs.slice 0 rfl
  refine WL.len (v := .slice a27 (x1.Packets).length c28) rfl (len_slice UN25) ?_
  refine WL.bin (v := .bool (decide (x22 < ((x1.Packets).length : Int)))) rfl rfl (ib_lss _ _ _) ?_
  refine WL.nil ?_
  refine hK25 _ _ ?_
  rcases iteE hf with ⟨hc29, hf⟩ | ⟨hc29, hf⟩
  · refine W.cond_true (bool_tr rfl hc29) ?_
    refine W.skip ?_
    refine hK24 _ _ ?_
    refine W.seqK fun K30 hK30 => ?_
    have Jk36 : ∀ (x32 : List Int) (a33 : Option Addr) (c34 : Nat) (n35 : Nat) (ρ : Env) (w : World), ρ 1 = .pointer (some ⟨g6, 0, none⟩) → ρ 3 = .slice a33 n35 c34 → ρ 4 = .int .i64 x22 → St ok (bz w0) w [vl t_network_Network x1 (.agg cs3.toArray)] [own (tInt .i64) 3 (.slice a33 n35 c34) x32, blk g6 27 cs3] → esref36_Deliverable.j2 x22 x32 = some os23 → K30 ρ w := by
      intro x32 a33 c34 n35 ρ w h31_1 h31_3 h31_4 hs hf
      refine hK30 _ _ ?_
      unfold esref36_Deliverable.j2 at hf
      refine W.region ?_
      refine WL.move (v := .int .i64 x22) h31_4 ?_
      obtain ⟨x37, ex37, hf⟩ := letE hf
      refine WL.bin (v := .int .i64 x37) rfl rfl (ib_as ex37 (ib_add _ _ _)) ?_
      refine WL.assign (v := .int .i64 x37) rfl ?_
      refine WL.nil ?_
      exact ⟨_, (Option.some.inj hf).symm, a33, c34, n35, h31_1, h31_3, rfl, (hs.mask [true, true]).pick [0]⟩
    refine W.block ?_
    refine W.seqK fun K38 hK38 => ?_
    refine W.region ?_
    refine WL.fieldAddr (m := 1) h17_1 FA27_1 rfl ?_
    refine WL.loadF (z := x1.Packets) F_network_Network_Packets hs 1 rfl 1 rfl rfl TI25 (.inr rfl) rfl rfl (fun v39 hs => ?_)
    obtain ⟨a40, c41, rfl⟩ := hs.slice 0 rfl
    refine WL.move (v := .int .i64 x22) h17_4 ?_
    obtain ⟨x42, hxx42, hf⟩ := bindE hf
    refine WL.indexAddr hs 0 rfl UN25 TI51 rfl rfl hxx42 (fun ad43 hs => ?_)
    refine WL.fieldAddrP (z := x42.Message) F_network_Packet_Message hs 0 rfl rfl FA51_1 rfl (fun ad44 hs => ?_)
    refine WL.loadP hs 0 rfl TI49 (.inl rfl) rfl (fun v45 hs => ?_)
    obtain ⟨cs46, hl47, rfl⟩ := hs.aggv (n := 18) 0 rfl rfl rfl
    refine WL.alloc hs ZV49 (fun g48 w hs => ?_)
    refine WL.storeAll (vs := cs46) hs 0 rfl TI49 rfl rfl rfl hl47 (hs.ones 0 rfl rfl) rfl (fun w hs => ?_)
    refine WL.nil ?_
    refine hK38 _ _ ?_
    refine W.seqK fun K49 hK49 => ?_
    refine W.region ?_
    refine WL.loadAll hs 2 rfl TI27 h17_1 hl4 ?_
    refine WL.fieldAddr (m := 1) rfl FA49_1 rfl ?_
    refine WL.loadF (z := x42.Message.From) F_api_Message_From hs 0 rfl 0 rfl rfl TI3 (.inr rfl) rfl rfl (fun v50 hs => ?_)
    obtain rfl := hs.int 0 rfl
    refine WL.fieldAddr (m := 2) rfl FA49_2 rfl ?_
    refine WL.loadF (z := x42.Message.To) F_api_Message_To hs 0 rfl 1 rfl rfl TI3 (.inr rfl) rfl rfl (fun v51 hs => ?_)
    obtain rfl := hs.int 0 rfl
    obtain ⟨x52, hxx52, hf⟩ := bindE hf
    refine WL.call (vs := [.agg cs3.toArray, .int .i64 x42.Message.From, .int .i64 x42.Message.To]) hs FN25 ⟨rfl, ⟨rfl, ⟨rfl, trivial⟩⟩⟩ (fun ok hA => esref36_Blocked.calls (x1 := x1) (x5 := x42.Message.From) (x6 := x42.Message.To) hxx52 (hA.get 7 rfl)) ?_
    rintro _ w hs
    refine WL.not rfl ?_
    refine WL.nil ?_
    refine hK49 _ _ ?_
    rcases iteE hf with ⟨hc53, hf⟩ | ⟨hc53, hf⟩
    · refine W.cond_true (bool_tr rfl hc53) ?_
      refine W.region ?_
      refine WL.move (v := .slice a19 n21 c20) h17_3 ?_
      refine WL.fieldAddr (m := 1) h17_1 FA27_1 rfl ?_
      refine WL.loadF (z := x1.Packets) F_network_Network_Packets hs 2 rfl 7 rfl rfl TI25 (.inr rfl) rfl rfl (fun v54 hs => ?_)
      obtain ⟨a55, c56, rfl⟩ := hs.slice 0 rfl
      refine WL.move (v := .int .i64 x22) h17_4 ?_
      obtain ⟨x57, hxx57, hf⟩ := bindE hf
      refine WL.indexAddr hs 0 rfl UN25 TI51 rfl rfl hxx57 (fun ad58 hs => ?_)
      refine WL.fieldAddrP (z := x57.ID) F_network_Packet_ID hs 0 rfl rfl FA51_0 rfl (fun ad59 hs => ?_)
      refine WL.loadP hs 0 rfl TI3 (.inr rfl) rfl (fun v60 hs => ?_)
      obtain rfl := hs.int 0 rfl
      refine WL.buildSlice (n := 1) (vs := [(0, .int .i64 x57.ID)]) (cs := [.int .i64 x57.ID]) hs ⟨⟨rfl, rfl⟩, trivial⟩ (bls PS36 (by decide) rfl) (fun g61 w hs => ?_)
      obtain ⟨x62, hxx62, hf⟩ := bindE hf
      obtain ⟨hbx62, hex62⟩ := appE hxx62
      refine WL.append (ys := [x57.ID]) (zs := x62) hs 2 rfl 0 rfl UN36 EI3 rfl rfl (fun ok hA => (Cells.one (T := tInt .i64) rfl)) hbx62 (by omega) hex62 (fun v63 w hs => ?_)
      obtain ⟨a64, n66, c65, rfl⟩ := hs.ownv3 2 rfl
      refine WL.assign (v := .slice a64 n66 c65) rfl ?_
      refine WL.nil ?_
      exact Jk36 x62 a64 c65 n66 _ _ h17_1 rfl h17_4 ((hs.mask [false, false, true, true]).pick [11]) hf
    · refine W.cond_false (bool_tr rfl hc53) ?_
      refine W.skip ?_
      exact Jk36 x18 a19 c20 n21 _ _ h17_1 h17_3 h17_4 ((hs.mask [false, true, true]).pick [7]) hf
  · refine W.cond_false (bool_tr rfl hc29) ?_
    refine W.exit ?_
    have hr := Option.some.inj hf; subst hr
    have hr := hbbs23 _ rfl; subst hr
    have hf := hfs23
    exact Jk14 x18 a19 c20 n21 _ _ h17_3 ((hs.mask [true]).pick []) hf
theorem esref36_Deliverable.callc {ok : Nat → Prop} {w0 : World} {x1 : network_Network} {v2 : Value} {r : List Int} (hf : esref36_Deliverable x1 = some r) (i0 : (vl t_network_Network x1 v2).holds ok w0) :
    Calls Try.prog 21 #[v2] w0 fun e w' => ∃ v, e = .returned v ∧ ∃ y : (Option Addr × Nat), v = .slice y.1 r.length y.2 ∧ St ok (bz w0) w' [vl (tSlice (tInt .i64)) r (.slice y.1 r.length y.2)] [] := by
  refine (esref36_Deliverable.calls (ok := ok) (w0 := w0) (x1 := x1) hf i0).mono ?_
  rintro e w' ⟨v, rfl, ⟨a68, n69, c70⟩, rfl, hs⟩
  obtain rfl := hs.ownLen 0 rfl
  have hs := hs.freezeOwn 0 rfl
  exact ⟨_, rfl, (a68, c70), rfl, hs.pick [0]⟩
/-! elasticstore/elasticstorelaw34.equalInts: function 20 -/
theorem eslaw34_equalInts.calls {ok : Nat → Prop} {w0 : World} {x1 : List Int} {x4 : List Int} {a2 : Option Addr} {c3 : Nat} {a5 : Option Addr} {c6 : Nat} {r : Bool} (hf : eslaw34_equalInts x1 x4 = some r) (i0 : (vl (tSlice (tInt .i64)) x1 (.slice a2 x1.length c3)).holds ok w0) (i1 : (vl (tSlice (tInt .i64)) x4 (.slice a5 x4.length c6)).holds ok w0) :
    Calls Try.prog 20 #[.slice a2 x1.length c3, .slice a5 x4.length c6] w0 fun e w' => ∃ v, e = .returned v ∧ ∃ y : Unit, v = .bool r ∧ St ok (bz w0) w' [] [] := by
  unfold eslaw34_equalInts at hf
  refine calls_of_W (fn := Try.f20) (N := 26) Try.func20 rfl Try.ntmps20 rfl ?_
  have hs : St ok (bz w0) w0 [vl (tSlice (tInt .i64)) x1 (.slice a2 x1.length c3), vl (tSlice (tInt .i64)) x4 (.slice a5 x4.length c6)] [] := St.init (All.cons i0 (All.cons i1 All.nil))
  clear i0 i1
  refine W.seqK fun K7 hK7 => ?_
  refine W.region ?_
  refine WL.assign (v := .bool false) rfl ?_
  refine WL.nil ?_
  refine hK7 _ _ ?_
  refine W.seqK fun K8 hK8 => ?_
  refine W.seqK fun K9 hK9 => ?_
  refine W.region ?_
  refine WL.move (v := .slice a2 x1.length c3) rfl ?_
  refine WL.len (v := .slice a2 x1.length c3) rfl (len_slice UN36) ?_
  refine WL.move (v := .slice a5 x4.length c6) rfl ?_
  refine WL.len (v := .slice a5 x4.length c6) rfl (len_slice UN36) ?_
  refine WL.bin (v := .bool ((x1.length : Int) != (x4.length : Int))) rfl rfl (ib_neq _ _ _) ?_
  refine WL.nil ?_
  refine hK9 _ _ ?_
  rcases iteE hf with ⟨hc10, hf⟩ | ⟨hc10, hf⟩
  · refine W.cond_true (bool_tr rfl hc10) ?_
    refine W.seqK fun K11 hK11 => ?_
    refine W.region ?_
    refine WL.assign (v := .bool false) rfl ?_
    refine WL.nil ?_
    refine hK11 _ _ ?_
    refine W.ret ?_
    have hr := Option.some.inj hf; subst hr
    exact ⟨_, resOk_one rfl rfl, (), rfl, (hs.mask []).pick []⟩
  · refine W.cond_false (bool_tr rfl hc10) ?_
    refine W.skip ?_
    refine hK8 _ _ ?_
    refine W.seqK fun K12 hK12 => ?_
    have Jk14 : ∀  (ρ : Env) (w : World), St ok (bz w0) w [] [] → eslaw34_equalInts.j1 = some r → K12 ρ w := by
      intro  ρ w  hs hf
      refine hK12 _ _ ?_
      unfold eslaw34_equalInts.j1 at hf
      refine W.seqK fun K15 hK15 => ?_
      refine W.region ?_
      refine WL.assign (v := .bool true) rfl ?_
      refine WL.nil ?_
      refine hK15 _ _ ?_
      refine W.ret ?_
      have hr := Option.some.inj hf; subst hr
      exact ⟨_, resOk_one rfl rfl, (), rfl, (hs.mask []).pick []⟩
    refine W.seqK fun K16 hK16 => ?_
    refine W.region ?_
    refine WL.assign (v := .int .i64 0) rfl ?_
    refine WL.nil ?_
    refine hK16 _ _ ?_
    refine W.block ?_
    obtain ⟨bs19, hbs19, hfs19⟩ := bindE hf
    refine W.loop hbs19 (fun s ρ w => match s with | x18 => ρ 0 = .slice a2 x1.length c3 ∧ ρ 1 = .slice a5 x4.length c6 ∧ ρ 5 = .int .i64 x18 ∧ St ok (bz w0) w [vl (tSlice (tInt .i64)) x1 (.slice a2 x1.length c3), vl (tSlice (tInt .i64)) x4 (.slice a5 x4.length c6)] []) ⟨rfl, rfl, rfl, (hs.mask []).pick [0, 1]⟩ ?_
    intro x18 ρ w os19 hI hf hbbs19
    obtain ⟨h17_0, h17_1, h17_5, hs⟩ := hI
    unfold eslaw34_equalInts.l1 at hf
    refine W.seqK fun K20 hK20 => ?_
    refine W.seqK fun K21 hK21 => ?_
    refine W.region ?_
    refine WL.move (v := .int .i64 x18) h17_5 ?_
    refine WL.move (v := .slice a2 x1.length c3) h17_0 ?_
    refine WL.len (v := .slice a2 x1.length c3) rfl (len_slice UN36) ?_
    refine WL.bin (v := .bool (decide (x18 < (x1.length : Int)))) rfl rfl (ib_lss _ _ _) ?_
    refine WL.nil ?_
    refine hK21 _ _ ?_
    rcases iteE hf with ⟨hc22, hf⟩ | ⟨hc22, hf⟩
    · refine W.cond_true (bool_tr rfl hc22) ?_
      refine W.skip ?_
      refine hK20 _ _ ?_
      refine W.seqK fun K23 hK23 => ?_
      refine W.block ?_
      refine W.seqK fun K24 hK24 => ?_
      obtain ⟨x25, hxx25, hf⟩ := bindE hf
      obtain ⟨x28, hxx28, hf⟩ := bindE hf
      refine W.any (by kernel_rfl) 9 0 [true, true, true, true, true, true, true, true, true] rfl rfl (poAt [pv (.slice a2 x1.length c3), pv (.int .i64 x18), pq (fun y : Addr => .pointer (some y)) (fun v => [pl (tInt .i64) x25 (adOf v)]) (fun v => []), pv (.int .i64 x25), pv (.slice a5 x4.length c6), pv (.int .i64 x18), pq (fun y : Addr => .pointer (some y)) (fun v => [pl (tInt .i64) x28 (adOf v)]) (fun v => []), pv (.int .i64 x28), pv (.bool (x25 != x28))]) (Λ := []) hs (by kernel_rfl) (by kernel_rfl) (by kernel_rfl) ⟨⟨⟨⟨⟨⟨⟨⟨⟨trivial, ?_⟩, ?_⟩, ?_⟩, ?_⟩, ?_⟩, ?_⟩, ?_⟩, ?_⟩, ?_⟩ ?_
      · intro ρ w Γx Λx hs hu hp
        refine WL.move (v := .slice a2 x1.length c3) ((hu 0 rfl).trans h17_0) ?_
        exact WL.nil ⟨rfl, _, rfl, rfl, hs.cutG 0 0⟩
      · intro ρ w Γx Λx hs hu hp
        refine WL.move (v := .int .i64 x18) ((hu 5 rfl).trans h17_5) ?_
        exact WL.nil ⟨rfl, _, rfl, rfl, hs.cutG 0 0⟩
      · intro ρ w Γx Λx hs hu hp
        have e31 : ρ 17 = .slice a2 x1.length c3 := (hp 0 rfl).1
        have e32 : ρ 18 = .int .i64 x18 := (hp 1 rfl).1
        refine WL.indexAddr hs (Γx.length + 0) (getApp rfl) UN36 TI3 e31 e32 hxx25 (fun ad26 hs => ?_)
        have hs := hs.add (it := pl (tInt .i64) x25 ad26) fun ok hA => hA.get 0 rfl
        exact WL.nil ⟨rfl, _, rfl, ⟨ad26, rfl⟩, hs.cutG 1 1⟩
      · intro ρ w Γx Λx hs hu hp
        obtain ⟨⟨ad33, e34r⟩, hm35⟩ := hp 2 rfl
        have e34 : ρ 19 = .pointer (some ad33) := e34r
        rw [e34r] at hm35
        have hs := hs.memo1 (it := pl (tInt .i64) x25 ad33) (List.mem_append.2 (.inl (hm35 _ (List.mem_of_getElem? (i := 0) rfl))))
        refine WL.loadP hs 0 rfl TI3 (.inr rfl) e34 (fun v27 hs => ?_)
        obtain rfl := hs.int 0 rfl
        exact WL.nil ⟨rfl, _, rfl, rfl, hs.cutG 0 2⟩
      · intro ρ w Γx Λx hs hu hp
        refine WL.move (v := .slice a5 x4.length c6) ((hu 1 rfl).trans h17_1) ?_
        exact WL.nil ⟨rfl, _, rfl, rfl, hs.cutG 0 0⟩
      · intro ρ w Γx Λx hs hu hp
        refine WL.move (v := .int .i64 x18) ((hu 5 rfl).trans h17_5) ?_
        exact WL.nil ⟨rfl, _, rfl, rfl, hs.cutG 0 0⟩
      · intro ρ w Γx Λx hs hu hp
        have e36 : ρ 21 = .slice a5 x4.length c6 := (hp 4 rfl).1
        have e37 : ρ 22 = .int .i64 x18 := (hp 5 rfl).1
        refine WL.indexAddr hs (Γx.length + 1) (getApp rfl) UN36 TI3 e36 e37 hxx28 (fun ad29 hs => ?_)
        have hs := hs.add (it := pl (tInt .i64) x28 ad29) fun ok hA => hA.get 0 rfl
        exact WL.nil ⟨rfl, _, rfl, ⟨ad29, rfl⟩, hs.cutG 1 1⟩
      · intro ρ w Γx Λx hs hu hp
        obtain ⟨⟨ad38, e39r⟩, hm40⟩ := hp 6 rfl
        have e39 : ρ 23 = .pointer (some ad38) := e39r
        rw [e39r] at hm40
        have hs := hs.memo1 (it := pl (tInt .i64) x28 ad38) (List.mem_append.2 (.inl (hm40 _ (List.mem_of_getElem? (i := 0) rfl))))
        refine WL.loadP hs 0 rfl TI3 (.inr rfl) e39 (fun v30 hs => ?_)
        obtain rfl := hs.int 0 rfl
        exact WL.nil ⟨rfl, _, rfl, rfl, hs.cutG 0 2⟩
      · intro ρ w Γx Λx hs hu hp
        have e41 : ρ 20 = .int .i64 x25 := (hp 3 rfl).1
        have e42 : ρ 24 = .int .i64 x28 := (hp 7 rfl).1
        refine WL.bin (v := .bool (x25 != x28)) e41 e42 (ib_neq _ _ _) ?_
        exact WL.nil ⟨rfl, _, rfl, rfl, hs.cutG 0 0⟩
      · intro ρ w hs hu43 hp
        obtain ⟨⟨⟨⟨⟨⟨⟨⟨⟨_, hp0_⟩, hp1_⟩, hp2_⟩, hp3_⟩, hp4_⟩, hp5_⟩, hp6_⟩, hp7_⟩, hp8_⟩ := hp
        have hs : St ok (bz w0) w [pl (tInt .i64) x28 (adOf (ρ 23)), pl (tInt .i64) x25 (adOf (ρ 19)), vl (tSlice (tInt .i64)) x1 (.slice a2 x1.length c3), vl (tSlice (tInt .i64)) x4 (.slice a5 x4.length c6)] [] := hs
        have e44 : ρ 25 = .bool (x25 != x28) := hp8_
        have e45 : ρ 24 = .int .i64 x28 := hp7_
        obtain ⟨ad46, e47⟩ := hp6_
        have e47 : ρ 23 = .pointer (some ad46) := e47
        try rw [e47] at hs
        have e48 : ρ 22 = .int .i64 x18 := hp5_
        have e49 : ρ 21 = .slice a5 x4.length c6 := hp4_
        have e50 : ρ 20 = .int .i64 x25 := hp3_
        obtain ⟨ad51, e52⟩ := hp2_
        have e52 : ρ 19 = .pointer (some ad51) := e52
        try rw [e52] at hs
        have e53 : ρ 18 = .int .i64 x18 := hp1_
        have e54 : ρ 17 = .slice a2 x1.length c3 := hp0_
        refine WA.done (by kernel_rfl) ?_
        refine hK24 _ _ ?_
        rcases iteE hf with ⟨hc55, hf⟩ | ⟨hc55, hf⟩
        · refine W.cond_true (bool_tr e44 hc55) ?_
          refine W.seqK fun K56 hK56 => ?_
          refine W.region ?_
          refine WL.assign (v := .bool false) rfl ?_
          refine WL.nil ?_
          refine hK56 _ _ ?_
          refine W.ret ?_
          have hr := Option.some.inj hf; subst hr
          have hr := hbbs19 _ rfl; subst hr
          have hf := hfs19
          have hr := Option.some.inj hf; subst hr
          exact ⟨_, resOk_one rfl rfl, (), rfl, (hs.mask []).pick []⟩
        · refine W.cond_false (bool_tr e44 hc55) ?_
          refine W.skip ?_
          refine hK23 _ _ ?_
          refine W.region ?_
          refine WL.move (v := .int .i64 x18) ((hu43 5 rfl).trans h17_5) ?_
          obtain ⟨x57, ex57, hf⟩ := letE hf
          refine WL.bin (v := .int .i64 x57) rfl rfl (ib_as ex57 (ib_add _ _ _)) ?_
          refine WL.assign (v := .int .i64 x57) rfl ?_
          refine WL.nil ?_
          exact ⟨_, (Option.some.inj hf).symm, ((hu43 0 rfl).trans h17_0), ((hu43 1 rfl).trans h17_1), rfl, (hs.mask []).pick [2, 3]⟩
    · refine W.cond_false (bool_tr rfl hc22) ?_
      refine W.exit ?_
      have hr := Option.some.inj hf; subst hr
      have hr := hbbs19 _ rfl; subst hr
      have hf := hfs19
      exact Jk14  _ _  ((hs.mask []).pick []) hf
/-! elasticstore/elasticstoreref36.Find: function 23 -/
theorem esref36_Find.calls {ok : Nat → Prop} {w0 : World} {x1 : network_Network} {x5 : Int} {v2 : Value} {r : api_Message × Bool} (hf : esref36_Find x1 x5 = some r) (i0 : (vl t_network_Network x1 v2).holds ok w0) :
    Calls Try.prog 23 #[v2, .int .i64 x5] w0 fun e w' => ∃ v, e = .returned v ∧ ∃ y : List Value, v = .tuple #[.agg y.toArray, .bool r.2] ∧ St ok (bz w0) w' [vl t_api_Message r.1 (.agg y.toArray)] [] := by
  unfold esref36_Find at hf
  refine calls_of_W (fn := Try.f23) (N := 19) Try.func23 rfl Try.ntmps23 rfl ?_
  have hs : St ok (bz w0) w0 [vl t_network_Network x1 v2] [] := St.init (All.cons i0 All.nil)
  clear i0
  obtain ⟨cs3, hl4, rfl⟩ := hs.aggv (n := 3) 0 rfl rfl rfl
  refine W.seqK fun K6 hK6 => ?_
  refine W.region ?_
  refine WL.box (vs := cs3) hs rfl rfl (fun g7 w hs => ?_)
  refine WL.alloc hs ZV49 (fun g8 w hs => ?_)
  refine WL.assign (v := .bool false) rfl ?_
  refine WL.nil ?_
  refine hK6 _ _ ?_
  refine W.seqK fun K9 hK9 => ?_
  refine W.seqK fun K10 hK10 => ?_
  refine W.region ?_
  refine WL.loadAll hs 1 rfl TI27 rfl hl4 ?_
  refine WL.move (v := .int .i64 x5) rfl ?_
  obtain ⟨x11, hxx11, hf⟩ := bindE hf
  refine WL.call (vs := [.agg cs3.toArray, .int .i64 x5]) hs FN41 ⟨rfl, ⟨rfl, trivial⟩⟩ (fun ok hA => esref36_find.calls (x1 := x1) (x5 := x5) hxx11 (hA.get 0 rfl)) ?_
  rintro _ w hs
  refine WL.assign (v := .int .i64 x11) rfl ?_
  refine WL.nil ?_
  refine hK10 _ _ ?_
  refine W.seqK fun K12 hK12 => ?_
  refine W.region ?_
  refine WL.move (v := .int .i64 x11) rfl ?_
  refine WL.bin (v := .bool (decide (0 ≤ x11))) rfl rfl (ib_geq _ _ _) ?_
  refine WL.nil ?_
  refine hK12 _ _ ?_
  rcases iteE hf with ⟨hc13, hf⟩ | ⟨hc13, hf⟩
  · refine W.cond_true (bool_tr rfl hc13) ?_
    refine W.seqK fun K14 hK14 => ?_
    refine W.region ?_
    refine WL.fieldAddr (m := 1) rfl FA27_1 rfl ?_
    refine WL.loadF (z := x1.Packets) F_network_Network_Packets hs 1 rfl 0 rfl rfl TI25 (.inr rfl) rfl rfl (fun v15 hs => ?_)
    obtain ⟨a16, c17, rfl⟩ := hs.slice 0 rfl
    refine WL.move (v := .int .i64 x11) rfl ?_
    obtain ⟨x18, hxx18, hf⟩ := bindE hf
    refine WL.indexAddr hs 0 rfl UN25 TI51 rfl rfl hxx18 (fun ad19 hs => ?_)
    refine WL.fieldAddrP (z := x18.Message) F_network_Packet_Message hs 0 rfl rfl FA51_1 rfl (fun ad20 hs => ?_)
    refine WL.loadP hs 0 rfl TI49 (.inl rfl) rfl (fun v21 hs => ?_)
    obtain ⟨cs22, hl23, rfl⟩ := hs.aggv (n := 18) 0 rfl rfl rfl
    refine WL.storeAll (vs := cs22) hs 0 rfl TI49 rfl rfl rfl hl23 (hs.ones 0 rfl rfl) rfl (fun w hs => ?_)
    refine WL.assign (v := .bool true) rfl ?_
    refine WL.nil ?_
    refine hK14 _ _ ?_
    refine W.ret ?_
    have hr := Option.some.inj hf; subst hr
    exact ⟨_, resOk_two rfl (res_all hs 0 rfl TI49 rfl hl23) rfl, cs22, rfl, (hs.mask []).pick [0]⟩
  · refine W.cond_false (bool_tr rfl hc13) ?_
    refine W.skip ?_
    refine hK9 _ _ ?_
    refine W.seqK fun K24 hK24 => ?_
    refine W.region ?_
    refine WL.build (vs := []) (cs := [.int .i64 0, .int .i64 0, .int .i64 0, .int .i64 0, .int .i64 0, .int .i64 0, .int .i64 0, .slice none 0 0, .slice none 0 0, .slice none 0 0, .slice none 0 0, .bool false, .slice none 0 0, .slice none 0 0, .slice none 0 0, .slice none 0 0, .slice none 0 0, .bool false]) trivial (bld PL49 rfl) ?_
    refine WL.storeAll (vs := [.int .i64 0, .int .i64 0, .int .i64 0, .int .i64 0, .int .i64 0, .int .i64 0, .int .i64 0, .slice none 0 0, .slice none 0 0, .slice none 0 0, .slice none 0 0, .bool false, .slice none 0 0, .slice none 0 0, .slice none 0 0, .slice none 0 0, .slice none 0 0, .bool false]) hs 0 rfl TI49 rfl rfl rfl rfl (ones_of rfl) rfl (fun w hs => ?_)
    refine WL.assign (v := .bool false) rfl ?_
    refine WL.nil ?_
    refine hK24 _ _ ?_
    refine W.ret ?_
    have hr := Option.some.inj hf; subst hr
    have hs := hs.add (it := vl t_api_Message (⟨0, 0, 0, (⟨0, 0⟩ : api_AccessID), 0, 0, (⟨[], []⟩ : api_Certificate), (⟨[], []⟩ : api_Certificate), false, (⟨[], []⟩ : api_Certificate), [], [], [], false⟩ : api_Message) (.agg [.int .i64 0, .int .i64 0, .int .i64 0, .int .i64 0, .int .i64 0, .int .i64 0, .int .i64 0, .slice none 0 0, .slice none 0 0, .slice none 0 0, .slice none 0 0, .bool false, .slice none 0 0, .slice none 0 0, .slice none 0 0, .slice none 0 0, .slice none 0 0, .bool false].toArray)) fun ok hA => V_agg (show t_api_Message.R ok _ _ _ from ⟨[.int .i64 0], [.int .i64 0, .int .i64 0, .int .i64 0, .int .i64 0, .int .i64 0, .int .i64 0, .slice none 0 0, .slice none 0 0, .slice none 0 0, .slice none 0 0, .bool false, .slice none 0 0, .slice none 0 0, .slice none 0 0, .slice none 0 0, .slice none 0 0, .bool false], rfl, rfl, ⟨[.int .i64 0], [.int .i64 0, .int .i64 0, .int .i64 0, .int .i64 0, .int .i64 0, .slice none 0 0, .slice none 0 0, .slice none 0 0, .slice none 0 0, .bool false, .slice none 0 0, .slice none 0 0, .slice none 0 0, .slice none 0 0, .slice none 0 0, .bool false], rfl, rfl, ⟨[.int .i64 0], [.int .i64 0, .int .i64 0, .int .i64 0, .int .i64 0, .slice none 0 0, .slice none 0 0, .slice none 0 0, .slice none 0 0, .bool false, .slice none 0 0, .slice none 0 0, .slice none 0 0, .slice none 0 0, .slice none 0 0, .bool false], rfl, rfl, ⟨[.int .i64 0, .int .i64 0], [.int .i64 0, .int .i64 0, .slice none 0 0, .slice none 0 0, .slice none 0 0, .slice none 0 0, .bool false, .slice none 0 0, .slice none 0 0, .slice none 0 0, .slice none 0 0, .slice none 0 0, .bool false], rfl, ⟨[.int .i64 0], [.int .i64 0], rfl, rfl, rfl⟩, ⟨[.int .i64 0], [.int .i64 0, .slice none 0 0, .slice none 0 0, .slice none 0 0, .slice none 0 0, .bool false, .slice none 0 0, .slice none 0 0, .slice none 0 0, .slice none 0 0, .slice none 0 0, .bool false], rfl, rfl, ⟨[.int .i64 0], [.slice none 0 0, .slice none 0 0, .slice none 0 0, .slice none 0 0, .bool false, .slice none 0 0, .slice none 0 0, .slice none 0 0, .slice none 0 0, .slice none 0 0, .bool false], rfl, rfl, ⟨[.slice none 0 0, .slice none 0 0], [.slice none 0 0, .slice none 0 0, .bool false, .slice none 0 0, .slice none 0 0, .slice none 0 0, .slice none 0 0, .slice none 0 0, .bool false], rfl, ⟨[.slice none 0 0], [.slice none 0 0], rfl, R_nil, R_nil⟩, ⟨[.slice none 0 0, .slice none 0 0], [.bool false, .slice none 0 0, .slice none 0 0, .slice none 0 0, .slice none 0 0, .slice none 0 0, .bool false], rfl, ⟨[.slice none 0 0], [.slice none 0 0], rfl, R_nil, R_nil⟩, ⟨[.bool false], [.slice none 0 0, .slice none 0 0, .slice none 0 0, .slice none 0 0, .slice none 0 0, .bool false], rfl, rfl, ⟨[.slice none 0 0, .slice none 0 0], [.slice none 0 0, .slice none 0 0, .slice none 0 0, .bool false], rfl, ⟨[.slice none 0 0], [.slice none 0 0], rfl, R_nil, R_nil⟩, ⟨[.slice none 0 0], [.slice none 0 0, .slice none 0 0, .bool false], rfl, R_nil, ⟨[.slice none 0 0], [.slice none 0 0, .bool false], rfl, R_nil, ⟨[.slice none 0 0], [.bool false], rfl, R_nil, rfl⟩⟩⟩⟩⟩⟩⟩⟩⟩⟩⟩⟩⟩) rfl
    exact ⟨_, resOk_two rfl (res_all hs 0 rfl TI49 rfl rfl) rfl, [.int .i64 0, .int .i64 0, .int .i64 0, .int .i64 0, .int .i64 0, .int .i64 0, .int .i64 0, .slice none 0 0, .slice none 0 0, .slice none 0 0, .slice none 0 0, .bool false, .slice none 0 0, .slice none 0 0, .slice none 0 0, .slice none 0 0, .slice none 0 0, .bool false], rfl, (hs.mask []).pick [0]⟩
end Go.Proofs.Ytahobbichanccaa
