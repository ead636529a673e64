/- What the row leans on, as few texts. -/
import Derived.Test.YtpfgdjfiimknlaaGreatQIB2
import Derived.Test.YtpfgdjfiimknlaaGreatQIB3
import Derived.Test.YtpfgdjfiimknlaaGreatQIB1
import Derived.Test.YtpfgdjfiimknlaaGreatQIB4
import Derived.Test.YtpfgdjfiimknlaaGreatQIB5
import Derived.Test.YtpfgdjfiimknlaaGreatQIB6
set_option linter.unusedVariables false
set_option linter.unusedSimpArgs false
namespace Go.Proofs.YtpfgdjfiimknlaaGreat
open Go Go.RowKit Go.Proofs.YtpfgdjfiimknlaaGreatL
set_option maxRecDepth 100000
set_option maxHeartbeats 4000000
theorem eslaw32_IndexBuild.calls {ok : Nat → Prop} {w0 : World} {x1 : List Int} {x4 : Int} {a2 : Option Addr} {c3 : Nat} {r : Bool} (hf : eslaw32_IndexBuild x1 x4 = some r) (i0 : (vl (tSlice (tInt .i64)) x1 (.slice a2 x1.length c3)).holds ok w0) :
    Calls Tryz.prog 3 #[.slice a2 x1.length c3, .int .i64 x4] w0 fun e w' => ∃ v, e = .returned v ∧ ∃ y : Unit, v = .bool r ∧ St ok (bz w0) w' [] [] := by
  unfold eslaw32_IndexBuild at hf
  refine calls_of_W (fn := Tryz.f3) (N := 95) Tryz.func3 rfl Tryz.ntmps3 rfl ?_
  have hs : St ok (bz w0) w0 [vl (tSlice (tInt .i64)) x1 (.slice a2 x1.length c3)] [] := St.init (All.cons i0 All.nil)
  clear i0
  refine W.seqK fun K5 hK5 => ?_
  refine W.region ?_
  refine WL.assign (v := .bool false) rfl ?_
  refine WL.nil ?_
  refine hK5 _ _ ?_
  refine W.seqK fun K6 hK6 => ?_
  refine W.region ?_
  refine WL.move (v := .slice a2 x1.length c3) rfl ?_
  obtain ⟨x7, hxx7, hf⟩ := bindE hf
  refine WL.call (vs := [.slice a2 x1.length c3]) hs FN10 ⟨rfl, trivial⟩ (fun ok hA => eslaw00_Updates.calls (x1 := x1) hxx7 (hA.get 0 rfl)) ?_
  rintro ⟨a8, n9, c10⟩ w hs
  obtain rfl := hs.ownLen 0 rfl
  have hs := hs.freezeOwn 0 rfl
  obtain ⟨x11, hxx11, hf⟩ := bindE hf
  refine WL.call (vs := [.slice a8 x7.length c10]) hs FN9 ⟨rfl, trivial⟩ (fun ok hA => fold_Fold.calls (x1 := x7) hxx11 (hA.get 0 rfl)) ?_
  rintro cs12 w hs
  have hl13 := hs.agglen (n := 1) 0 rfl rfl rfl
  refine WL.alloc hs ZV25 (fun g14 w hs => ?_)
  refine WL.storeAll (vs := cs12) hs 0 rfl TI25 rfl rfl rfl hl13 (hs.ones 0 rfl rfl) rfl (fun w hs => ?_)
  refine WL.nil ?_
  refine hK6 _ _ ?_
  refine W.seqK fun K15 hK15 => ?_
  refine W.region ?_
  refine WL.move (v := .int .i64 x4) rfl ?_
  obtain ⟨x16, hxx16, hf⟩ := bindE hf
  refine WL.call (vs := [.int .i64 x4]) hs FN11 ⟨rfl, trivial⟩ (fun ok hA => eslaw32_field.calls (x1 := x4) hxx16) ?_
  rintro cs17 w hs
  have hl18 := hs.agglen (n := 4) 0 rfl rfl rfl
  refine WL.alloc hs ZV31 (fun g19 w hs => ?_)
  refine WL.storeAll (vs := cs17) hs 0 rfl TI31 rfl rfl rfl hl18 (hs.ones 0 rfl rfl) rfl (fun w hs => ?_)
  refine WL.nil ?_
  refine hK15 _ _ ?_
  refine W.seqK fun K20 hK20 => ?_
  refine W.region ?_
  refine WL.loadAll hs 0 rfl TI31 rfl hl18 ?_
  refine WL.loadAll hs 1 rfl TI25 rfl hl13 ?_
  obtain ⟨x21, hxx21, hf⟩ := bindE hf
  refine WL.call (vs := [.agg cs17.toArray, .agg cs12.toArray]) hs FN12 ⟨rfl, ⟨rfl, trivial⟩⟩ (fun ok hA => index_Build.calls (x1 := x16) (x5 := x11) hxx21 (hA.get 0 rfl) (hA.get 1 rfl)) ?_
  rintro cs22 w hs
  have hl23 := hs.agglen (n := 5) 0 rfl rfl rfl
  refine WL.alloc hs ZV35 (fun g24 w hs => ?_)
  refine WL.storeAll (vs := cs22) hs 0 rfl TI35 rfl rfl rfl hl23 (hs.ones 0 rfl rfl) rfl (fun w hs => ?_)
  refine WL.nil ?_
  refine hK20 _ _ ?_
  refine W.seqK fun K25 hK25 => ?_
  have Jk27 : ∀  (ρ : Env) (w : World), ρ 5 = .pointer (some ⟨g14, 0, none⟩) → ρ 6 = .pointer (some ⟨g19, 0, none⟩) → ρ 7 = .pointer (some ⟨g24, 0, none⟩) → St ok (bz w0) w [vl t_index_Index x21 (.agg cs22.toArray), vl t_schema_Field x16 (.agg cs17.toArray), vl t_fold_Store x11 (.agg cs12.toArray)] [blk g24 35 cs22, blk g19 31 cs17, blk g14 25 cs12] → eslaw32_IndexBuild.j2 x11 x16 x21 = some r → K25 ρ w := by
    intro  ρ w h26_5 h26_6 h26_7 hs hf
    refine hK25 _ _ ?_
    unfold eslaw32_IndexBuild.j2 at hf
    refine W.seqK fun K28 hK28 => ?_
    have Jk31 : ∀ (x30 : Bool) (ρ : Env) (w : World), ρ 4 = .bool x30 → St ok (bz w0) w [] [] → eslaw32_IndexBuild.j1 x30 = some r → K28 ρ w := by
      intro x30 ρ w h29_4 hs hf
      refine hK28 _ _ ?_
      unfold eslaw32_IndexBuild.j1 at hf
      refine W.ret ?_
      have hr := Option.some.inj hf; subst hr
      exact ⟨_, resOk_one rfl h29_4, (), rfl, (hs.mask []).pick []⟩
    obtain ⟨x35, hxx35, hf⟩ := bindE hf
    obtain ⟨x38, hxx38, hf⟩ := bindE hf
    rcases iteE hf with ⟨hc39, hf⟩ | ⟨hc39, hf⟩
    {
    rcases iteE hf with ⟨hc42, hf⟩ | ⟨hc42, hf⟩
    {
    rcases iteE hf with ⟨hc45, hf⟩ | ⟨hc45, hf⟩
    {
    rcases iteE hf with ⟨hc48, hf⟩ | ⟨hc48, hf⟩
    {
    obtain ⟨x49, hxx49, hf⟩ := bindE hf
    refine W.any (by kernel_rfl) 33 1 [true, true, true, true, true, true, true, true, true, true, true, true, true, true, true, true, true, true, true, true, true, true, true, true, true, true, true, true, true, true, true, true, true, false] rfl rfl (poAt [pv (.pointer (some ⟨g24, 4, none⟩)), pq (fun y : (Option Addr × Nat) => .slice y.1 (x21.Entries).length y.2) (fun v => [vl (tSlice t_index_Entry) x21.Entries v]) (fun v => []), pv (.agg cs17.toArray), pv (.agg cs12.toArray), pq (fun y : (Option Addr × Nat) => .slice y.1 x35.length y.2) (fun v => [vl (tSlice t_elasticstoreref32_Entry) x35 v]) (fun v => []), pv (.bool x38), pv (.bool x38), pv (.pointer (some ⟨g24, 0, none⟩)), pv (.pointer (some ⟨g24, 0, none⟩)), pv (bstr x21.Field.Name), pv (.pointer (some ⟨g19, 0, none⟩)), pv (bstr x16.Name), pv (.bool (x21.Field.Name == x16.Name)), pv (.bool (x21.Field.Name == x16.Name)), pv (.bool (x21.Field.Name == x16.Name)), pv (.pointer (some ⟨g24, 0, none⟩)), pv (.pointer (some ⟨g24, 1, none⟩)), pv (.int .i64 x21.Field.Kind), pv (.pointer (some ⟨g19, 1, none⟩)), pv (.int .i64 x16.Kind), pv (.bool (x21.Field.Kind == x16.Kind)), pv (.bool (x21.Field.Kind == x16.Kind)), pv (.bool (x21.Field.Kind == x16.Kind)), pv (.pointer (some ⟨g24, 0, none⟩)), pv (.pointer (some ⟨g24, 2, none⟩)), pv (.int .i64 x21.Field.f_Type), pv (.pointer (some ⟨g19, 2, none⟩)), pv (.int .i64 x16.f_Type), pv (.bool (x21.Field.f_Type == x16.f_Type)), pv (.bool (x21.Field.f_Type == x16.f_Type)), pv (.bool (x21.Field.f_Type == x16.f_Type)), pv (.bool x49), pv (.bool x49)]) (Λ := [blk g24 35 cs22, blk g19 31 cs17, blk g14 25 cs12]) hs (by kernel_rfl) (by kernel_rfl) (by kernel_rfl) ⟨⟨⟨⟨⟨⟨⟨⟨⟨⟨⟨⟨⟨⟨⟨⟨⟨⟨⟨⟨⟨⟨⟨⟨⟨⟨⟨⟨⟨⟨⟨⟨⟨trivial, ?_⟩, ?_⟩, ?_⟩, ?_⟩, ?_⟩, ?_⟩, ?_⟩, ?_⟩, ?_⟩, ?_⟩, ?_⟩, ?_⟩, ?_⟩, ?_⟩, ?_⟩, ?_⟩, ?_⟩, ?_⟩, ?_⟩, ?_⟩, ?_⟩, ?_⟩, ?_⟩, ?_⟩, ?_⟩, ?_⟩, ?_⟩, ?_⟩, ?_⟩, ?_⟩, ?_⟩, ?_⟩, ?_⟩ ?_
    {
    intro ρ w Γx Λx hs hu hp
    refine WL.fieldAddr (m := 4) ((hu 7 rfl).trans h26_7) FA35_1 rfl ?_
    exact WL.nil ⟨rfl, _, rfl, rfl, hs.cutG 0 0⟩ }
    {
    intro ρ w Γx Λx hs hu hp
    have e50 : ρ 62 = .pointer (some ⟨g24, 4, none⟩) := (hp 0 rfl).1
    refine WL.loadF (z := x21.Entries) F_index_Index_Entries hs (Λx.length + 0) (getApp rfl) (Γx.length + 0) (getApp rfl) rfl TI33 (.inr rfl) e50 rfl (fun v32 hs => ?_)
    obtain ⟨a33, c34, rfl⟩ := hs.slice 0 rfl
    have hs := hs.add (it := vl (tSlice t_index_Entry) x21.Entries (.slice a33 (x21.Entries).length c34)) fun ok hA => hA.get 0 rfl
    exact WL.nil ⟨rfl, _, rfl, ⟨(a33, c34), rfl⟩, hs.cutG 1 1⟩ }
    {
    intro ρ w Γx Λx hs hu hp
    refine WL.loadAll hs (Λx.length + 1) (getApp rfl) TI31 ((hu 6 rfl).trans h26_6) hl18 ?_
    exact WL.nil ⟨rfl, _, rfl, rfl, hs.cutG 0 0⟩ }
    {
    intro ρ w Γx Λx hs hu hp
    refine WL.loadAll hs (Λx.length + 2) (getApp rfl) TI25 ((hu 5 rfl).trans h26_5) hl13 ?_
    exact WL.nil ⟨rfl, _, rfl, rfl, hs.cutG 0 0⟩ }
    {
    intro ρ w Γx Λx hs hu hp
    have e51 : ρ 64 = .agg cs17.toArray := (hp 2 rfl).1
    have e52 : ρ 65 = .agg cs12.toArray := (hp 3 rfl).1
    refine WL.call (vs := [.agg cs17.toArray, .agg cs12.toArray]) hs FN17 ⟨e51, ⟨e52, trivial⟩⟩ (fun ok hA => esref32_Build.callc (x1 := x16) (x5 := x11) hxx35 (hA.get (Γx.length + 1) (getApp rfl)) (hA.get (Γx.length + 2) (getApp rfl))) ?_
    rintro ⟨a36, c37⟩ w hs
    have hs := hs.add (it := vl (tSlice t_elasticstoreref32_Entry) x35 (.slice a36 x35.length c37)) fun ok hA => hA.get 0 rfl
    exact WL.nil ⟨rfl, _, rfl, ⟨(a36, c37), rfl⟩, hs.cutG 1 1⟩ }
    {
    intro ρ w Γx Λx hs hu hp
    obtain ⟨⟨⟨a53, c54⟩, e55r⟩, hm56⟩ := hp 1 rfl
    have e55 : ρ 63 = .slice a53 (x21.Entries).length c54 := e55r
    rw [e55r] at hm56
    have hs := hs.memo1 (it := vl (tSlice t_index_Entry) x21.Entries (.slice a53 (x21.Entries).length c54)) (List.mem_append.2 (.inl (hm56 _ (List.mem_of_getElem? (i := 0) rfl))))
    obtain ⟨⟨⟨a57, c58⟩, e59r⟩, hm60⟩ := hp 4 rfl
    have e59 : ρ 66 = .slice a57 x35.length c58 := e59r
    rw [e59r] at hm60
    have hs := hs.memo1 (it := vl (tSlice t_elasticstoreref32_Entry) x35 (.slice a57 x35.length c58)) (List.mem_cons_of_mem _ (List.mem_append.2 (.inl (hm60 _ (List.mem_of_getElem? (i := 0) rfl)))))
    refine WL.call (vs := [.slice a53 (x21.Entries).length c54, .slice a57 x35.length c58]) hs FN16 ⟨e55, ⟨e59, trivial⟩⟩ (fun ok hA => eslaw32_same.calls (x1 := x21.Entries) (x4 := x35) hxx38 (hA.get 1 rfl) (hA.get 0 rfl)) ?_
    rintro _ w hs
    exact WL.nil ⟨rfl, _, rfl, rfl, hs.cutG 0 2⟩ }
    {
    intro ρ w Γx Λx hs hu hp
    have e61 : ρ 67 = .bool x38 := (hp 5 rfl).1
    refine WL.move (v := .bool x38) e61 ?_
    exact WL.nil ⟨rfl, _, rfl, rfl, hs.cutG 0 0⟩ }
    {
    intro ρ w Γx Λx hs hu hp
    have e62 : ρ 68 = .bool x38 := (hp 6 rfl).1
    refine WL.fieldAddr (m := 0) ((hu 7 rfl).trans h26_7) FA35_0 rfl ?_ (hg := (wanted_of rfl rfl (bool_tr e62 hc39)).trans rfl)
    exact WL.nil ⟨rfl, _, rfl, rfl, hs.cutG 0 0⟩ }
    {
    intro ρ w Γx Λx hs hu hp
    have e63 : ρ 69 = .pointer (some ⟨g24, 0, none⟩) := (hp 7 rfl).1
    have e64 : ρ 68 = .bool x38 := (hp 6 rfl).1
    refine WL.fieldAddr (m := 0) e63 FA31_0 rfl ?_ (hg := (wanted_of rfl rfl (bool_tr e64 hc39)).trans rfl)
    exact WL.nil ⟨rfl, _, rfl, rfl, hs.cutG 0 0⟩ }
    {
    intro ρ w Γx Λx hs hu hp
    have e65 : ρ 70 = .pointer (some ⟨g24, 0, none⟩) := (hp 8 rfl).1
    have e66 : ρ 68 = .bool x38 := (hp 6 rfl).1
    refine WL.loadF (z := x21.Field.Name) (F_index_Index_Field.comp F_schema_Field_Name) hs (Λx.length + 0) (getApp rfl) (Γx.length + 0) (getApp rfl) rfl TI9 (.inr rfl) e65 rfl (fun v40 hs => ?_) (hg := (wanted_of rfl rfl (bool_tr e66 hc39)).trans rfl)
    obtain rfl := hs.str 0 rfl
    exact WL.nil ⟨rfl, _, rfl, rfl, hs.cutG 0 1⟩ }
    {
    intro ρ w Γx Λx hs hu hp
    have e67 : ρ 68 = .bool x38 := (hp 6 rfl).1
    refine WL.fieldAddr (m := 0) ((hu 6 rfl).trans h26_6) FA31_0 rfl ?_ (hg := (wanted_of rfl rfl (bool_tr e67 hc39)).trans rfl)
    exact WL.nil ⟨rfl, _, rfl, rfl, hs.cutG 0 0⟩ }
    {
    intro ρ w Γx Λx hs hu hp
    have e68 : ρ 72 = .pointer (some ⟨g19, 0, none⟩) := (hp 10 rfl).1
    have e69 : ρ 68 = .bool x38 := (hp 6 rfl).1
    refine WL.loadF (z := x16.Name) F_schema_Field_Name hs (Λx.length + 1) (getApp rfl) (Γx.length + 1) (getApp rfl) rfl TI9 (.inr rfl) e68 rfl (fun v41 hs => ?_) (hg := (wanted_of rfl rfl (bool_tr e69 hc39)).trans rfl)
    obtain rfl := hs.str 0 rfl
    exact WL.nil ⟨rfl, _, rfl, rfl, hs.cutG 0 1⟩ }
    {
    intro ρ w Γx Λx hs hu hp
    have e70 : ρ 71 = bstr x21.Field.Name := (hp 9 rfl).1
    have e71 : ρ 73 = bstr x16.Name := (hp 11 rfl).1
    have e72 : ρ 68 = .bool x38 := (hp 6 rfl).1
    refine WL.binS (v := .bool (x21.Field.Name == x16.Name)) e70 e71 (sb_eql _ _) ?_ (hg := (wanted_of rfl rfl (bool_tr e72 hc39)).trans rfl)
    exact WL.nil ⟨rfl, _, rfl, rfl, hs.cutG 0 0⟩ }
    {
    intro ρ w Γx Λx hs hu hp
    have e73 : ρ 68 = .bool x38 := (hp 6 rfl).1
    have e74 : ρ 74 = .bool (x21.Field.Name == x16.Name) := (hp 12 rfl).1
    refine WL.pickT (v := .bool (x21.Field.Name == x16.Name)) (bool_tr e73 hc39) e74 ?_
    exact WL.nil ⟨rfl, _, rfl, rfl, hs.cutG 0 0⟩ }
    {
    intro ρ w Γx Λx hs hu hp
    have e75 : ρ 75 = .bool (x21.Field.Name == x16.Name) := (hp 13 rfl).1
    refine WL.move (v := .bool (x21.Field.Name == x16.Name)) e75 ?_
    exact WL.nil ⟨rfl, _, rfl, rfl, hs.cutG 0 0⟩ }
    {
    intro ρ w Γx Λx hs hu hp
    have e76 : ρ 76 = .bool (x21.Field.Name == x16.Name) := (hp 14 rfl).1
    refine WL.fieldAddr (m := 0) ((hu 7 rfl).trans h26_7) FA35_0 rfl ?_ (hg := (wanted_of rfl rfl (bool_tr e76 hc42)).trans rfl)
    exact WL.nil ⟨rfl, _, rfl, rfl, hs.cutG 0 0⟩ }
    {
    intro ρ w Γx Λx hs hu hp
    have e77 : ρ 77 = .pointer (some ⟨g24, 0, none⟩) := (hp 15 rfl).1
    have e78 : ρ 76 = .bool (x21.Field.Name == x16.Name) := (hp 14 rfl).1
    refine WL.fieldAddr (m := 1) e77 FA31_1 rfl ?_ (hg := (wanted_of rfl rfl (bool_tr e78 hc42)).trans rfl)
    exact WL.nil ⟨rfl, _, rfl, rfl, hs.cutG 0 0⟩ }
    {
    intro ρ w Γx Λx hs hu hp
    have e79 : ρ 78 = .pointer (some ⟨g24, 1, none⟩) := (hp 16 rfl).1
    have e80 : ρ 76 = .bool (x21.Field.Name == x16.Name) := (hp 14 rfl).1
    refine WL.loadF (z := x21.Field.Kind) (F_index_Index_Field.comp F_schema_Field_Kind) hs (Λx.length + 0) (getApp rfl) (Γx.length + 0) (getApp rfl) rfl TI3 (.inr rfl) e79 rfl (fun v43 hs => ?_) (hg := (wanted_of rfl rfl (bool_tr e80 hc42)).trans rfl)
    obtain rfl := hs.int 0 rfl
    exact WL.nil ⟨rfl, _, rfl, rfl, hs.cutG 0 1⟩ }
    {
    intro ρ w Γx Λx hs hu hp
    have e81 : ρ 76 = .bool (x21.Field.Name == x16.Name) := (hp 14 rfl).1
    refine WL.fieldAddr (m := 1) ((hu 6 rfl).trans h26_6) FA31_1 rfl ?_ (hg := (wanted_of rfl rfl (bool_tr e81 hc42)).trans rfl)
    exact WL.nil ⟨rfl, _, rfl, rfl, hs.cutG 0 0⟩ }
    {
    intro ρ w Γx Λx hs hu hp
    have e82 : ρ 80 = .pointer (some ⟨g19, 1, none⟩) := (hp 18 rfl).1
    have e83 : ρ 76 = .bool (x21.Field.Name == x16.Name) := (hp 14 rfl).1
    refine WL.loadF (z := x16.Kind) F_schema_Field_Kind hs (Λx.length + 1) (getApp rfl) (Γx.length + 1) (getApp rfl) rfl TI3 (.inr rfl) e82 rfl (fun v44 hs => ?_) (hg := (wanted_of rfl rfl (bool_tr e83 hc42)).trans rfl)
    obtain rfl := hs.int 0 rfl
    exact WL.nil ⟨rfl, _, rfl, rfl, hs.cutG 0 1⟩ }
    {
    intro ρ w Γx Λx hs hu hp
    have e84 : ρ 79 = .int .i64 x21.Field.Kind := (hp 17 rfl).1
    have e85 : ρ 81 = .int .i64 x16.Kind := (hp 19 rfl).1
    have e86 : ρ 76 = .bool (x21.Field.Name == x16.Name) := (hp 14 rfl).1
    refine WL.bin (v := .bool (x21.Field.Kind == x16.Kind)) e84 e85 (ib_eql _ _ _) ?_ (hg := (wanted_of rfl rfl (bool_tr e86 hc42)).trans rfl)
    exact WL.nil ⟨rfl, _, rfl, rfl, hs.cutG 0 0⟩ }
    {
    intro ρ w Γx Λx hs hu hp
    have e87 : ρ 76 = .bool (x21.Field.Name == x16.Name) := (hp 14 rfl).1
    have e88 : ρ 82 = .bool (x21.Field.Kind == x16.Kind) := (hp 20 rfl).1
    refine WL.pickT (v := .bool (x21.Field.Kind == x16.Kind)) (bool_tr e87 hc42) e88 ?_
    exact WL.nil ⟨rfl, _, rfl, rfl, hs.cutG 0 0⟩ }
    {
    intro ρ w Γx Λx hs hu hp
    have e89 : ρ 83 = .bool (x21.Field.Kind == x16.Kind) := (hp 21 rfl).1
    refine WL.move (v := .bool (x21.Field.Kind == x16.Kind)) e89 ?_
    exact WL.nil ⟨rfl, _, rfl, rfl, hs.cutG 0 0⟩ }
    {
    intro ρ w Γx Λx hs hu hp
    have e90 : ρ 84 = .bool (x21.Field.Kind == x16.Kind) := (hp 22 rfl).1
    refine WL.fieldAddr (m := 0) ((hu 7 rfl).trans h26_7) FA35_0 rfl ?_ (hg := (wanted_of rfl rfl (bool_tr e90 hc45)).trans rfl)
    exact WL.nil ⟨rfl, _, rfl, rfl, hs.cutG 0 0⟩ }
    {
    intro ρ w Γx Λx hs hu hp
    have e91 : ρ 85 = .pointer (some ⟨g24, 0, none⟩) := (hp 23 rfl).1
    have e92 : ρ 84 = .bool (x21.Field.Kind == x16.Kind) := (hp 22 rfl).1
    refine WL.fieldAddr (m := 2) e91 FA31_2 rfl ?_ (hg := (wanted_of rfl rfl (bool_tr e92 hc45)).trans rfl)
    exact WL.nil ⟨rfl, _, rfl, rfl, hs.cutG 0 0⟩ }
    {
    intro ρ w Γx Λx hs hu hp
    have e93 : ρ 86 = .pointer (some ⟨g24, 2, none⟩) := (hp 24 rfl).1
    have e94 : ρ 84 = .bool (x21.Field.Kind == x16.Kind) := (hp 22 rfl).1
    refine WL.loadF (z := x21.Field.f_Type) (F_index_Index_Field.comp F_schema_Field_f_Type) hs (Λx.length + 0) (getApp rfl) (Γx.length + 0) (getApp rfl) rfl TI3 (.inr rfl) e93 rfl (fun v46 hs => ?_) (hg := (wanted_of rfl rfl (bool_tr e94 hc45)).trans rfl)
    obtain rfl := hs.int 0 rfl
    exact WL.nil ⟨rfl, _, rfl, rfl, hs.cutG 0 1⟩ }
    {
    intro ρ w Γx Λx hs hu hp
    have e95 : ρ 84 = .bool (x21.Field.Kind == x16.Kind) := (hp 22 rfl).1
    refine WL.fieldAddr (m := 2) ((hu 6 rfl).trans h26_6) FA31_2 rfl ?_ (hg := (wanted_of rfl rfl (bool_tr e95 hc45)).trans rfl)
    exact WL.nil ⟨rfl, _, rfl, rfl, hs.cutG 0 0⟩ }
    {
    intro ρ w Γx Λx hs hu hp
    have e96 : ρ 88 = .pointer (some ⟨g19, 2, none⟩) := (hp 26 rfl).1
    have e97 : ρ 84 = .bool (x21.Field.Kind == x16.Kind) := (hp 22 rfl).1
    refine WL.loadF (z := x16.f_Type) F_schema_Field_f_Type hs (Λx.length + 1) (getApp rfl) (Γx.length + 1) (getApp rfl) rfl TI3 (.inr rfl) e96 rfl (fun v47 hs => ?_) (hg := (wanted_of rfl rfl (bool_tr e97 hc45)).trans rfl)
    obtain rfl := hs.int 0 rfl
    exact WL.nil ⟨rfl, _, rfl, rfl, hs.cutG 0 1⟩ }
    {
    intro ρ w Γx Λx hs hu hp
    have e98 : ρ 87 = .int .i64 x21.Field.f_Type := (hp 25 rfl).1
    have e99 : ρ 89 = .int .i64 x16.f_Type := (hp 27 rfl).1
    have e100 : ρ 84 = .bool (x21.Field.Kind == x16.Kind) := (hp 22 rfl).1
    refine WL.bin (v := .bool (x21.Field.f_Type == x16.f_Type)) e98 e99 (ib_eql _ _ _) ?_ (hg := (wanted_of rfl rfl (bool_tr e100 hc45)).trans rfl)
    exact WL.nil ⟨rfl, _, rfl, rfl, hs.cutG 0 0⟩ }
    {
    intro ρ w Γx Λx hs hu hp
    have e101 : ρ 84 = .bool (x21.Field.Kind == x16.Kind) := (hp 22 rfl).1
    have e102 : ρ 90 = .bool (x21.Field.f_Type == x16.f_Type) := (hp 28 rfl).1
    refine WL.pickT (v := .bool (x21.Field.f_Type == x16.f_Type)) (bool_tr e101 hc45) e102 ?_
    exact WL.nil ⟨rfl, _, rfl, rfl, hs.cutG 0 0⟩ }
    {
    intro ρ w Γx Λx hs hu hp
    have e103 : ρ 91 = .bool (x21.Field.f_Type == x16.f_Type) := (hp 29 rfl).1
    refine WL.move (v := .bool (x21.Field.f_Type == x16.f_Type)) e103 ?_
    exact WL.nil ⟨rfl, _, rfl, rfl, hs.cutG 0 0⟩ }
    {
    intro ρ w Γx Λx hs hu hp
    have e104 : ρ 92 = .bool (x21.Field.f_Type == x16.f_Type) := (hp 30 rfl).1
    refine WL.call (vs := []) hs FN18 trivial (fun ok hA => eslaw32_awake.calls hxx49) ?_ (hg := (wanted_of rfl rfl (bool_tr e104 hc48)).trans rfl)
    rintro _ w hs
    exact WL.nil ⟨rfl, _, rfl, rfl, hs.cutG 0 0⟩ }
    {
    intro ρ w Γx Λx hs hu hp
    have e105 : ρ 92 = .bool (x21.Field.f_Type == x16.f_Type) := (hp 30 rfl).1
    have e106 : ρ 93 = .bool x49 := (hp 31 rfl).1
    refine WL.pickT (v := .bool x49) (bool_tr e105 hc48) e106 ?_
    exact WL.nil ⟨rfl, _, rfl, rfl, hs.cutG 0 0⟩ }
    {
    intro ρ w hs hu107 hp
    obtain ⟨⟨⟨⟨⟨⟨⟨⟨⟨⟨⟨⟨⟨⟨⟨⟨⟨⟨⟨⟨⟨⟨⟨⟨⟨⟨⟨⟨⟨⟨⟨⟨⟨_, hp0_⟩, hp1_⟩, hp2_⟩, hp3_⟩, hp4_⟩, hp5_⟩, hp6_⟩, hp7_⟩, hp8_⟩, hp9_⟩, hp10_⟩, hp11_⟩, hp12_⟩, hp13_⟩, hp14_⟩, hp15_⟩, hp16_⟩, hp17_⟩, hp18_⟩, hp19_⟩, hp20_⟩, hp21_⟩, hp22_⟩, hp23_⟩, hp24_⟩, hp25_⟩, hp26_⟩, hp27_⟩, hp28_⟩, hp29_⟩, hp30_⟩, hp31_⟩, hp32_⟩ := hp
    have hs : St ok (bz w0) w [vl (tSlice t_elasticstoreref32_Entry) x35 (ρ 66), vl (tSlice t_index_Entry) x21.Entries (ρ 63), vl t_index_Index x21 (.agg cs22.toArray), vl t_schema_Field x16 (.agg cs17.toArray), vl t_fold_Store x11 (.agg cs12.toArray)] [blk g24 35 cs22, blk g19 31 cs17, blk g14 25 cs12] := hs
    have e108 : ρ 94 = .bool x49 := hp32_
    have e109 : ρ 93 = .bool x49 := hp31_
    have e110 : ρ 92 = .bool (x21.Field.f_Type == x16.f_Type) := hp30_
    have e111 : ρ 91 = .bool (x21.Field.f_Type == x16.f_Type) := hp29_
    have e112 : ρ 90 = .bool (x21.Field.f_Type == x16.f_Type) := hp28_
    have e113 : ρ 89 = .int .i64 x16.f_Type := hp27_
    have e114 : ρ 88 = .pointer (some ⟨g19, 2, none⟩) := hp26_
    have e115 : ρ 87 = .int .i64 x21.Field.f_Type := hp25_
    have e116 : ρ 86 = .pointer (some ⟨g24, 2, none⟩) := hp24_
    have e117 : ρ 85 = .pointer (some ⟨g24, 0, none⟩) := hp23_
    have e118 : ρ 84 = .bool (x21.Field.Kind == x16.Kind) := hp22_
    have e119 : ρ 83 = .bool (x21.Field.Kind == x16.Kind) := hp21_
    have e120 : ρ 82 = .bool (x21.Field.Kind == x16.Kind) := hp20_
    have e121 : ρ 81 = .int .i64 x16.Kind := hp19_
    have e122 : ρ 80 = .pointer (some ⟨g19, 1, none⟩) := hp18_
    have e123 : ρ 79 = .int .i64 x21.Field.Kind := hp17_
    have e124 : ρ 78 = .pointer (some ⟨g24, 1, none⟩) := hp16_
    have e125 : ρ 77 = .pointer (some ⟨g24, 0, none⟩) := hp15_
    have e126 : ρ 76 = .bool (x21.Field.Name == x16.Name) := hp14_
    have e127 : ρ 75 = .bool (x21.Field.Name == x16.Name) := hp13_
    have e128 : ρ 74 = .bool (x21.Field.Name == x16.Name) := hp12_
    have e129 : ρ 73 = bstr x16.Name := hp11_
    have e130 : ρ 72 = .pointer (some ⟨g19, 0, none⟩) := hp10_
    have e131 : ρ 71 = bstr x21.Field.Name := hp9_
    have e132 : ρ 70 = .pointer (some ⟨g24, 0, none⟩) := hp8_
    have e133 : ρ 69 = .pointer (some ⟨g24, 0, none⟩) := hp7_
    have e134 : ρ 68 = .bool x38 := hp6_
    have e135 : ρ 67 = .bool x38 := hp5_
    obtain ⟨⟨a136, c137⟩, e138⟩ := hp4_
    have e138 : ρ 66 = .slice a136 x35.length c137 := e138
    try rw [e138] at hs
    have e139 : ρ 65 = .agg cs12.toArray := hp3_
    have e140 : ρ 64 = .agg cs17.toArray := hp2_
    obtain ⟨⟨a141, c142⟩, e143⟩ := hp1_
    have e143 : ρ 63 = .slice a141 (x21.Entries).length c142 := e143
    try rw [e143] at hs
    have e144 : ρ 62 = .pointer (some ⟨g24, 4, none⟩) := hp0_
    refine WA.step [33] (by kernel_rfl) (by simp) ⟨?_, trivial⟩
    refine WL.assign (v := .bool x49) e108 ?_
    refine WL.nil ⟨rfl, _, rfl, ?_⟩
    refine WA.done (by kernel_rfl) ?_
    exact Jk31 x49 _ _ rfl ((hs.mask []).pick []) hf } }
    {
    refine W.any (by kernel_rfl) 33 1 [true, true, true, true, true, true, true, true, true, true, true, true, true, true, true, true, true, true, true, true, true, true, true, true, true, true, true, true, true, true, true, true, true, false] rfl rfl (poAt [pv (.pointer (some ⟨g24, 4, none⟩)), pq (fun y : (Option Addr × Nat) => .slice y.1 (x21.Entries).length y.2) (fun v => [vl (tSlice t_index_Entry) x21.Entries v]) (fun v => []), pv (.agg cs17.toArray), pv (.agg cs12.toArray), pq (fun y : (Option Addr × Nat) => .slice y.1 x35.length y.2) (fun v => [vl (tSlice t_elasticstoreref32_Entry) x35 v]) (fun v => []), pv (.bool x38), pv (.bool x38), pv (.pointer (some ⟨g24, 0, none⟩)), pv (.pointer (some ⟨g24, 0, none⟩)), pv (bstr x21.Field.Name), pv (.pointer (some ⟨g19, 0, none⟩)), pv (bstr x16.Name), pv (.bool (x21.Field.Name == x16.Name)), pv (.bool (x21.Field.Name == x16.Name)), pv (.bool (x21.Field.Name == x16.Name)), pv (.pointer (some ⟨g24, 0, none⟩)), pv (.pointer (some ⟨g24, 1, none⟩)), pv (.int .i64 x21.Field.Kind), pv (.pointer (some ⟨g19, 1, none⟩)), pv (.int .i64 x16.Kind), pv (.bool (x21.Field.Kind == x16.Kind)), pv (.bool (x21.Field.Kind == x16.Kind)), pv (.bool (x21.Field.Kind == x16.Kind)), pv (.pointer (some ⟨g24, 0, none⟩)), pv (.pointer (some ⟨g24, 2, none⟩)), pv (.int .i64 x21.Field.f_Type), pv (.pointer (some ⟨g19, 2, none⟩)), pv (.int .i64 x16.f_Type), pv (.bool (x21.Field.f_Type == x16.f_Type)), pv (.bool (x21.Field.f_Type == x16.f_Type)), pv (.bool (x21.Field.f_Type == x16.f_Type)), pv (undef), pv (.bool false)]) (Λ := [blk g24 35 cs22, blk g19 31 cs17, blk g14 25 cs12]) hs (by kernel_rfl) (by kernel_rfl) (by kernel_rfl) ⟨⟨⟨⟨⟨⟨⟨⟨⟨⟨⟨⟨⟨⟨⟨⟨⟨⟨⟨⟨⟨⟨⟨⟨⟨⟨⟨⟨⟨⟨⟨⟨⟨trivial, ?_⟩, ?_⟩, ?_⟩, ?_⟩, ?_⟩, ?_⟩, ?_⟩, ?_⟩, ?_⟩, ?_⟩, ?_⟩, ?_⟩, ?_⟩, ?_⟩, ?_⟩, ?_⟩, ?_⟩, ?_⟩, ?_⟩, ?_⟩, ?_⟩, ?_⟩, ?_⟩, ?_⟩, ?_⟩, ?_⟩, ?_⟩, ?_⟩, ?_⟩, ?_⟩, ?_⟩, ?_⟩, ?_⟩ ?_
    {
    intro ρ w Γx Λx hs hu hp
    refine WL.fieldAddr (m := 4) ((hu 7 rfl).trans h26_7) FA35_1 rfl ?_
    exact WL.nil ⟨rfl, _, rfl, rfl, hs.cutG 0 0⟩ }
    {
    intro ρ w Γx Λx hs hu hp
    have e145 : ρ 62 = .pointer (some ⟨g24, 4, none⟩) := (hp 0 rfl).1
    refine WL.loadF (z := x21.Entries) F_index_Index_Entries hs (Λx.length + 0) (getApp rfl) (Γx.length + 0) (getApp rfl) rfl TI33 (.inr rfl) e145 rfl (fun v32 hs => ?_)
    obtain ⟨a33, c34, rfl⟩ := hs.slice 0 rfl
    have hs := hs.add (it := vl (tSlice t_index_Entry) x21.Entries (.slice a33 (x21.Entries).length c34)) fun ok hA => hA.get 0 rfl
    exact WL.nil ⟨rfl, _, rfl, ⟨(a33, c34), rfl⟩, hs.cutG 1 1⟩ }
    {
    intro ρ w Γx Λx hs hu hp
    refine WL.loadAll hs (Λx.length + 1) (getApp rfl) TI31 ((hu 6 rfl).trans h26_6) hl18 ?_
    exact WL.nil ⟨rfl, _, rfl, rfl, hs.cutG 0 0⟩ }
    {
    intro ρ w Γx Λx hs hu hp
    refine WL.loadAll hs (Λx.length + 2) (getApp rfl) TI25 ((hu 5 rfl).trans h26_5) hl13 ?_
    exact WL.nil ⟨rfl, _, rfl, rfl, hs.cutG 0 0⟩ }
    {
    intro ρ w Γx Λx hs hu hp
    have e146 : ρ 64 = .agg cs17.toArray := (hp 2 rfl).1
    have e147 : ρ 65 = .agg cs12.toArray := (hp 3 rfl).1
    refine WL.call (vs := [.agg cs17.toArray, .agg cs12.toArray]) hs FN17 ⟨e146, ⟨e147, trivial⟩⟩ (fun ok hA => esref32_Build.callc (x1 := x16) (x5 := x11) hxx35 (hA.get (Γx.length + 1) (getApp rfl)) (hA.get (Γx.length + 2) (getApp rfl))) ?_
    rintro ⟨a36, c37⟩ w hs
    have hs := hs.add (it := vl (tSlice t_elasticstoreref32_Entry) x35 (.slice a36 x35.length c37)) fun ok hA => hA.get 0 rfl
    exact WL.nil ⟨rfl, _, rfl, ⟨(a36, c37), rfl⟩, hs.cutG 1 1⟩ }
    {
    intro ρ w Γx Λx hs hu hp
    obtain ⟨⟨⟨a148, c149⟩, e150r⟩, hm151⟩ := hp 1 rfl
    have e150 : ρ 63 = .slice a148 (x21.Entries).length c149 := e150r
    rw [e150r] at hm151
    have hs := hs.memo1 (it := vl (tSlice t_index_Entry) x21.Entries (.slice a148 (x21.Entries).length c149)) (List.mem_append.2 (.inl (hm151 _ (List.mem_of_getElem? (i := 0) rfl))))
    obtain ⟨⟨⟨a152, c153⟩, e154r⟩, hm155⟩ := hp 4 rfl
    have e154 : ρ 66 = .slice a152 x35.length c153 := e154r
    rw [e154r] at hm155
    have hs := hs.memo1 (it := vl (tSlice t_elasticstoreref32_Entry) x35 (.slice a152 x35.length c153)) (List.mem_cons_of_mem _ (List.mem_append.2 (.inl (hm155 _ (List.mem_of_getElem? (i := 0) rfl)))))
    refine WL.call (vs := [.slice a148 (x21.Entries).length c149, .slice a152 x35.length c153]) hs FN16 ⟨e150, ⟨e154, trivial⟩⟩ (fun ok hA => eslaw32_same.calls (x1 := x21.Entries) (x4 := x35) hxx38 (hA.get 1 rfl) (hA.get 0 rfl)) ?_
    rintro _ w hs
    exact WL.nil ⟨rfl, _, rfl, rfl, hs.cutG 0 2⟩ }
    {
    intro ρ w Γx Λx hs hu hp
    have e156 : ρ 67 = .bool x38 := (hp 5 rfl).1
    refine WL.move (v := .bool x38) e156 ?_
    exact WL.nil ⟨rfl, _, rfl, rfl, hs.cutG 0 0⟩ }
    {
    intro ρ w Γx Λx hs hu hp
    have e157 : ρ 68 = .bool x38 := (hp 6 rfl).1
    refine WL.fieldAddr (m := 0) ((hu 7 rfl).trans h26_7) FA35_0 rfl ?_ (hg := (wanted_of rfl rfl (bool_tr e157 hc39)).trans rfl)
    exact WL.nil ⟨rfl, _, rfl, rfl, hs.cutG 0 0⟩ }
    {
    intro ρ w Γx Λx hs hu hp
    have e158 : ρ 69 = .pointer (some ⟨g24, 0, none⟩) := (hp 7 rfl).1
    have e159 : ρ 68 = .bool x38 := (hp 6 rfl).1
    refine WL.fieldAddr (m := 0) e158 FA31_0 rfl ?_ (hg := (wanted_of rfl rfl (bool_tr e159 hc39)).trans rfl)
    exact WL.nil ⟨rfl, _, rfl, rfl, hs.cutG 0 0⟩ }
    {
    intro ρ w Γx Λx hs hu hp
    have e160 : ρ 70 = .pointer (some ⟨g24, 0, none⟩) := (hp 8 rfl).1
    have e161 : ρ 68 = .bool x38 := (hp 6 rfl).1
    refine WL.loadF (z := x21.Field.Name) (F_index_Index_Field.comp F_schema_Field_Name) hs (Λx.length + 0) (getApp rfl) (Γx.length + 0) (getApp rfl) rfl TI9 (.inr rfl) e160 rfl (fun v40 hs => ?_) (hg := (wanted_of rfl rfl (bool_tr e161 hc39)).trans rfl)
    obtain rfl := hs.str 0 rfl
    exact WL.nil ⟨rfl, _, rfl, rfl, hs.cutG 0 1⟩ }
    {
    intro ρ w Γx Λx hs hu hp
    have e162 : ρ 68 = .bool x38 := (hp 6 rfl).1
    refine WL.fieldAddr (m := 0) ((hu 6 rfl).trans h26_6) FA31_0 rfl ?_ (hg := (wanted_of rfl rfl (bool_tr e162 hc39)).trans rfl)
    exact WL.nil ⟨rfl, _, rfl, rfl, hs.cutG 0 0⟩ }
    {
    intro ρ w Γx Λx hs hu hp
    have e163 : ρ 72 = .pointer (some ⟨g19, 0, none⟩) := (hp 10 rfl).1
    have e164 : ρ 68 = .bool x38 := (hp 6 rfl).1
    refine WL.loadF (z := x16.Name) F_schema_Field_Name hs (Λx.length + 1) (getApp rfl) (Γx.length + 1) (getApp rfl) rfl TI9 (.inr rfl) e163 rfl (fun v41 hs => ?_) (hg := (wanted_of rfl rfl (bool_tr e164 hc39)).trans rfl)
    obtain rfl := hs.str 0 rfl
    exact WL.nil ⟨rfl, _, rfl, rfl, hs.cutG 0 1⟩ }
    {
    intro ρ w Γx Λx hs hu hp
    have e165 : ρ 71 = bstr x21.Field.Name := (hp 9 rfl).1
    have e166 : ρ 73 = bstr x16.Name := (hp 11 rfl).1
    have e167 : ρ 68 = .bool x38 := (hp 6 rfl).1
    refine WL.binS (v := .bool (x21.Field.Name == x16.Name)) e165 e166 (sb_eql _ _) ?_ (hg := (wanted_of rfl rfl (bool_tr e167 hc39)).trans rfl)
    exact WL.nil ⟨rfl, _, rfl, rfl, hs.cutG 0 0⟩ }
    {
    intro ρ w Γx Λx hs hu hp
    have e168 : ρ 68 = .bool x38 := (hp 6 rfl).1
    have e169 : ρ 74 = .bool (x21.Field.Name == x16.Name) := (hp 12 rfl).1
    refine WL.pickT (v := .bool (x21.Field.Name == x16.Name)) (bool_tr e168 hc39) e169 ?_
    exact WL.nil ⟨rfl, _, rfl, rfl, hs.cutG 0 0⟩ }
    {
    intro ρ w Γx Λx hs hu hp
    have e170 : ρ 75 = .bool (x21.Field.Name == x16.Name) := (hp 13 rfl).1
    refine WL.move (v := .bool (x21.Field.Name == x16.Name)) e170 ?_
    exact WL.nil ⟨rfl, _, rfl, rfl, hs.cutG 0 0⟩ }
    {
    intro ρ w Γx Λx hs hu hp
    have e171 : ρ 76 = .bool (x21.Field.Name == x16.Name) := (hp 14 rfl).1
    refine WL.fieldAddr (m := 0) ((hu 7 rfl).trans h26_7) FA35_0 rfl ?_ (hg := (wanted_of rfl rfl (bool_tr e171 hc42)).trans rfl)
    exact WL.nil ⟨rfl, _, rfl, rfl, hs.cutG 0 0⟩ }
    {
    intro ρ w Γx Λx hs hu hp
    have e172 : ρ 77 = .pointer (some ⟨g24, 0, none⟩) := (hp 15 rfl).1
    have e173 : ρ 76 = .bool (x21.Field.Name == x16.Name) := (hp 14 rfl).1
    refine WL.fieldAddr (m := 1) e172 FA31_1 rfl ?_ (hg := (wanted_of rfl rfl (bool_tr e173 hc42)).trans rfl)
    exact WL.nil ⟨rfl, _, rfl, rfl, hs.cutG 0 0⟩ }
    {
    intro ρ w Γx Λx hs hu hp
    have e174 : ρ 78 = .pointer (some ⟨g24, 1, none⟩) := (hp 16 rfl).1
    have e175 : ρ 76 = .bool (x21.Field.Name == x16.Name) := (hp 14 rfl).1
    refine WL.loadF (z := x21.Field.Kind) (F_index_Index_Field.comp F_schema_Field_Kind) hs (Λx.length + 0) (getApp rfl) (Γx.length + 0) (getApp rfl) rfl TI3 (.inr rfl) e174 rfl (fun v43 hs => ?_) (hg := (wanted_of rfl rfl (bool_tr e175 hc42)).trans rfl)
    obtain rfl := hs.int 0 rfl
    exact WL.nil ⟨rfl, _, rfl, rfl, hs.cutG 0 1⟩ }
    {
    intro ρ w Γx Λx hs hu hp
    have e176 : ρ 76 = .bool (x21.Field.Name == x16.Name) := (hp 14 rfl).1
    refine WL.fieldAddr (m := 1) ((hu 6 rfl).trans h26_6) FA31_1 rfl ?_ (hg := (wanted_of rfl rfl (bool_tr e176 hc42)).trans rfl)
    exact WL.nil ⟨rfl, _, rfl, rfl, hs.cutG 0 0⟩ }
    {
    intro ρ w Γx Λx hs hu hp
    have e177 : ρ 80 = .pointer (some ⟨g19, 1, none⟩) := (hp 18 rfl).1
    have e178 : ρ 76 = .bool (x21.Field.Name == x16.Name) := (hp 14 rfl).1
    refine WL.loadF (z := x16.Kind) F_schema_Field_Kind hs (Λx.length + 1) (getApp rfl) (Γx.length + 1) (getApp rfl) rfl TI3 (.inr rfl) e177 rfl (fun v44 hs => ?_) (hg := (wanted_of rfl rfl (bool_tr e178 hc42)).trans rfl)
    obtain rfl := hs.int 0 rfl
    exact WL.nil ⟨rfl, _, rfl, rfl, hs.cutG 0 1⟩ }
    {
    intro ρ w Γx Λx hs hu hp
    have e179 : ρ 79 = .int .i64 x21.Field.Kind := (hp 17 rfl).1
    have e180 : ρ 81 = .int .i64 x16.Kind := (hp 19 rfl).1
    have e181 : ρ 76 = .bool (x21.Field.Name == x16.Name) := (hp 14 rfl).1
    refine WL.bin (v := .bool (x21.Field.Kind == x16.Kind)) e179 e180 (ib_eql _ _ _) ?_ (hg := (wanted_of rfl rfl (bool_tr e181 hc42)).trans rfl)
    exact WL.nil ⟨rfl, _, rfl, rfl, hs.cutG 0 0⟩ }
    {
    intro ρ w Γx Λx hs hu hp
    have e182 : ρ 76 = .bool (x21.Field.Name == x16.Name) := (hp 14 rfl).1
    have e183 : ρ 82 = .bool (x21.Field.Kind == x16.Kind) := (hp 20 rfl).1
    refine WL.pickT (v := .bool (x21.Field.Kind == x16.Kind)) (bool_tr e182 hc42) e183 ?_
    exact WL.nil ⟨rfl, _, rfl, rfl, hs.cutG 0 0⟩ }
    {
    intro ρ w Γx Λx hs hu hp
    have e184 : ρ 83 = .bool (x21.Field.Kind == x16.Kind) := (hp 21 rfl).1
    refine WL.move (v := .bool (x21.Field.Kind == x16.Kind)) e184 ?_
    exact WL.nil ⟨rfl, _, rfl, rfl, hs.cutG 0 0⟩ }
    {
    intro ρ w Γx Λx hs hu hp
    have e185 : ρ 84 = .bool (x21.Field.Kind == x16.Kind) := (hp 22 rfl).1
    refine WL.fieldAddr (m := 0) ((hu 7 rfl).trans h26_7) FA35_0 rfl ?_ (hg := (wanted_of rfl rfl (bool_tr e185 hc45)).trans rfl)
    exact WL.nil ⟨rfl, _, rfl, rfl, hs.cutG 0 0⟩ }
    {
    intro ρ w Γx Λx hs hu hp
    have e186 : ρ 85 = .pointer (some ⟨g24, 0, none⟩) := (hp 23 rfl).1
    have e187 : ρ 84 = .bool (x21.Field.Kind == x16.Kind) := (hp 22 rfl).1
    refine WL.fieldAddr (m := 2) e186 FA31_2 rfl ?_ (hg := (wanted_of rfl rfl (bool_tr e187 hc45)).trans rfl)
    exact WL.nil ⟨rfl, _, rfl, rfl, hs.cutG 0 0⟩ }
    {
    intro ρ w Γx Λx hs hu hp
    have e188 : ρ 86 = .pointer (some ⟨g24, 2, none⟩) := (hp 24 rfl).1
    have e189 : ρ 84 = .bool (x21.Field.Kind == x16.Kind) := (hp 22 rfl).1
    refine WL.loadF (z := x21.Field.f_Type) (F_index_Index_Field.comp F_schema_Field_f_Type) hs (Λx.length + 0) (getApp rfl) (Γx.length + 0) (getApp rfl) rfl TI3 (.inr rfl) e188 rfl (fun v46 hs => ?_) (hg := (wanted_of rfl rfl (bool_tr e189 hc45)).trans rfl)
    obtain rfl := hs.int 0 rfl
    exact WL.nil ⟨rfl, _, rfl, rfl, hs.cutG 0 1⟩ }
    {
    intro ρ w Γx Λx hs hu hp
    have e190 : ρ 84 = .bool (x21.Field.Kind == x16.Kind) := (hp 22 rfl).1
    refine WL.fieldAddr (m := 2) ((hu 6 rfl).trans h26_6) FA31_2 rfl ?_ (hg := (wanted_of rfl rfl (bool_tr e190 hc45)).trans rfl)
    exact WL.nil ⟨rfl, _, rfl, rfl, hs.cutG 0 0⟩ }
    {
    intro ρ w Γx Λx hs hu hp
    have e191 : ρ 88 = .pointer (some ⟨g19, 2, none⟩) := (hp 26 rfl).1
    have e192 : ρ 84 = .bool (x21.Field.Kind == x16.Kind) := (hp 22 rfl).1
    refine WL.loadF (z := x16.f_Type) F_schema_Field_f_Type hs (Λx.length + 1) (getApp rfl) (Γx.length + 1) (getApp rfl) rfl TI3 (.inr rfl) e191 rfl (fun v47 hs => ?_) (hg := (wanted_of rfl rfl (bool_tr e192 hc45)).trans rfl)
    obtain rfl := hs.int 0 rfl
    exact WL.nil ⟨rfl, _, rfl, rfl, hs.cutG 0 1⟩ }
    {
    intro ρ w Γx Λx hs hu hp
    have e193 : ρ 87 = .int .i64 x21.Field.f_Type := (hp 25 rfl).1
    have e194 : ρ 89 = .int .i64 x16.f_Type := (hp 27 rfl).1
    have e195 : ρ 84 = .bool (x21.Field.Kind == x16.Kind) := (hp 22 rfl).1
    refine WL.bin (v := .bool (x21.Field.f_Type == x16.f_Type)) e193 e194 (ib_eql _ _ _) ?_ (hg := (wanted_of rfl rfl (bool_tr e195 hc45)).trans rfl)
    exact WL.nil ⟨rfl, _, rfl, rfl, hs.cutG 0 0⟩ }
    {
    intro ρ w Γx Λx hs hu hp
    have e196 : ρ 84 = .bool (x21.Field.Kind == x16.Kind) := (hp 22 rfl).1
    have e197 : ρ 90 = .bool (x21.Field.f_Type == x16.f_Type) := (hp 28 rfl).1
    refine WL.pickT (v := .bool (x21.Field.f_Type == x16.f_Type)) (bool_tr e196 hc45) e197 ?_
    exact WL.nil ⟨rfl, _, rfl, rfl, hs.cutG 0 0⟩ }
    {
    intro ρ w Γx Λx hs hu hp
    have e198 : ρ 91 = .bool (x21.Field.f_Type == x16.f_Type) := (hp 29 rfl).1
    refine WL.move (v := .bool (x21.Field.f_Type == x16.f_Type)) e198 ?_
    exact WL.nil ⟨rfl, _, rfl, rfl, hs.cutG 0 0⟩ }
    {
    intro ρ w Γx Λx hs hu hp
    have e199 : ρ 92 = .bool (x21.Field.f_Type == x16.f_Type) := (hp 30 rfl).1
    refine WL.pass ((wanted_of rfl rfl (bool_tr e199 hc48)).trans rfl) rfl ?_
    exact WL.nil ⟨rfl, _, rfl, rfl, hs.cutG 0 0⟩ }
    {
    intro ρ w Γx Λx hs hu hp
    have e200 : ρ 92 = .bool (x21.Field.f_Type == x16.f_Type) := (hp 30 rfl).1
    have e201 : ρ 93 = undef := (hp 31 rfl).1
    refine WL.pickF (v := .bool false) (bool_tr e200 hc48) rfl ?_
    exact WL.nil ⟨rfl, _, rfl, rfl, hs.cutG 0 0⟩ }
    {
    intro ρ w hs hu202 hp
    obtain ⟨⟨⟨⟨⟨⟨⟨⟨⟨⟨⟨⟨⟨⟨⟨⟨⟨⟨⟨⟨⟨⟨⟨⟨⟨⟨⟨⟨⟨⟨⟨⟨⟨_, hp0_⟩, hp1_⟩, hp2_⟩, hp3_⟩, hp4_⟩, hp5_⟩, hp6_⟩, hp7_⟩, hp8_⟩, hp9_⟩, hp10_⟩, hp11_⟩, hp12_⟩, hp13_⟩, hp14_⟩, hp15_⟩, hp16_⟩, hp17_⟩, hp18_⟩, hp19_⟩, hp20_⟩, hp21_⟩, hp22_⟩, hp23_⟩, hp24_⟩, hp25_⟩, hp26_⟩, hp27_⟩, hp28_⟩, hp29_⟩, hp30_⟩, hp31_⟩, hp32_⟩ := hp
    have hs : St ok (bz w0) w [vl (tSlice t_elasticstoreref32_Entry) x35 (ρ 66), vl (tSlice t_index_Entry) x21.Entries (ρ 63), vl t_index_Index x21 (.agg cs22.toArray), vl t_schema_Field x16 (.agg cs17.toArray), vl t_fold_Store x11 (.agg cs12.toArray)] [blk g24 35 cs22, blk g19 31 cs17, blk g14 25 cs12] := hs
    have e203 : ρ 94 = .bool false := hp32_
    have e204 : ρ 93 = undef := hp31_
    have e205 : ρ 92 = .bool (x21.Field.f_Type == x16.f_Type) := hp30_
    have e206 : ρ 91 = .bool (x21.Field.f_Type == x16.f_Type) := hp29_
    have e207 : ρ 90 = .bool (x21.Field.f_Type == x16.f_Type) := hp28_
    have e208 : ρ 89 = .int .i64 x16.f_Type := hp27_
    have e209 : ρ 88 = .pointer (some ⟨g19, 2, none⟩) := hp26_
    have e210 : ρ 87 = .int .i64 x21.Field.f_Type := hp25_
    have e211 : ρ 86 = .pointer (some ⟨g24, 2, none⟩) := hp24_
    have e212 : ρ 85 = .pointer (some ⟨g24, 0, none⟩) := hp23_
    have e213 : ρ 84 = .bool (x21.Field.Kind == x16.Kind) := hp22_
    have e214 : ρ 83 = .bool (x21.Field.Kind == x16.Kind) := hp21_
    have e215 : ρ 82 = .bool (x21.Field.Kind == x16.Kind) := hp20_
    have e216 : ρ 81 = .int .i64 x16.Kind := hp19_
    have e217 : ρ 80 = .pointer (some ⟨g19, 1, none⟩) := hp18_
    have e218 : ρ 79 = .int .i64 x21.Field.Kind := hp17_
    have e219 : ρ 78 = .pointer (some ⟨g24, 1, none⟩) := hp16_
    have e220 : ρ 77 = .pointer (some ⟨g24, 0, none⟩) := hp15_
    have e221 : ρ 76 = .bool (x21.Field.Name == x16.Name) := hp14_
    have e222 : ρ 75 = .bool (x21.Field.Name == x16.Name) := hp13_
    have e223 : ρ 74 = .bool (x21.Field.Name == x16.Name) := hp12_
    have e224 : ρ 73 = bstr x16.Name := hp11_
    have e225 : ρ 72 = .pointer (some ⟨g19, 0, none⟩) := hp10_
    have e226 : ρ 71 = bstr x21.Field.Name := hp9_
    have e227 : ρ 70 = .pointer (some ⟨g24, 0, none⟩) := hp8_
    have e228 : ρ 69 = .pointer (some ⟨g24, 0, none⟩) := hp7_
    have e229 : ρ 68 = .bool x38 := hp6_
    have e230 : ρ 67 = .bool x38 := hp5_
    obtain ⟨⟨a231, c232⟩, e233⟩ := hp4_
    have e233 : ρ 66 = .slice a231 x35.length c232 := e233
    try rw [e233] at hs
    have e234 : ρ 65 = .agg cs12.toArray := hp3_
    have e235 : ρ 64 = .agg cs17.toArray := hp2_
    obtain ⟨⟨a236, c237⟩, e238⟩ := hp1_
    have e238 : ρ 63 = .slice a236 (x21.Entries).length c237 := e238
    try rw [e238] at hs
    have e239 : ρ 62 = .pointer (some ⟨g24, 4, none⟩) := hp0_
    refine WA.step [33] (by kernel_rfl) (by simp) ⟨?_, trivial⟩
    refine WL.assign (v := .bool false) e203 ?_
    refine WL.nil ⟨rfl, _, rfl, ?_⟩
    refine WA.done (by kernel_rfl) ?_
    exact Jk31 false _ _ rfl ((hs.mask []).pick []) hf } } }
    {
    refine W.any (by kernel_rfl) 33 1 [true, true, true, true, true, true, true, true, true, true, true, true, true, true, true, true, true, true, true, true, true, true, true, true, true, true, true, true, true, true, true, true, true, false] rfl rfl (poAt [pv (.pointer (some ⟨g24, 4, none⟩)), pq (fun y : (Option Addr × Nat) => .slice y.1 (x21.Entries).length y.2) (fun v => [vl (tSlice t_index_Entry) x21.Entries v]) (fun v => []), pv (.agg cs17.toArray), pv (.agg cs12.toArray), pq (fun y : (Option Addr × Nat) => .slice y.1 x35.length y.2) (fun v => [vl (tSlice t_elasticstoreref32_Entry) x35 v]) (fun v => []), pv (.bool x38), pv (.bool x38), pv (.pointer (some ⟨g24, 0, none⟩)), pv (.pointer (some ⟨g24, 0, none⟩)), pv (bstr x21.Field.Name), pv (.pointer (some ⟨g19, 0, none⟩)), pv (bstr x16.Name), pv (.bool (x21.Field.Name == x16.Name)), pv (.bool (x21.Field.Name == x16.Name)), pv (.bool (x21.Field.Name == x16.Name)), pv (.pointer (some ⟨g24, 0, none⟩)), pv (.pointer (some ⟨g24, 1, none⟩)), pv (.int .i64 x21.Field.Kind), pv (.pointer (some ⟨g19, 1, none⟩)), pv (.int .i64 x16.Kind), pv (.bool (x21.Field.Kind == x16.Kind)), pv (.bool (x21.Field.Kind == x16.Kind)), pv (.bool (x21.Field.Kind == x16.Kind)), pv (undef), pv (undef), pv (undef), pv (undef), pv (undef), pv (undef), pv (.bool false), pv (.bool false), pv (undef), pv (.bool false)]) (Λ := [blk g24 35 cs22, blk g19 31 cs17, blk g14 25 cs12]) hs (by kernel_rfl) (by kernel_rfl) (by kernel_rfl) ⟨⟨⟨⟨⟨⟨⟨⟨⟨⟨⟨⟨⟨⟨⟨⟨⟨⟨⟨⟨⟨⟨⟨⟨⟨⟨⟨⟨⟨⟨⟨⟨⟨trivial, ?_⟩, ?_⟩, ?_⟩, ?_⟩, ?_⟩, ?_⟩, ?_⟩, ?_⟩, ?_⟩, ?_⟩, ?_⟩, ?_⟩, ?_⟩, ?_⟩, ?_⟩, ?_⟩, ?_⟩, ?_⟩, ?_⟩, ?_⟩, ?_⟩, ?_⟩, ?_⟩, ?_⟩, ?_⟩, ?_⟩, ?_⟩, ?_⟩, ?_⟩, ?_⟩, ?_⟩, ?_⟩, ?_⟩ ?_
    {
    intro ρ w Γx Λx hs hu hp
    refine WL.fieldAddr (m := 4) ((hu 7 rfl).trans h26_7) FA35_1 rfl ?_
    exact WL.nil ⟨rfl, _, rfl, rfl, hs.cutG 0 0⟩ }
    {
    intro ρ w Γx Λx hs hu hp
    have e240 : ρ 62 = .pointer (some ⟨g24, 4, none⟩) := (hp 0 rfl).1
    refine WL.loadF (z := x21.Entries) F_index_Index_Entries hs (Λx.length + 0) (getApp rfl) (Γx.length + 0) (getApp rfl) rfl TI33 (.inr rfl) e240 rfl (fun v32 hs => ?_)
    obtain ⟨a33, c34, rfl⟩ := hs.slice 0 rfl
    have hs := hs.add (it := vl (tSlice t_index_Entry) x21.Entries (.slice a33 (x21.Entries).length c34)) fun ok hA => hA.get 0 rfl
    exact WL.nil ⟨rfl, _, rfl, ⟨(a33, c34), rfl⟩, hs.cutG 1 1⟩ }
    {
    intro ρ w Γx Λx hs hu hp
    refine WL.loadAll hs (Λx.length + 1) (getApp rfl) TI31 ((hu 6 rfl).trans h26_6) hl18 ?_
    exact WL.nil ⟨rfl, _, rfl, rfl, hs.cutG 0 0⟩ }
    {
    intro ρ w Γx Λx hs hu hp
    refine WL.loadAll hs (Λx.length + 2) (getApp rfl) TI25 ((hu 5 rfl).trans h26_5) hl13 ?_
    exact WL.nil ⟨rfl, _, rfl, rfl, hs.cutG 0 0⟩ }
    {
    intro ρ w Γx Λx hs hu hp
    have e241 : ρ 64 = .agg cs17.toArray := (hp 2 rfl).1
    have e242 : ρ 65 = .agg cs12.toArray := (hp 3 rfl).1
    refine WL.call (vs := [.agg cs17.toArray, .agg cs12.toArray]) hs FN17 ⟨e241, ⟨e242, trivial⟩⟩ (fun ok hA => esref32_Build.callc (x1 := x16) (x5 := x11) hxx35 (hA.get (Γx.length + 1) (getApp rfl)) (hA.get (Γx.length + 2) (getApp rfl))) ?_
    rintro ⟨a36, c37⟩ w hs
    have hs := hs.add (it := vl (tSlice t_elasticstoreref32_Entry) x35 (.slice a36 x35.length c37)) fun ok hA => hA.get 0 rfl
    exact WL.nil ⟨rfl, _, rfl, ⟨(a36, c37), rfl⟩, hs.cutG 1 1⟩ }
    {
    intro ρ w Γx Λx hs hu hp
    obtain ⟨⟨⟨a243, c244⟩, e245r⟩, hm246⟩ := hp 1 rfl
    have e245 : ρ 63 = .slice a243 (x21.Entries).length c244 := e245r
    rw [e245r] at hm246
    have hs := hs.memo1 (it := vl (tSlice t_index_Entry) x21.Entries (.slice a243 (x21.Entries).length c244)) (List.mem_append.2 (.inl (hm246 _ (List.mem_of_getElem? (i := 0) rfl))))
    obtain ⟨⟨⟨a247, c248⟩, e249r⟩, hm250⟩ := hp 4 rfl
    have e249 : ρ 66 = .slice a247 x35.length c248 := e249r
    rw [e249r] at hm250
    have hs := hs.memo1 (it := vl (tSlice t_elasticstoreref32_Entry) x35 (.slice a247 x35.length c248)) (List.mem_cons_of_mem _ (List.mem_append.2 (.inl (hm250 _ (List.mem_of_getElem? (i := 0) rfl)))))
    refine WL.call (vs := [.slice a243 (x21.Entries).length c244, .slice a247 x35.length c248]) hs FN16 ⟨e245, ⟨e249, trivial⟩⟩ (fun ok hA => eslaw32_same.calls (x1 := x21.Entries) (x4 := x35) hxx38 (hA.get 1 rfl) (hA.get 0 rfl)) ?_
    rintro _ w hs
    exact WL.nil ⟨rfl, _, rfl, rfl, hs.cutG 0 2⟩ }
    {
    intro ρ w Γx Λx hs hu hp
    have e251 : ρ 67 = .bool x38 := (hp 5 rfl).1
    refine WL.move (v := .bool x38) e251 ?_
    exact WL.nil ⟨rfl, _, rfl, rfl, hs.cutG 0 0⟩ }
    {
    intro ρ w Γx Λx hs hu hp
    have e252 : ρ 68 = .bool x38 := (hp 6 rfl).1
    refine WL.fieldAddr (m := 0) ((hu 7 rfl).trans h26_7) FA35_0 rfl ?_ (hg := (wanted_of rfl rfl (bool_tr e252 hc39)).trans rfl)
    exact WL.nil ⟨rfl, _, rfl, rfl, hs.cutG 0 0⟩ }
    {
    intro ρ w Γx Λx hs hu hp
    have e253 : ρ 69 = .pointer (some ⟨g24, 0, none⟩) := (hp 7 rfl).1
    have e254 : ρ 68 = .bool x38 := (hp 6 rfl).1
    refine WL.fieldAddr (m := 0) e253 FA31_0 rfl ?_ (hg := (wanted_of rfl rfl (bool_tr e254 hc39)).trans rfl)
    exact WL.nil ⟨rfl, _, rfl, rfl, hs.cutG 0 0⟩ }
    {
    intro ρ w Γx Λx hs hu hp
    have e255 : ρ 70 = .pointer (some ⟨g24, 0, none⟩) := (hp 8 rfl).1
    have e256 : ρ 68 = .bool x38 := (hp 6 rfl).1
    refine WL.loadF (z := x21.Field.Name) (F_index_Index_Field.comp F_schema_Field_Name) hs (Λx.length + 0) (getApp rfl) (Γx.length + 0) (getApp rfl) rfl TI9 (.inr rfl) e255 rfl (fun v40 hs => ?_) (hg := (wanted_of rfl rfl (bool_tr e256 hc39)).trans rfl)
    obtain rfl := hs.str 0 rfl
    exact WL.nil ⟨rfl, _, rfl, rfl, hs.cutG 0 1⟩ }
    {
    intro ρ w Γx Λx hs hu hp
    have e257 : ρ 68 = .bool x38 := (hp 6 rfl).1
    refine WL.fieldAddr (m := 0) ((hu 6 rfl).trans h26_6) FA31_0 rfl ?_ (hg := (wanted_of rfl rfl (bool_tr e257 hc39)).trans rfl)
    exact WL.nil ⟨rfl, _, rfl, rfl, hs.cutG 0 0⟩ }
    {
    intro ρ w Γx Λx hs hu hp
    have e258 : ρ 72 = .pointer (some ⟨g19, 0, none⟩) := (hp 10 rfl).1
    have e259 : ρ 68 = .bool x38 := (hp 6 rfl).1
    refine WL.loadF (z := x16.Name) F_schema_Field_Name hs (Λx.length + 1) (getApp rfl) (Γx.length + 1) (getApp rfl) rfl TI9 (.inr rfl) e258 rfl (fun v41 hs => ?_) (hg := (wanted_of rfl rfl (bool_tr e259 hc39)).trans rfl)
    obtain rfl := hs.str 0 rfl
    exact WL.nil ⟨rfl, _, rfl, rfl, hs.cutG 0 1⟩ }
    {
    intro ρ w Γx Λx hs hu hp
    have e260 : ρ 71 = bstr x21.Field.Name := (hp 9 rfl).1
    have e261 : ρ 73 = bstr x16.Name := (hp 11 rfl).1
    have e262 : ρ 68 = .bool x38 := (hp 6 rfl).1
    refine WL.binS (v := .bool (x21.Field.Name == x16.Name)) e260 e261 (sb_eql _ _) ?_ (hg := (wanted_of rfl rfl (bool_tr e262 hc39)).trans rfl)
    exact WL.nil ⟨rfl, _, rfl, rfl, hs.cutG 0 0⟩ }
    {
    intro ρ w Γx Λx hs hu hp
    have e263 : ρ 68 = .bool x38 := (hp 6 rfl).1
    have e264 : ρ 74 = .bool (x21.Field.Name == x16.Name) := (hp 12 rfl).1
    refine WL.pickT (v := .bool (x21.Field.Name == x16.Name)) (bool_tr e263 hc39) e264 ?_
    exact WL.nil ⟨rfl, _, rfl, rfl, hs.cutG 0 0⟩ }
    {
    intro ρ w Γx Λx hs hu hp
    have e265 : ρ 75 = .bool (x21.Field.Name == x16.Name) := (hp 13 rfl).1
    refine WL.move (v := .bool (x21.Field.Name == x16.Name)) e265 ?_
    exact WL.nil ⟨rfl, _, rfl, rfl, hs.cutG 0 0⟩ }
    {
    intro ρ w Γx Λx hs hu hp
    have e266 : ρ 76 = .bool (x21.Field.Name == x16.Name) := (hp 14 rfl).1
    refine WL.fieldAddr (m := 0) ((hu 7 rfl).trans h26_7) FA35_0 rfl ?_ (hg := (wanted_of rfl rfl (bool_tr e266 hc42)).trans rfl)
    exact WL.nil ⟨rfl, _, rfl, rfl, hs.cutG 0 0⟩ }
    {
    intro ρ w Γx Λx hs hu hp
    have e267 : ρ 77 = .pointer (some ⟨g24, 0, none⟩) := (hp 15 rfl).1
    have e268 : ρ 76 = .bool (x21.Field.Name == x16.Name) := (hp 14 rfl).1
    refine WL.fieldAddr (m := 1) e267 FA31_1 rfl ?_ (hg := (wanted_of rfl rfl (bool_tr e268 hc42)).trans rfl)
    exact WL.nil ⟨rfl, _, rfl, rfl, hs.cutG 0 0⟩ }
    {
    intro ρ w Γx Λx hs hu hp
    have e269 : ρ 78 = .pointer (some ⟨g24, 1, none⟩) := (hp 16 rfl).1
    have e270 : ρ 76 = .bool (x21.Field.Name == x16.Name) := (hp 14 rfl).1
    refine WL.loadF (z := x21.Field.Kind) (F_index_Index_Field.comp F_schema_Field_Kind) hs (Λx.length + 0) (getApp rfl) (Γx.length + 0) (getApp rfl) rfl TI3 (.inr rfl) e269 rfl (fun v43 hs => ?_) (hg := (wanted_of rfl rfl (bool_tr e270 hc42)).trans rfl)
    obtain rfl := hs.int 0 rfl
    exact WL.nil ⟨rfl, _, rfl, rfl, hs.cutG 0 1⟩ }
    {
    intro ρ w Γx Λx hs hu hp
    have e271 : ρ 76 = .bool (x21.Field.Name == x16.Name) := (hp 14 rfl).1
    refine WL.fieldAddr (m := 1) ((hu 6 rfl).trans h26_6) FA31_1 rfl ?_ (hg := (wanted_of rfl rfl (bool_tr e271 hc42)).trans rfl)
    exact WL.nil ⟨rfl, _, rfl, rfl, hs.cutG 0 0⟩ }
    {
    intro ρ w Γx Λx hs hu hp
    have e272 : ρ 80 = .pointer (some ⟨g19, 1, none⟩) := (hp 18 rfl).1
    have e273 : ρ 76 = .bool (x21.Field.Name == x16.Name) := (hp 14 rfl).1
    refine WL.loadF (z := x16.Kind) F_schema_Field_Kind hs (Λx.length + 1) (getApp rfl) (Γx.length + 1) (getApp rfl) rfl TI3 (.inr rfl) e272 rfl (fun v44 hs => ?_) (hg := (wanted_of rfl rfl (bool_tr e273 hc42)).trans rfl)
    obtain rfl := hs.int 0 rfl
    exact WL.nil ⟨rfl, _, rfl, rfl, hs.cutG 0 1⟩ }
    {
    intro ρ w Γx Λx hs hu hp
    have e274 : ρ 79 = .int .i64 x21.Field.Kind := (hp 17 rfl).1
    have e275 : ρ 81 = .int .i64 x16.Kind := (hp 19 rfl).1
    have e276 : ρ 76 = .bool (x21.Field.Name == x16.Name) := (hp 14 rfl).1
    refine WL.bin (v := .bool (x21.Field.Kind == x16.Kind)) e274 e275 (ib_eql _ _ _) ?_ (hg := (wanted_of rfl rfl (bool_tr e276 hc42)).trans rfl)
    exact WL.nil ⟨rfl, _, rfl, rfl, hs.cutG 0 0⟩ }
    {
    intro ρ w Γx Λx hs hu hp
    have e277 : ρ 76 = .bool (x21.Field.Name == x16.Name) := (hp 14 rfl).1
    have e278 : ρ 82 = .bool (x21.Field.Kind == x16.Kind) := (hp 20 rfl).1
    refine WL.pickT (v := .bool (x21.Field.Kind == x16.Kind)) (bool_tr e277 hc42) e278 ?_
    exact WL.nil ⟨rfl, _, rfl, rfl, hs.cutG 0 0⟩ }
    {
    intro ρ w Γx Λx hs hu hp
    have e279 : ρ 83 = .bool (x21.Field.Kind == x16.Kind) := (hp 21 rfl).1
    refine WL.move (v := .bool (x21.Field.Kind == x16.Kind)) e279 ?_
    exact WL.nil ⟨rfl, _, rfl, rfl, hs.cutG 0 0⟩ }
    {
    intro ρ w Γx Λx hs hu hp
    have e280 : ρ 84 = .bool (x21.Field.Kind == x16.Kind) := (hp 22 rfl).1
    refine WL.pass ((wanted_of rfl rfl (bool_tr e280 hc45)).trans rfl) rfl ?_
    exact WL.nil ⟨rfl, _, rfl, rfl, hs.cutG 0 0⟩ }
    {
    intro ρ w Γx Λx hs hu hp
    have e281 : ρ 85 = undef := (hp 23 rfl).1
    have e282 : ρ 84 = .bool (x21.Field.Kind == x16.Kind) := (hp 22 rfl).1
    refine WL.pass ((wanted_of rfl rfl (bool_tr e282 hc45)).trans rfl) rfl ?_
    exact WL.nil ⟨rfl, _, rfl, rfl, hs.cutG 0 0⟩ }
    {
    intro ρ w Γx Λx hs hu hp
    have e283 : ρ 86 = undef := (hp 24 rfl).1
    have e284 : ρ 84 = .bool (x21.Field.Kind == x16.Kind) := (hp 22 rfl).1
    refine WL.pass ((wanted_of rfl rfl (bool_tr e284 hc45)).trans rfl) rfl ?_
    exact WL.nil ⟨rfl, _, rfl, rfl, hs.cutG 0 0⟩ }
    {
    intro ρ w Γx Λx hs hu hp
    have e285 : ρ 84 = .bool (x21.Field.Kind == x16.Kind) := (hp 22 rfl).1
    refine WL.pass ((wanted_of rfl rfl (bool_tr e285 hc45)).trans rfl) rfl ?_
    exact WL.nil ⟨rfl, _, rfl, rfl, hs.cutG 0 0⟩ }
    {
    intro ρ w Γx Λx hs hu hp
    have e286 : ρ 88 = undef := (hp 26 rfl).1
    have e287 : ρ 84 = .bool (x21.Field.Kind == x16.Kind) := (hp 22 rfl).1
    refine WL.pass ((wanted_of rfl rfl (bool_tr e287 hc45)).trans rfl) rfl ?_
    exact WL.nil ⟨rfl, _, rfl, rfl, hs.cutG 0 0⟩ }
    {
    intro ρ w Γx Λx hs hu hp
    have e288 : ρ 87 = undef := (hp 25 rfl).1
    have e289 : ρ 89 = undef := (hp 27 rfl).1
    have e290 : ρ 84 = .bool (x21.Field.Kind == x16.Kind) := (hp 22 rfl).1
    refine WL.pass ((wanted_of rfl rfl (bool_tr e290 hc45)).trans rfl) rfl ?_
    exact WL.nil ⟨rfl, _, rfl, rfl, hs.cutG 0 0⟩ }
    {
    intro ρ w Γx Λx hs hu hp
    have e291 : ρ 84 = .bool (x21.Field.Kind == x16.Kind) := (hp 22 rfl).1
    have e292 : ρ 90 = undef := (hp 28 rfl).1
    refine WL.pickF (v := .bool false) (bool_tr e291 hc45) rfl ?_
    exact WL.nil ⟨rfl, _, rfl, rfl, hs.cutG 0 0⟩ }
    {
    intro ρ w Γx Λx hs hu hp
    have e293 : ρ 91 = .bool false := (hp 29 rfl).1
    refine WL.move (v := .bool false) e293 ?_
    exact WL.nil ⟨rfl, _, rfl, rfl, hs.cutG 0 0⟩ }
    {
    intro ρ w Γx Λx hs hu hp
    have e294 : ρ 92 = .bool false := (hp 30 rfl).1
    refine WL.pass ((wanted_of rfl rfl e294).trans rfl) rfl ?_
    exact WL.nil ⟨rfl, _, rfl, rfl, hs.cutG 0 0⟩ }
    {
    intro ρ w Γx Λx hs hu hp
    have e295 : ρ 92 = .bool false := (hp 30 rfl).1
    have e296 : ρ 93 = undef := (hp 31 rfl).1
    refine WL.pickF (v := .bool false) e295 rfl ?_
    exact WL.nil ⟨rfl, _, rfl, rfl, hs.cutG 0 0⟩ }
    {
    intro ρ w hs hu297 hp
    obtain ⟨⟨⟨⟨⟨⟨⟨⟨⟨⟨⟨⟨⟨⟨⟨⟨⟨⟨⟨⟨⟨⟨⟨⟨⟨⟨⟨⟨⟨⟨⟨⟨⟨_, hp0_⟩, hp1_⟩, hp2_⟩, hp3_⟩, hp4_⟩, hp5_⟩, hp6_⟩, hp7_⟩, hp8_⟩, hp9_⟩, hp10_⟩, hp11_⟩, hp12_⟩, hp13_⟩, hp14_⟩, hp15_⟩, hp16_⟩, hp17_⟩, hp18_⟩, hp19_⟩, hp20_⟩, hp21_⟩, hp22_⟩, hp23_⟩, hp24_⟩, hp25_⟩, hp26_⟩, hp27_⟩, hp28_⟩, hp29_⟩, hp30_⟩, hp31_⟩, hp32_⟩ := hp
    have hs : St ok (bz w0) w [vl (tSlice t_elasticstoreref32_Entry) x35 (ρ 66), vl (tSlice t_index_Entry) x21.Entries (ρ 63), vl t_index_Index x21 (.agg cs22.toArray), vl t_schema_Field x16 (.agg cs17.toArray), vl t_fold_Store x11 (.agg cs12.toArray)] [blk g24 35 cs22, blk g19 31 cs17, blk g14 25 cs12] := hs
    have e298 : ρ 94 = .bool false := hp32_
    have e299 : ρ 93 = undef := hp31_
    have e300 : ρ 92 = .bool false := hp30_
    have e301 : ρ 91 = .bool false := hp29_
    have e302 : ρ 90 = undef := hp28_
    have e303 : ρ 89 = undef := hp27_
    have e304 : ρ 88 = undef := hp26_
    have e305 : ρ 87 = undef := hp25_
    have e306 : ρ 86 = undef := hp24_
    have e307 : ρ 85 = undef := hp23_
    have e308 : ρ 84 = .bool (x21.Field.Kind == x16.Kind) := hp22_
    have e309 : ρ 83 = .bool (x21.Field.Kind == x16.Kind) := hp21_
    have e310 : ρ 82 = .bool (x21.Field.Kind == x16.Kind) := hp20_
    have e311 : ρ 81 = .int .i64 x16.Kind := hp19_
    have e312 : ρ 80 = .pointer (some ⟨g19, 1, none⟩) := hp18_
    have e313 : ρ 79 = .int .i64 x21.Field.Kind := hp17_
    have e314 : ρ 78 = .pointer (some ⟨g24, 1, none⟩) := hp16_
    have e315 : ρ 77 = .pointer (some ⟨g24, 0, none⟩) := hp15_
    have e316 : ρ 76 = .bool (x21.Field.Name == x16.Name) := hp14_
    have e317 : ρ 75 = .bool (x21.Field.Name == x16.Name) := hp13_
    have e318 : ρ 74 = .bool (x21.Field.Name == x16.Name) := hp12_
    have e319 : ρ 73 = bstr x16.Name := hp11_
    have e320 : ρ 72 = .pointer (some ⟨g19, 0, none⟩) := hp10_
    have e321 : ρ 71 = bstr x21.Field.Name := hp9_
    have e322 : ρ 70 = .pointer (some ⟨g24, 0, none⟩) := hp8_
    have e323 : ρ 69 = .pointer (some ⟨g24, 0, none⟩) := hp7_
    have e324 : ρ 68 = .bool x38 := hp6_
    have e325 : ρ 67 = .bool x38 := hp5_
    obtain ⟨⟨a326, c327⟩, e328⟩ := hp4_
    have e328 : ρ 66 = .slice a326 x35.length c327 := e328
    try rw [e328] at hs
    have e329 : ρ 65 = .agg cs12.toArray := hp3_
    have e330 : ρ 64 = .agg cs17.toArray := hp2_
    obtain ⟨⟨a331, c332⟩, e333⟩ := hp1_
    have e333 : ρ 63 = .slice a331 (x21.Entries).length c332 := e333
    try rw [e333] at hs
    have e334 : ρ 62 = .pointer (some ⟨g24, 4, none⟩) := hp0_
    refine WA.step [33] (by kernel_rfl) (by simp) ⟨?_, trivial⟩
    refine WL.assign (v := .bool false) e298 ?_
    refine WL.nil ⟨rfl, _, rfl, ?_⟩
    refine WA.done (by kernel_rfl) ?_
    exact Jk31 false _ _ rfl ((hs.mask []).pick []) hf } } }
    {
    refine W.any (by kernel_rfl) 33 1 [true, true, true, true, true, true, true, true, true, true, true, true, true, true, true, true, true, true, true, true, true, true, true, true, true, true, true, true, true, true, true, true, true, false] rfl rfl (poAt [pv (.pointer (some ⟨g24, 4, none⟩)), pq (fun y : (Option Addr × Nat) => .slice y.1 (x21.Entries).length y.2) (fun v => [vl (tSlice t_index_Entry) x21.Entries v]) (fun v => []), pv (.agg cs17.toArray), pv (.agg cs12.toArray), pq (fun y : (Option Addr × Nat) => .slice y.1 x35.length y.2) (fun v => [vl (tSlice t_elasticstoreref32_Entry) x35 v]) (fun v => []), pv (.bool x38), pv (.bool x38), pv (.pointer (some ⟨g24, 0, none⟩)), pv (.pointer (some ⟨g24, 0, none⟩)), pv (bstr x21.Field.Name), pv (.pointer (some ⟨g19, 0, none⟩)), pv (bstr x16.Name), pv (.bool (x21.Field.Name == x16.Name)), pv (.bool (x21.Field.Name == x16.Name)), pv (.bool (x21.Field.Name == x16.Name)), pv (undef), pv (undef), pv (undef), pv (undef), pv (undef), pv (undef), pv (.bool false), pv (.bool false), pv (undef), pv (undef), pv (undef), pv (undef), pv (undef), pv (undef), pv (.bool false), pv (.bool false), pv (undef), pv (.bool false)]) (Λ := [blk g24 35 cs22, blk g19 31 cs17, blk g14 25 cs12]) hs (by kernel_rfl) (by kernel_rfl) (by kernel_rfl) ⟨⟨⟨⟨⟨⟨⟨⟨⟨⟨⟨⟨⟨⟨⟨⟨⟨⟨⟨⟨⟨⟨⟨⟨⟨⟨⟨⟨⟨⟨⟨⟨⟨trivial, ?_⟩, ?_⟩, ?_⟩, ?_⟩, ?_⟩, ?_⟩, ?_⟩, ?_⟩, ?_⟩, ?_⟩, ?_⟩, ?_⟩, ?_⟩, ?_⟩, ?_⟩, ?_⟩, ?_⟩, ?_⟩, ?_⟩, ?_⟩, ?_⟩, ?_⟩, ?_⟩, ?_⟩, ?_⟩, ?_⟩, ?_⟩, ?_⟩, ?_⟩, ?_⟩, ?_⟩, ?_⟩, ?_⟩ ?_
    {
    intro ρ w Γx Λx hs hu hp
    refine WL.fieldAddr (m := 4) ((hu 7 rfl).trans h26_7) FA35_1 rfl ?_
    exact WL.nil ⟨rfl, _, rfl, rfl, hs.cutG 0 0⟩ }
    {
    intro ρ w Γx Λx hs hu hp
    have e335 : ρ 62 = .pointer (some ⟨g24, 4, none⟩) := (hp 0 rfl).1
    refine WL.loadF (z := x21.Entries) F_index_Index_Entries hs (Λx.length + 0) (getApp rfl) (Γx.length + 0) (getApp rfl) rfl TI33 (.inr rfl) e335 rfl (fun v32 hs => ?_)
    obtain ⟨a33, c34, rfl⟩ := hs.slice 0 rfl
    have hs := hs.add (it := vl (tSlice t_index_Entry) x21.Entries (.slice a33 (x21.Entries).length c34)) fun ok hA => hA.get 0 rfl
    exact WL.nil ⟨rfl, _, rfl, ⟨(a33, c34), rfl⟩, hs.cutG 1 1⟩ }
    {
    intro ρ w Γx Λx hs hu hp
    refine WL.loadAll hs (Λx.length + 1) (getApp rfl) TI31 ((hu 6 rfl).trans h26_6) hl18 ?_
    exact WL.nil ⟨rfl, _, rfl, rfl, hs.cutG 0 0⟩ }
    {
    intro ρ w Γx Λx hs hu hp
    refine WL.loadAll hs (Λx.length + 2) (getApp rfl) TI25 ((hu 5 rfl).trans h26_5) hl13 ?_
    exact WL.nil ⟨rfl, _, rfl, rfl, hs.cutG 0 0⟩ }
    {
    intro ρ w Γx Λx hs hu hp
    have e336 : ρ 64 = .agg cs17.toArray := (hp 2 rfl).1
    have e337 : ρ 65 = .agg cs12.toArray := (hp 3 rfl).1
    refine WL.call (vs := [.agg cs17.toArray, .agg cs12.toArray]) hs FN17 ⟨e336, ⟨e337, trivial⟩⟩ (fun ok hA => esref32_Build.callc (x1 := x16) (x5 := x11) hxx35 (hA.get (Γx.length + 1) (getApp rfl)) (hA.get (Γx.length + 2) (getApp rfl))) ?_
    rintro ⟨a36, c37⟩ w hs
    have hs := hs.add (it := vl (tSlice t_elasticstoreref32_Entry) x35 (.slice a36 x35.length c37)) fun ok hA => hA.get 0 rfl
    exact WL.nil ⟨rfl, _, rfl, ⟨(a36, c37), rfl⟩, hs.cutG 1 1⟩ }
    {
    intro ρ w Γx Λx hs hu hp
    obtain ⟨⟨⟨a338, c339⟩, e340r⟩, hm341⟩ := hp 1 rfl
    have e340 : ρ 63 = .slice a338 (x21.Entries).length c339 := e340r
    rw [e340r] at hm341
    have hs := hs.memo1 (it := vl (tSlice t_index_Entry) x21.Entries (.slice a338 (x21.Entries).length c339)) (List.mem_append.2 (.inl (hm341 _ (List.mem_of_getElem? (i := 0) rfl))))
    obtain ⟨⟨⟨a342, c343⟩, e344r⟩, hm345⟩ := hp 4 rfl
    have e344 : ρ 66 = .slice a342 x35.length c343 := e344r
    rw [e344r] at hm345
    have hs := hs.memo1 (it := vl (tSlice t_elasticstoreref32_Entry) x35 (.slice a342 x35.length c343)) (List.mem_cons_of_mem _ (List.mem_append.2 (.inl (hm345 _ (List.mem_of_getElem? (i := 0) rfl)))))
    refine WL.call (vs := [.slice a338 (x21.Entries).length c339, .slice a342 x35.length c343]) hs FN16 ⟨e340, ⟨e344, trivial⟩⟩ (fun ok hA => eslaw32_same.calls (x1 := x21.Entries) (x4 := x35) hxx38 (hA.get 1 rfl) (hA.get 0 rfl)) ?_
    rintro _ w hs
    exact WL.nil ⟨rfl, _, rfl, rfl, hs.cutG 0 2⟩ }
    {
    intro ρ w Γx Λx hs hu hp
    have e346 : ρ 67 = .bool x38 := (hp 5 rfl).1
    refine WL.move (v := .bool x38) e346 ?_
    exact WL.nil ⟨rfl, _, rfl, rfl, hs.cutG 0 0⟩ }
    {
    intro ρ w Γx Λx hs hu hp
    have e347 : ρ 68 = .bool x38 := (hp 6 rfl).1
    refine WL.fieldAddr (m := 0) ((hu 7 rfl).trans h26_7) FA35_0 rfl ?_ (hg := (wanted_of rfl rfl (bool_tr e347 hc39)).trans rfl)
    exact WL.nil ⟨rfl, _, rfl, rfl, hs.cutG 0 0⟩ }
    {
    intro ρ w Γx Λx hs hu hp
    have e348 : ρ 69 = .pointer (some ⟨g24, 0, none⟩) := (hp 7 rfl).1
    have e349 : ρ 68 = .bool x38 := (hp 6 rfl).1
    refine WL.fieldAddr (m := 0) e348 FA31_0 rfl ?_ (hg := (wanted_of rfl rfl (bool_tr e349 hc39)).trans rfl)
    exact WL.nil ⟨rfl, _, rfl, rfl, hs.cutG 0 0⟩ }
    {
    intro ρ w Γx Λx hs hu hp
    have e350 : ρ 70 = .pointer (some ⟨g24, 0, none⟩) := (hp 8 rfl).1
    have e351 : ρ 68 = .bool x38 := (hp 6 rfl).1
    refine WL.loadF (z := x21.Field.Name) (F_index_Index_Field.comp F_schema_Field_Name) hs (Λx.length + 0) (getApp rfl) (Γx.length + 0) (getApp rfl) rfl TI9 (.inr rfl) e350 rfl (fun v40 hs => ?_) (hg := (wanted_of rfl rfl (bool_tr e351 hc39)).trans rfl)
    obtain rfl := hs.str 0 rfl
    exact WL.nil ⟨rfl, _, rfl, rfl, hs.cutG 0 1⟩ }
    {
    intro ρ w Γx Λx hs hu hp
    have e352 : ρ 68 = .bool x38 := (hp 6 rfl).1
    refine WL.fieldAddr (m := 0) ((hu 6 rfl).trans h26_6) FA31_0 rfl ?_ (hg := (wanted_of rfl rfl (bool_tr e352 hc39)).trans rfl)
    exact WL.nil ⟨rfl, _, rfl, rfl, hs.cutG 0 0⟩ }
    {
    intro ρ w Γx Λx hs hu hp
    have e353 : ρ 72 = .pointer (some ⟨g19, 0, none⟩) := (hp 10 rfl).1
    have e354 : ρ 68 = .bool x38 := (hp 6 rfl).1
    refine WL.loadF (z := x16.Name) F_schema_Field_Name hs (Λx.length + 1) (getApp rfl) (Γx.length + 1) (getApp rfl) rfl TI9 (.inr rfl) e353 rfl (fun v41 hs => ?_) (hg := (wanted_of rfl rfl (bool_tr e354 hc39)).trans rfl)
    obtain rfl := hs.str 0 rfl
    exact WL.nil ⟨rfl, _, rfl, rfl, hs.cutG 0 1⟩ }
    {
    intro ρ w Γx Λx hs hu hp
    have e355 : ρ 71 = bstr x21.Field.Name := (hp 9 rfl).1
    have e356 : ρ 73 = bstr x16.Name := (hp 11 rfl).1
    have e357 : ρ 68 = .bool x38 := (hp 6 rfl).1
    refine WL.binS (v := .bool (x21.Field.Name == x16.Name)) e355 e356 (sb_eql _ _) ?_ (hg := (wanted_of rfl rfl (bool_tr e357 hc39)).trans rfl)
    exact WL.nil ⟨rfl, _, rfl, rfl, hs.cutG 0 0⟩ }
    {
    intro ρ w Γx Λx hs hu hp
    have e358 : ρ 68 = .bool x38 := (hp 6 rfl).1
    have e359 : ρ 74 = .bool (x21.Field.Name == x16.Name) := (hp 12 rfl).1
    refine WL.pickT (v := .bool (x21.Field.Name == x16.Name)) (bool_tr e358 hc39) e359 ?_
    exact WL.nil ⟨rfl, _, rfl, rfl, hs.cutG 0 0⟩ }
    {
    intro ρ w Γx Λx hs hu hp
    have e360 : ρ 75 = .bool (x21.Field.Name == x16.Name) := (hp 13 rfl).1
    refine WL.move (v := .bool (x21.Field.Name == x16.Name)) e360 ?_
    exact WL.nil ⟨rfl, _, rfl, rfl, hs.cutG 0 0⟩ }
    {
    intro ρ w Γx Λx hs hu hp
    have e361 : ρ 76 = .bool (x21.Field.Name == x16.Name) := (hp 14 rfl).1
    refine WL.pass ((wanted_of rfl rfl (bool_tr e361 hc42)).trans rfl) rfl ?_
    exact WL.nil ⟨rfl, _, rfl, rfl, hs.cutG 0 0⟩ }
    {
    intro ρ w Γx Λx hs hu hp
    have e362 : ρ 77 = undef := (hp 15 rfl).1
    have e363 : ρ 76 = .bool (x21.Field.Name == x16.Name) := (hp 14 rfl).1
    refine WL.pass ((wanted_of rfl rfl (bool_tr e363 hc42)).trans rfl) rfl ?_
    exact WL.nil ⟨rfl, _, rfl, rfl, hs.cutG 0 0⟩ }
    {
    intro ρ w Γx Λx hs hu hp
    have e364 : ρ 78 = undef := (hp 16 rfl).1
    have e365 : ρ 76 = .bool (x21.Field.Name == x16.Name) := (hp 14 rfl).1
    refine WL.pass ((wanted_of rfl rfl (bool_tr e365 hc42)).trans rfl) rfl ?_
    exact WL.nil ⟨rfl, _, rfl, rfl, hs.cutG 0 0⟩ }
    {
    intro ρ w Γx Λx hs hu hp
    have e366 : ρ 76 = .bool (x21.Field.Name == x16.Name) := (hp 14 rfl).1
    refine WL.pass ((wanted_of rfl rfl (bool_tr e366 hc42)).trans rfl) rfl ?_
    exact WL.nil ⟨rfl, _, rfl, rfl, hs.cutG 0 0⟩ }
    {
    intro ρ w Γx Λx hs hu hp
    have e367 : ρ 80 = undef := (hp 18 rfl).1
    have e368 : ρ 76 = .bool (x21.Field.Name == x16.Name) := (hp 14 rfl).1
    refine WL.pass ((wanted_of rfl rfl (bool_tr e368 hc42)).trans rfl) rfl ?_
    exact WL.nil ⟨rfl, _, rfl, rfl, hs.cutG 0 0⟩ }
    {
    intro ρ w Γx Λx hs hu hp
    have e369 : ρ 79 = undef := (hp 17 rfl).1
    have e370 : ρ 81 = undef := (hp 19 rfl).1
    have e371 : ρ 76 = .bool (x21.Field.Name == x16.Name) := (hp 14 rfl).1
    refine WL.pass ((wanted_of rfl rfl (bool_tr e371 hc42)).trans rfl) rfl ?_
    exact WL.nil ⟨rfl, _, rfl, rfl, hs.cutG 0 0⟩ }
    {
    intro ρ w Γx Λx hs hu hp
    have e372 : ρ 76 = .bool (x21.Field.Name == x16.Name) := (hp 14 rfl).1
    have e373 : ρ 82 = undef := (hp 20 rfl).1
    refine WL.pickF (v := .bool false) (bool_tr e372 hc42) rfl ?_
    exact WL.nil ⟨rfl, _, rfl, rfl, hs.cutG 0 0⟩ }
    {
    intro ρ w Γx Λx hs hu hp
    have e374 : ρ 83 = .bool false := (hp 21 rfl).1
    refine WL.move (v := .bool false) e374 ?_
    exact WL.nil ⟨rfl, _, rfl, rfl, hs.cutG 0 0⟩ }
    {
    intro ρ w Γx Λx hs hu hp
    have e375 : ρ 84 = .bool false := (hp 22 rfl).1
    refine WL.pass ((wanted_of rfl rfl e375).trans rfl) rfl ?_
    exact WL.nil ⟨rfl, _, rfl, rfl, hs.cutG 0 0⟩ }
    {
    intro ρ w Γx Λx hs hu hp
    have e376 : ρ 85 = undef := (hp 23 rfl).1
    have e377 : ρ 84 = .bool false := (hp 22 rfl).1
    refine WL.pass ((wanted_of rfl rfl e377).trans rfl) rfl ?_
    exact WL.nil ⟨rfl, _, rfl, rfl, hs.cutG 0 0⟩ }
    {
    intro ρ w Γx Λx hs hu hp
    have e378 : ρ 86 = undef := (hp 24 rfl).1
    have e379 : ρ 84 = .bool false := (hp 22 rfl).1
    refine WL.pass ((wanted_of rfl rfl e379).trans rfl) rfl ?_
    exact WL.nil ⟨rfl, _, rfl, rfl, hs.cutG 0 0⟩ }
    {
    intro ρ w Γx Λx hs hu hp
    have e380 : ρ 84 = .bool false := (hp 22 rfl).1
    refine WL.pass ((wanted_of rfl rfl e380).trans rfl) rfl ?_
    exact WL.nil ⟨rfl, _, rfl, rfl, hs.cutG 0 0⟩ }
    {
    intro ρ w Γx Λx hs hu hp
    have e381 : ρ 88 = undef := (hp 26 rfl).1
    have e382 : ρ 84 = .bool false := (hp 22 rfl).1
    refine WL.pass ((wanted_of rfl rfl e382).trans rfl) rfl ?_
    exact WL.nil ⟨rfl, _, rfl, rfl, hs.cutG 0 0⟩ }
    {
    intro ρ w Γx Λx hs hu hp
    have e383 : ρ 87 = undef := (hp 25 rfl).1
    have e384 : ρ 89 = undef := (hp 27 rfl).1
    have e385 : ρ 84 = .bool false := (hp 22 rfl).1
    refine WL.pass ((wanted_of rfl rfl e385).trans rfl) rfl ?_
    exact WL.nil ⟨rfl, _, rfl, rfl, hs.cutG 0 0⟩ }
    {
    intro ρ w Γx Λx hs hu hp
    have e386 : ρ 84 = .bool false := (hp 22 rfl).1
    have e387 : ρ 90 = undef := (hp 28 rfl).1
    refine WL.pickF (v := .bool false) e386 rfl ?_
    exact WL.nil ⟨rfl, _, rfl, rfl, hs.cutG 0 0⟩ }
    {
    intro ρ w Γx Λx hs hu hp
    have e388 : ρ 91 = .bool false := (hp 29 rfl).1
    refine WL.move (v := .bool false) e388 ?_
    exact WL.nil ⟨rfl, _, rfl, rfl, hs.cutG 0 0⟩ }
    {
    intro ρ w Γx Λx hs hu hp
    have e389 : ρ 92 = .bool false := (hp 30 rfl).1
    refine WL.pass ((wanted_of rfl rfl e389).trans rfl) rfl ?_
    exact WL.nil ⟨rfl, _, rfl, rfl, hs.cutG 0 0⟩ }
    {
    intro ρ w Γx Λx hs hu hp
    have e390 : ρ 92 = .bool false := (hp 30 rfl).1
    have e391 : ρ 93 = undef := (hp 31 rfl).1
    refine WL.pickF (v := .bool false) e390 rfl ?_
    exact WL.nil ⟨rfl, _, rfl, rfl, hs.cutG 0 0⟩ }
    {
    intro ρ w hs hu392 hp
    obtain ⟨⟨⟨⟨⟨⟨⟨⟨⟨⟨⟨⟨⟨⟨⟨⟨⟨⟨⟨⟨⟨⟨⟨⟨⟨⟨⟨⟨⟨⟨⟨⟨⟨_, hp0_⟩, hp1_⟩, hp2_⟩, hp3_⟩, hp4_⟩, hp5_⟩, hp6_⟩, hp7_⟩, hp8_⟩, hp9_⟩, hp10_⟩, hp11_⟩, hp12_⟩, hp13_⟩, hp14_⟩, hp15_⟩, hp16_⟩, hp17_⟩, hp18_⟩, hp19_⟩, hp20_⟩, hp21_⟩, hp22_⟩, hp23_⟩, hp24_⟩, hp25_⟩, hp26_⟩, hp27_⟩, hp28_⟩, hp29_⟩, hp30_⟩, hp31_⟩, hp32_⟩ := hp
    have hs : St ok (bz w0) w [vl (tSlice t_elasticstoreref32_Entry) x35 (ρ 66), vl (tSlice t_index_Entry) x21.Entries (ρ 63), vl t_index_Index x21 (.agg cs22.toArray), vl t_schema_Field x16 (.agg cs17.toArray), vl t_fold_Store x11 (.agg cs12.toArray)] [blk g24 35 cs22, blk g19 31 cs17, blk g14 25 cs12] := hs
    have e393 : ρ 94 = .bool false := hp32_
    have e394 : ρ 93 = undef := hp31_
    have e395 : ρ 92 = .bool false := hp30_
    have e396 : ρ 91 = .bool false := hp29_
    have e397 : ρ 90 = undef := hp28_
    have e398 : ρ 89 = undef := hp27_
    have e399 : ρ 88 = undef := hp26_
    have e400 : ρ 87 = undef := hp25_
    have e401 : ρ 86 = undef := hp24_
    have e402 : ρ 85 = undef := hp23_
    have e403 : ρ 84 = .bool false := hp22_
    have e404 : ρ 83 = .bool false := hp21_
    have e405 : ρ 82 = undef := hp20_
    have e406 : ρ 81 = undef := hp19_
    have e407 : ρ 80 = undef := hp18_
    have e408 : ρ 79 = undef := hp17_
    have e409 : ρ 78 = undef := hp16_
    have e410 : ρ 77 = undef := hp15_
    have e411 : ρ 76 = .bool (x21.Field.Name == x16.Name) := hp14_
    have e412 : ρ 75 = .bool (x21.Field.Name == x16.Name) := hp13_
    have e413 : ρ 74 = .bool (x21.Field.Name == x16.Name) := hp12_
    have e414 : ρ 73 = bstr x16.Name := hp11_
    have e415 : ρ 72 = .pointer (some ⟨g19, 0, none⟩) := hp10_
    have e416 : ρ 71 = bstr x21.Field.Name := hp9_
    have e417 : ρ 70 = .pointer (some ⟨g24, 0, none⟩) := hp8_
    have e418 : ρ 69 = .pointer (some ⟨g24, 0, none⟩) := hp7_
    have e419 : ρ 68 = .bool x38 := hp6_
    have e420 : ρ 67 = .bool x38 := hp5_
    obtain ⟨⟨a421, c422⟩, e423⟩ := hp4_
    have e423 : ρ 66 = .slice a421 x35.length c422 := e423
    try rw [e423] at hs
    have e424 : ρ 65 = .agg cs12.toArray := hp3_
    have e425 : ρ 64 = .agg cs17.toArray := hp2_
    obtain ⟨⟨a426, c427⟩, e428⟩ := hp1_
    have e428 : ρ 63 = .slice a426 (x21.Entries).length c427 := e428
    try rw [e428] at hs
    have e429 : ρ 62 = .pointer (some ⟨g24, 4, none⟩) := hp0_
    refine WA.step [33] (by kernel_rfl) (by simp) ⟨?_, trivial⟩
    refine WL.assign (v := .bool false) e393 ?_
    refine WL.nil ⟨rfl, _, rfl, ?_⟩
    refine WA.done (by kernel_rfl) ?_
    exact Jk31 false _ _ rfl ((hs.mask []).pick []) hf } } }
    {
    refine W.any (by kernel_rfl) 33 1 [true, true, true, true, true, true, true, true, true, true, true, true, true, true, true, true, true, true, true, true, true, true, true, true, true, true, true, true, true, true, true, true, true, false] rfl rfl (poAt [pv (.pointer (some ⟨g24, 4, none⟩)), pq (fun y : (Option Addr × Nat) => .slice y.1 (x21.Entries).length y.2) (fun v => [vl (tSlice t_index_Entry) x21.Entries v]) (fun v => []), pv (.agg cs17.toArray), pv (.agg cs12.toArray), pq (fun y : (Option Addr × Nat) => .slice y.1 x35.length y.2) (fun v => [vl (tSlice t_elasticstoreref32_Entry) x35 v]) (fun v => []), pv (.bool x38), pv (.bool x38), pv (undef), pv (undef), pv (undef), pv (undef), pv (undef), pv (undef), pv (.bool false), pv (.bool false), pv (undef), pv (undef), pv (undef), pv (undef), pv (undef), pv (undef), pv (.bool false), pv (.bool false), pv (undef), pv (undef), pv (undef), pv (undef), pv (undef), pv (undef), pv (.bool false), pv (.bool false), pv (undef), pv (.bool false)]) (Λ := [blk g24 35 cs22, blk g19 31 cs17, blk g14 25 cs12]) hs (by kernel_rfl) (by kernel_rfl) (by kernel_rfl) ⟨⟨⟨⟨⟨⟨⟨⟨⟨⟨⟨⟨⟨⟨⟨⟨⟨⟨⟨⟨⟨⟨⟨⟨⟨⟨⟨⟨⟨⟨⟨⟨⟨trivial, ?_⟩, ?_⟩, ?_⟩, ?_⟩, ?_⟩, ?_⟩, ?_⟩, ?_⟩, ?_⟩, ?_⟩, ?_⟩, ?_⟩, ?_⟩, ?_⟩, ?_⟩, ?_⟩, ?_⟩, ?_⟩, ?_⟩, ?_⟩, ?_⟩, ?_⟩, ?_⟩, ?_⟩, ?_⟩, ?_⟩, ?_⟩, ?_⟩, ?_⟩, ?_⟩, ?_⟩, ?_⟩, ?_⟩ ?_
    {
    intro ρ w Γx Λx hs hu hp
    refine WL.fieldAddr (m := 4) ((hu 7 rfl).trans h26_7) FA35_1 rfl ?_
    exact WL.nil ⟨rfl, _, rfl, rfl, hs.cutG 0 0⟩ }
    {
    intro ρ w Γx Λx hs hu hp
    have e430 : ρ 62 = .pointer (some ⟨g24, 4, none⟩) := (hp 0 rfl).1
    refine WL.loadF (z := x21.Entries) F_index_Index_Entries hs (Λx.length + 0) (getApp rfl) (Γx.length + 0) (getApp rfl) rfl TI33 (.inr rfl) e430 rfl (fun v32 hs => ?_)
    obtain ⟨a33, c34, rfl⟩ := hs.slice 0 rfl
    have hs := hs.add (it := vl (tSlice t_index_Entry) x21.Entries (.slice a33 (x21.Entries).length c34)) fun ok hA => hA.get 0 rfl
    exact WL.nil ⟨rfl, _, rfl, ⟨(a33, c34), rfl⟩, hs.cutG 1 1⟩ }
    {
    intro ρ w Γx Λx hs hu hp
    refine WL.loadAll hs (Λx.length + 1) (getApp rfl) TI31 ((hu 6 rfl).trans h26_6) hl18 ?_
    exact WL.nil ⟨rfl, _, rfl, rfl, hs.cutG 0 0⟩ }
    {
    intro ρ w Γx Λx hs hu hp
    refine WL.loadAll hs (Λx.length + 2) (getApp rfl) TI25 ((hu 5 rfl).trans h26_5) hl13 ?_
    exact WL.nil ⟨rfl, _, rfl, rfl, hs.cutG 0 0⟩ }
    {
    intro ρ w Γx Λx hs hu hp
    have e431 : ρ 64 = .agg cs17.toArray := (hp 2 rfl).1
    have e432 : ρ 65 = .agg cs12.toArray := (hp 3 rfl).1
    refine WL.call (vs := [.agg cs17.toArray, .agg cs12.toArray]) hs FN17 ⟨e431, ⟨e432, trivial⟩⟩ (fun ok hA => esref32_Build.callc (x1 := x16) (x5 := x11) hxx35 (hA.get (Γx.length + 1) (getApp rfl)) (hA.get (Γx.length + 2) (getApp rfl))) ?_
    rintro ⟨a36, c37⟩ w hs
    have hs := hs.add (it := vl (tSlice t_elasticstoreref32_Entry) x35 (.slice a36 x35.length c37)) fun ok hA => hA.get 0 rfl
    exact WL.nil ⟨rfl, _, rfl, ⟨(a36, c37), rfl⟩, hs.cutG 1 1⟩ }
    {
    intro ρ w Γx Λx hs hu hp
    obtain ⟨⟨⟨a433, c434⟩, e435r⟩, hm436⟩ := hp 1 rfl
    have e435 : ρ 63 = .slice a433 (x21.Entries).length c434 := e435r
    rw [e435r] at hm436
    have hs := hs.memo1 (it := vl (tSlice t_index_Entry) x21.Entries (.slice a433 (x21.Entries).length c434)) (List.mem_append.2 (.inl (hm436 _ (List.mem_of_getElem? (i := 0) rfl))))
    obtain ⟨⟨⟨a437, c438⟩, e439r⟩, hm440⟩ := hp 4 rfl
    have e439 : ρ 66 = .slice a437 x35.length c438 := e439r
    rw [e439r] at hm440
    have hs := hs.memo1 (it := vl (tSlice t_elasticstoreref32_Entry) x35 (.slice a437 x35.length c438)) (List.mem_cons_of_mem _ (List.mem_append.2 (.inl (hm440 _ (List.mem_of_getElem? (i := 0) rfl)))))
    refine WL.call (vs := [.slice a433 (x21.Entries).length c434, .slice a437 x35.length c438]) hs FN16 ⟨e435, ⟨e439, trivial⟩⟩ (fun ok hA => eslaw32_same.calls (x1 := x21.Entries) (x4 := x35) hxx38 (hA.get 1 rfl) (hA.get 0 rfl)) ?_
    rintro _ w hs
    exact WL.nil ⟨rfl, _, rfl, rfl, hs.cutG 0 2⟩ }
    {
    intro ρ w Γx Λx hs hu hp
    have e441 : ρ 67 = .bool x38 := (hp 5 rfl).1
    refine WL.move (v := .bool x38) e441 ?_
    exact WL.nil ⟨rfl, _, rfl, rfl, hs.cutG 0 0⟩ }
    {
    intro ρ w Γx Λx hs hu hp
    have e442 : ρ 68 = .bool x38 := (hp 6 rfl).1
    refine WL.pass ((wanted_of rfl rfl (bool_tr e442 hc39)).trans rfl) rfl ?_
    exact WL.nil ⟨rfl, _, rfl, rfl, hs.cutG 0 0⟩ }
    {
    intro ρ w Γx Λx hs hu hp
    have e443 : ρ 69 = undef := (hp 7 rfl).1
    have e444 : ρ 68 = .bool x38 := (hp 6 rfl).1
    refine WL.pass ((wanted_of rfl rfl (bool_tr e444 hc39)).trans rfl) rfl ?_
    exact WL.nil ⟨rfl, _, rfl, rfl, hs.cutG 0 0⟩ }
    {
    intro ρ w Γx Λx hs hu hp
    have e445 : ρ 70 = undef := (hp 8 rfl).1
    have e446 : ρ 68 = .bool x38 := (hp 6 rfl).1
    refine WL.pass ((wanted_of rfl rfl (bool_tr e446 hc39)).trans rfl) rfl ?_
    exact WL.nil ⟨rfl, _, rfl, rfl, hs.cutG 0 0⟩ }
    {
    intro ρ w Γx Λx hs hu hp
    have e447 : ρ 68 = .bool x38 := (hp 6 rfl).1
    refine WL.pass ((wanted_of rfl rfl (bool_tr e447 hc39)).trans rfl) rfl ?_
    exact WL.nil ⟨rfl, _, rfl, rfl, hs.cutG 0 0⟩ }
    {
    intro ρ w Γx Λx hs hu hp
    have e448 : ρ 72 = undef := (hp 10 rfl).1
    have e449 : ρ 68 = .bool x38 := (hp 6 rfl).1
    refine WL.pass ((wanted_of rfl rfl (bool_tr e449 hc39)).trans rfl) rfl ?_
    exact WL.nil ⟨rfl, _, rfl, rfl, hs.cutG 0 0⟩ }
    {
    intro ρ w Γx Λx hs hu hp
    have e450 : ρ 71 = undef := (hp 9 rfl).1
    have e451 : ρ 73 = undef := (hp 11 rfl).1
    have e452 : ρ 68 = .bool x38 := (hp 6 rfl).1
    refine WL.pass ((wanted_of rfl rfl (bool_tr e452 hc39)).trans rfl) rfl ?_
    exact WL.nil ⟨rfl, _, rfl, rfl, hs.cutG 0 0⟩ }
    {
    intro ρ w Γx Λx hs hu hp
    have e453 : ρ 68 = .bool x38 := (hp 6 rfl).1
    have e454 : ρ 74 = undef := (hp 12 rfl).1
    refine WL.pickF (v := .bool false) (bool_tr e453 hc39) rfl ?_
    exact WL.nil ⟨rfl, _, rfl, rfl, hs.cutG 0 0⟩ }
    {
    intro ρ w Γx Λx hs hu hp
    have e455 : ρ 75 = .bool false := (hp 13 rfl).1
    refine WL.move (v := .bool false) e455 ?_
    exact WL.nil ⟨rfl, _, rfl, rfl, hs.cutG 0 0⟩ }
    {
    intro ρ w Γx Λx hs hu hp
    have e456 : ρ 76 = .bool false := (hp 14 rfl).1
    refine WL.pass ((wanted_of rfl rfl e456).trans rfl) rfl ?_
    exact WL.nil ⟨rfl, _, rfl, rfl, hs.cutG 0 0⟩ }
    {
    intro ρ w Γx Λx hs hu hp
    have e457 : ρ 77 = undef := (hp 15 rfl).1
    have e458 : ρ 76 = .bool false := (hp 14 rfl).1
    refine WL.pass ((wanted_of rfl rfl e458).trans rfl) rfl ?_
    exact WL.nil ⟨rfl, _, rfl, rfl, hs.cutG 0 0⟩ }
    {
    intro ρ w Γx Λx hs hu hp
    have e459 : ρ 78 = undef := (hp 16 rfl).1
    have e460 : ρ 76 = .bool false := (hp 14 rfl).1
    refine WL.pass ((wanted_of rfl rfl e460).trans rfl) rfl ?_
    exact WL.nil ⟨rfl, _, rfl, rfl, hs.cutG 0 0⟩ }
    {
    intro ρ w Γx Λx hs hu hp
    have e461 : ρ 76 = .bool false := (hp 14 rfl).1
    refine WL.pass ((wanted_of rfl rfl e461).trans rfl) rfl ?_
    exact WL.nil ⟨rfl, _, rfl, rfl, hs.cutG 0 0⟩ }
    {
    intro ρ w Γx Λx hs hu hp
    have e462 : ρ 80 = undef := (hp 18 rfl).1
    have e463 : ρ 76 = .bool false := (hp 14 rfl).1
    refine WL.pass ((wanted_of rfl rfl e463).trans rfl) rfl ?_
    exact WL.nil ⟨rfl, _, rfl, rfl, hs.cutG 0 0⟩ }
    {
    intro ρ w Γx Λx hs hu hp
    have e464 : ρ 79 = undef := (hp 17 rfl).1
    have e465 : ρ 81 = undef := (hp 19 rfl).1
    have e466 : ρ 76 = .bool false := (hp 14 rfl).1
    refine WL.pass ((wanted_of rfl rfl e466).trans rfl) rfl ?_
    exact WL.nil ⟨rfl, _, rfl, rfl, hs.cutG 0 0⟩ }
    {
    intro ρ w Γx Λx hs hu hp
    have e467 : ρ 76 = .bool false := (hp 14 rfl).1
    have e468 : ρ 82 = undef := (hp 20 rfl).1
    refine WL.pickF (v := .bool false) e467 rfl ?_
    exact WL.nil ⟨rfl, _, rfl, rfl, hs.cutG 0 0⟩ }
    {
    intro ρ w Γx Λx hs hu hp
    have e469 : ρ 83 = .bool false := (hp 21 rfl).1
    refine WL.move (v := .bool false) e469 ?_
    exact WL.nil ⟨rfl, _, rfl, rfl, hs.cutG 0 0⟩ }
    {
    intro ρ w Γx Λx hs hu hp
    have e470 : ρ 84 = .bool false := (hp 22 rfl).1
    refine WL.pass ((wanted_of rfl rfl e470).trans rfl) rfl ?_
    exact WL.nil ⟨rfl, _, rfl, rfl, hs.cutG 0 0⟩ }
    {
    intro ρ w Γx Λx hs hu hp
    have e471 : ρ 85 = undef := (hp 23 rfl).1
    have e472 : ρ 84 = .bool false := (hp 22 rfl).1
    refine WL.pass ((wanted_of rfl rfl e472).trans rfl) rfl ?_
    exact WL.nil ⟨rfl, _, rfl, rfl, hs.cutG 0 0⟩ }
    {
    intro ρ w Γx Λx hs hu hp
    have e473 : ρ 86 = undef := (hp 24 rfl).1
    have e474 : ρ 84 = .bool false := (hp 22 rfl).1
    refine WL.pass ((wanted_of rfl rfl e474).trans rfl) rfl ?_
    exact WL.nil ⟨rfl, _, rfl, rfl, hs.cutG 0 0⟩ }
    {
    intro ρ w Γx Λx hs hu hp
    have e475 : ρ 84 = .bool false := (hp 22 rfl).1
    refine WL.pass ((wanted_of rfl rfl e475).trans rfl) rfl ?_
    exact WL.nil ⟨rfl, _, rfl, rfl, hs.cutG 0 0⟩ }
    {
    intro ρ w Γx Λx hs hu hp
    have e476 : ρ 88 = undef := (hp 26 rfl).1
    have e477 : ρ 84 = .bool false := (hp 22 rfl).1
    refine WL.pass ((wanted_of rfl rfl e477).trans rfl) rfl ?_
    exact WL.nil ⟨rfl, _, rfl, rfl, hs.cutG 0 0⟩ }
    {
    intro ρ w Γx Λx hs hu hp
    have e478 : ρ 87 = undef := (hp 25 rfl).1
    have e479 : ρ 89 = undef := (hp 27 rfl).1
    have e480 : ρ 84 = .bool false := (hp 22 rfl).1
    refine WL.pass ((wanted_of rfl rfl e480).trans rfl) rfl ?_
    exact WL.nil ⟨rfl, _, rfl, rfl, hs.cutG 0 0⟩ }
    {
    intro ρ w Γx Λx hs hu hp
    have e481 : ρ 84 = .bool false := (hp 22 rfl).1
    have e482 : ρ 90 = undef := (hp 28 rfl).1
    refine WL.pickF (v := .bool false) e481 rfl ?_
    exact WL.nil ⟨rfl, _, rfl, rfl, hs.cutG 0 0⟩ }
    {
    intro ρ w Γx Λx hs hu hp
    have e483 : ρ 91 = .bool false := (hp 29 rfl).1
    refine WL.move (v := .bool false) e483 ?_
    exact WL.nil ⟨rfl, _, rfl, rfl, hs.cutG 0 0⟩ }
    {
    intro ρ w Γx Λx hs hu hp
    have e484 : ρ 92 = .bool false := (hp 30 rfl).1
    refine WL.pass ((wanted_of rfl rfl e484).trans rfl) rfl ?_
    exact WL.nil ⟨rfl, _, rfl, rfl, hs.cutG 0 0⟩ }
    {
    intro ρ w Γx Λx hs hu hp
    have e485 : ρ 92 = .bool false := (hp 30 rfl).1
    have e486 : ρ 93 = undef := (hp 31 rfl).1
    refine WL.pickF (v := .bool false) e485 rfl ?_
    exact WL.nil ⟨rfl, _, rfl, rfl, hs.cutG 0 0⟩ }
    {
    intro ρ w hs hu487 hp
    obtain ⟨⟨⟨⟨⟨⟨⟨⟨⟨⟨⟨⟨⟨⟨⟨⟨⟨⟨⟨⟨⟨⟨⟨⟨⟨⟨⟨⟨⟨⟨⟨⟨⟨_, hp0_⟩, hp1_⟩, hp2_⟩, hp3_⟩, hp4_⟩, hp5_⟩, hp6_⟩, hp7_⟩, hp8_⟩, hp9_⟩, hp10_⟩, hp11_⟩, hp12_⟩, hp13_⟩, hp14_⟩, hp15_⟩, hp16_⟩, hp17_⟩, hp18_⟩, hp19_⟩, hp20_⟩, hp21_⟩, hp22_⟩, hp23_⟩, hp24_⟩, hp25_⟩, hp26_⟩, hp27_⟩, hp28_⟩, hp29_⟩, hp30_⟩, hp31_⟩, hp32_⟩ := hp
    have hs : St ok (bz w0) w [vl (tSlice t_elasticstoreref32_Entry) x35 (ρ 66), vl (tSlice t_index_Entry) x21.Entries (ρ 63), vl t_index_Index x21 (.agg cs22.toArray), vl t_schema_Field x16 (.agg cs17.toArray), vl t_fold_Store x11 (.agg cs12.toArray)] [blk g24 35 cs22, blk g19 31 cs17, blk g14 25 cs12] := hs
    have e488 : ρ 94 = .bool false := hp32_
    have e489 : ρ 93 = undef := hp31_
    have e490 : ρ 92 = .bool false := hp30_
    have e491 : ρ 91 = .bool false := hp29_
    have e492 : ρ 90 = undef := hp28_
    have e493 : ρ 89 = undef := hp27_
    have e494 : ρ 88 = undef := hp26_
    have e495 : ρ 87 = undef := hp25_
    have e496 : ρ 86 = undef := hp24_
    have e497 : ρ 85 = undef := hp23_
    have e498 : ρ 84 = .bool false := hp22_
    have e499 : ρ 83 = .bool false := hp21_
    have e500 : ρ 82 = undef := hp20_
    have e501 : ρ 81 = undef := hp19_
    have e502 : ρ 80 = undef := hp18_
    have e503 : ρ 79 = undef := hp17_
    have e504 : ρ 78 = undef := hp16_
    have e505 : ρ 77 = undef := hp15_
    have e506 : ρ 76 = .bool false := hp14_
    have e507 : ρ 75 = .bool false := hp13_
    have e508 : ρ 74 = undef := hp12_
    have e509 : ρ 73 = undef := hp11_
    have e510 : ρ 72 = undef := hp10_
    have e511 : ρ 71 = undef := hp9_
    have e512 : ρ 70 = undef := hp8_
    have e513 : ρ 69 = undef := hp7_
    have e514 : ρ 68 = .bool x38 := hp6_
    have e515 : ρ 67 = .bool x38 := hp5_
    obtain ⟨⟨a516, c517⟩, e518⟩ := hp4_
    have e518 : ρ 66 = .slice a516 x35.length c517 := e518
    try rw [e518] at hs
    have e519 : ρ 65 = .agg cs12.toArray := hp3_
    have e520 : ρ 64 = .agg cs17.toArray := hp2_
    obtain ⟨⟨a521, c522⟩, e523⟩ := hp1_
    have e523 : ρ 63 = .slice a521 (x21.Entries).length c522 := e523
    try rw [e523] at hs
    have e524 : ρ 62 = .pointer (some ⟨g24, 4, none⟩) := hp0_
    refine WA.step [33] (by kernel_rfl) (by simp) ⟨?_, trivial⟩
    refine WL.assign (v := .bool false) e488 ?_
    refine WL.nil ⟨rfl, _, rfl, ?_⟩
    refine WA.done (by kernel_rfl) ?_
    exact Jk31 false _ _ rfl ((hs.mask []).pick []) hf } }
  refine W.seqK fun K525 hK525 => ?_
  refine W.region ?_
  refine WL.assign (v := .int .i64 0) rfl ?_
  refine WL.nil ?_
  refine hK525 _ _ ?_
  refine W.block ?_
  obtain ⟨bs528, hbs528, hfs528⟩ := bindE hf
  refine W.loop hbs528 (fun s ρ w => match s with | x527 => ρ 5 = .pointer (some ⟨g14, 0, none⟩) ∧ ρ 6 = .pointer (some ⟨g19, 0, none⟩) ∧ ρ 7 = .pointer (some ⟨g24, 0, none⟩) ∧ ρ 8 = .int .i64 x527 ∧ St ok (bz w0) w [vl t_index_Index x21 (.agg cs22.toArray), vl t_schema_Field x16 (.agg cs17.toArray), vl t_fold_Store x11 (.agg cs12.toArray)] [blk g24 35 cs22, blk g19 31 cs17, blk g14 25 cs12]) ⟨rfl, rfl, rfl, rfl, (hs.mask [true, true, true]).pick [0, 1, 2]⟩ ?_
  intro x527 ρ w os528 hI hf hbbs528
  obtain ⟨h526_5, h526_6, h526_7, h526_8, hs⟩ := hI
  unfold eslaw32_IndexBuild.l2 at hf
  refine W.seqK fun K529 hK529 => ?_
  refine W.seqK fun K530 hK530 => ?_
  refine W.region ?_
  refine WL.move (v := .int .i64 x527) h526_8 ?_
  refine WL.fieldAddr (m := 0) h526_5 FA25_0 rfl ?_
  refine WL.loadF (z := x11.Objects) F_fold_Store_Objects hs 2 rfl 2 rfl rfl TI23 (.inr rfl) rfl rfl (fun v531 hs => ?_)
  obtain ⟨a532, c533, rfl⟩ := hs.slice 0 rfl
  refine WL.len (v := .slice a532 (x11.Objects).length c533) rfl (len_slice UN23) ?_
  refine WL.bin (v := .bool (decide (x527 < ((x11.Objects).length : Int)))) rfl rfl (ib_lss _ _ _) ?_
  refine WL.nil ?_
  refine hK530 _ _ ?_
  rcases iteE hf with ⟨hc534, hf⟩ | ⟨hc534, hf⟩
  {
  refine W.cond_true (bool_tr rfl hc534) ?_
  refine W.skip ?_
  refine hK529 _ _ ?_
  refine W.seqK fun K535 hK535 => ?_
  have Jk537 : ∀  (ρ : Env) (w : World), ρ 5 = .pointer (some ⟨g14, 0, none⟩) → ρ 6 = .pointer (some ⟨g19, 0, none⟩) → ρ 7 = .pointer (some ⟨g24, 0, none⟩) → ρ 8 = .int .i64 x527 → St ok (bz w0) w [vl t_index_Index x21 (.agg cs22.toArray), vl t_schema_Field x16 (.agg cs17.toArray), vl t_fold_Store x11 (.agg cs12.toArray)] [blk g24 35 cs22, blk g19 31 cs17, blk g14 25 cs12] → eslaw32_IndexBuild.j3 x527 = some os528 → K535 ρ w := by
    intro  ρ w h536_5 h536_6 h536_7 h536_8 hs hf
    refine hK535 _ _ ?_
    unfold eslaw32_IndexBuild.j3 at hf
    refine W.region ?_
    refine WL.move (v := .int .i64 x527) h536_8 ?_
    obtain ⟨x538, ex538, hf⟩ := letE hf
    refine WL.bin (v := .int .i64 x538) rfl rfl (ib_as ex538 (ib_add _ _ _)) ?_
    refine WL.assign (v := .int .i64 x538) rfl ?_
    refine WL.nil ?_
    exact ⟨_, (Option.some.inj hf).symm, h536_5, h536_6, h536_7, rfl, (hs.mask [true, true, true]).pick [0, 1, 2]⟩
  refine W.block ?_
  refine W.seqK fun K539 hK539 => ?_
  obtain ⟨x543, hxx543, hf⟩ := bindE hf
  obtain ⟨x548, hxx548, hf⟩ := bindE hf
  obtain ⟨x555, hxx555, hf⟩ := bindE hf
  obtain ⟨x560, hxx560, hf⟩ := bindE hf
  refine W.any (by kernel_rfl) 14 2 [true, true, true, true, true, true, true, true, true, true, true, true, true, true, false, false] rfl rfl (poAt [pv (.agg cs17.toArray), pv (.pointer (some ⟨g14, 0, none⟩)), pq (fun y : (Option Addr × Nat) => .slice y.1 (x11.Objects).length y.2) (fun v => [vl (tSlice t_fold_Object) x11.Objects v]) (fun v => []), pv (.int .i64 x527), pq (fun y : Addr => .pointer (some y)) (fun v => [pl t_fold_Object x543 (adOf v)]) (fun v => []), pq (fun y : List Value => .agg y.toArray) (fun v => [vl t_fold_Object x543 v]) (fun v => []), pq (fun y : (Option Addr × Nat × Nat) => .slice y.1 y.2.1 y.2.2) (fun v => []) (fun v => [own t_index_Key 47 v x548]), pv (.agg cs17.toArray), pv (.pointer (some ⟨g14, 0, none⟩)), pq (fun y : (Option Addr × Nat) => .slice y.1 (x11.Objects).length y.2) (fun v => [vl (tSlice t_fold_Object) x11.Objects v]) (fun v => []), pv (.int .i64 x527), pq (fun y : Addr => .pointer (some y)) (fun v => [pl t_fold_Object x555 (adOf v)]) (fun v => []), pq (fun y : List Value => .agg y.toArray) (fun v => [vl t_fold_Object x555 v]) (fun v => []), pq (fun y : (Option Addr × Nat × Nat) => .slice y.1 y.2.1 y.2.2) (fun v => []) (fun v => [own t_elasticstoreref32_Key 45 v x560])]) (Λ := [blk g24 35 cs22, blk g19 31 cs17, blk g14 25 cs12]) hs (by kernel_rfl) (by kernel_rfl) (by kernel_rfl) ⟨⟨⟨⟨⟨⟨⟨⟨⟨⟨⟨⟨⟨⟨trivial, ?_⟩, ?_⟩, ?_⟩, ?_⟩, ?_⟩, ?_⟩, ?_⟩, ?_⟩, ?_⟩, ?_⟩, ?_⟩, ?_⟩, ?_⟩, ?_⟩ ?_
  {
  intro ρ w Γx Λx hs hu hp
  refine WL.loadAll hs (Λx.length + 1) (getApp rfl) TI31 ((hu 6 rfl).trans h526_6) hl18 ?_
  exact WL.nil ⟨rfl, _, rfl, rfl, hs.cutG 0 0⟩ }
  {
  intro ρ w Γx Λx hs hu hp
  refine WL.fieldAddr (m := 0) ((hu 5 rfl).trans h526_5) FA25_0 rfl ?_
  exact WL.nil ⟨rfl, _, rfl, rfl, hs.cutG 0 0⟩ }
  {
  intro ρ w Γx Λx hs hu hp
  have e564 : ρ 28 = .pointer (some ⟨g14, 0, none⟩) := (hp 1 rfl).1
  refine WL.loadF (z := x11.Objects) F_fold_Store_Objects hs (Λx.length + 2) (getApp rfl) (Γx.length + 3) (getApp rfl) rfl TI23 (.inr rfl) e564 rfl (fun v540 hs => ?_)
  obtain ⟨a541, c542, rfl⟩ := hs.slice 0 rfl
  have hs := hs.add (it := vl (tSlice t_fold_Object) x11.Objects (.slice a541 (x11.Objects).length c542)) fun ok hA => hA.get 0 rfl
  exact WL.nil ⟨rfl, _, rfl, ⟨(a541, c542), rfl⟩, hs.cutG 1 1⟩ }
  {
  intro ρ w Γx Λx hs hu hp
  refine WL.move (v := .int .i64 x527) ((hu 8 rfl).trans h526_8) ?_
  exact WL.nil ⟨rfl, _, rfl, rfl, hs.cutG 0 0⟩ }
  {
  intro ρ w Γx Λx hs hu hp
  obtain ⟨⟨⟨a565, c566⟩, e567r⟩, hm568⟩ := hp 2 rfl
  have e567 : ρ 29 = .slice a565 (x11.Objects).length c566 := e567r
  rw [e567r] at hm568
  have hs := hs.memo1 (it := vl (tSlice t_fold_Object) x11.Objects (.slice a565 (x11.Objects).length c566)) (List.mem_append.2 (.inl (hm568 _ (List.mem_of_getElem? (i := 0) rfl))))
  have e569 : ρ 30 = .int .i64 x527 := (hp 3 rfl).1
  refine WL.indexAddr hs 0 rfl UN23 TI41 e567 e569 hxx543 (fun ad544 hs => ?_)
  have hs := hs.add (it := pl t_fold_Object x543 ad544) fun ok hA => hA.get 0 rfl
  exact WL.nil ⟨rfl, _, rfl, ⟨ad544, rfl⟩, hs.cutG 1 2⟩ }
  {
  intro ρ w Γx Λx hs hu hp
  obtain ⟨⟨ad570, e571r⟩, hm572⟩ := hp 4 rfl
  have e571 : ρ 31 = .pointer (some ad570) := e571r
  rw [e571r] at hm572
  have hs := hs.memo1 (it := pl t_fold_Object x543 ad570) (List.mem_append.2 (.inl (hm572 _ (List.mem_of_getElem? (i := 0) rfl))))
  refine WL.loadP hs 0 rfl TI41 (.inl rfl) e571 (fun v545 hs => ?_)
  obtain ⟨cs546, hl547, rfl⟩ := hs.aggv (n := 2) 0 rfl rfl rfl
  have hs := hs.add (it := vl t_fold_Object x543 (.agg cs546.toArray)) fun ok hA => hA.get 0 rfl
  exact WL.nil ⟨rfl, _, rfl, ⟨cs546, rfl⟩, hs.cutG 1 2⟩ }
  {
  intro ρ w Γx Λx hs hu hp
  have e573 : ρ 27 = .agg cs17.toArray := (hp 0 rfl).1
  obtain ⟨⟨cs574, e576r⟩, hm577⟩ := hp 5 rfl
  have e576 : ρ 32 = .agg cs574.toArray := e576r
  rw [e576r] at hm577
  have hs := hs.memo1 (it := vl t_fold_Object x543 (.agg cs574.toArray)) (List.mem_append.2 (.inl (hm577 _ (List.mem_of_getElem? (i := 0) rfl))))
  have hl575 := hs.agglen (n := 2) 0 rfl rfl rfl
  refine WL.call (vs := [.agg cs17.toArray, .agg cs574.toArray]) hs FN13 ⟨e573, ⟨e576, trivial⟩⟩ (fun ok hA => index_Keys.calls (x1 := x16) (x5 := x543) hxx548 (hA.get (Γx.length + 2 + 1) (getApp1 rfl)) (hA.get 0 rfl)) ?_
  rintro ⟨a549, n550, c551⟩ w hs
  exact WL.nil ⟨rfl, _, rfl, ⟨(a549, n550, c551), rfl⟩, hs.cutG 0 1⟩ }
  {
  intro ρ w Γx Λx hs hu hp
  refine WL.loadAll hs (Λx.length + 1) (getApp rfl) TI31 ((hu 6 rfl).trans h526_6) hl18 ?_
  exact WL.nil ⟨rfl, _, rfl, rfl, hs.cutG 0 0⟩ }
  {
  intro ρ w Γx Λx hs hu hp
  refine WL.fieldAddr (m := 0) ((hu 5 rfl).trans h526_5) FA25_0 rfl ?_
  exact WL.nil ⟨rfl, _, rfl, rfl, hs.cutG 0 0⟩ }
  {
  intro ρ w Γx Λx hs hu hp
  have e578 : ρ 35 = .pointer (some ⟨g14, 0, none⟩) := (hp 8 rfl).1
  refine WL.loadF (z := x11.Objects) F_fold_Store_Objects hs (Λx.length + 2) (getApp rfl) (Γx.length + 3) (getApp rfl) rfl TI23 (.inr rfl) e578 rfl (fun v552 hs => ?_)
  obtain ⟨a553, c554, rfl⟩ := hs.slice 0 rfl
  have hs := hs.add (it := vl (tSlice t_fold_Object) x11.Objects (.slice a553 (x11.Objects).length c554)) fun ok hA => hA.get 0 rfl
  exact WL.nil ⟨rfl, _, rfl, ⟨(a553, c554), rfl⟩, hs.cutG 1 1⟩ }
  {
  intro ρ w Γx Λx hs hu hp
  refine WL.move (v := .int .i64 x527) ((hu 8 rfl).trans h526_8) ?_
  exact WL.nil ⟨rfl, _, rfl, rfl, hs.cutG 0 0⟩ }
  {
  intro ρ w Γx Λx hs hu hp
  obtain ⟨⟨⟨a579, c580⟩, e581r⟩, hm582⟩ := hp 9 rfl
  have e581 : ρ 36 = .slice a579 (x11.Objects).length c580 := e581r
  rw [e581r] at hm582
  have hs := hs.memo1 (it := vl (tSlice t_fold_Object) x11.Objects (.slice a579 (x11.Objects).length c580)) (List.mem_append.2 (.inl (hm582 _ (List.mem_of_getElem? (i := 0) rfl))))
  have e583 : ρ 37 = .int .i64 x527 := (hp 10 rfl).1
  refine WL.indexAddr hs 0 rfl UN23 TI41 e581 e583 hxx555 (fun ad556 hs => ?_)
  have hs := hs.add (it := pl t_fold_Object x555 ad556) fun ok hA => hA.get 0 rfl
  exact WL.nil ⟨rfl, _, rfl, ⟨ad556, rfl⟩, hs.cutG 1 2⟩ }
  {
  intro ρ w Γx Λx hs hu hp
  obtain ⟨⟨ad584, e585r⟩, hm586⟩ := hp 11 rfl
  have e585 : ρ 38 = .pointer (some ad584) := e585r
  rw [e585r] at hm586
  have hs := hs.memo1 (it := pl t_fold_Object x555 ad584) (List.mem_append.2 (.inl (hm586 _ (List.mem_of_getElem? (i := 0) rfl))))
  refine WL.loadP hs 0 rfl TI41 (.inl rfl) e585 (fun v557 hs => ?_)
  obtain ⟨cs558, hl559, rfl⟩ := hs.aggv (n := 2) 0 rfl rfl rfl
  have hs := hs.add (it := vl t_fold_Object x555 (.agg cs558.toArray)) fun ok hA => hA.get 0 rfl
  exact WL.nil ⟨rfl, _, rfl, ⟨cs558, rfl⟩, hs.cutG 1 2⟩ }
  {
  intro ρ w Γx Λx hs hu hp
  have e587 : ρ 34 = .agg cs17.toArray := (hp 7 rfl).1
  obtain ⟨⟨cs588, e590r⟩, hm591⟩ := hp 12 rfl
  have e590 : ρ 39 = .agg cs588.toArray := e590r
  rw [e590r] at hm591
  have hs := hs.memo1 (it := vl t_fold_Object x555 (.agg cs588.toArray)) (List.mem_append.2 (.inl (hm591 _ (List.mem_of_getElem? (i := 0) rfl))))
  have hl589 := hs.agglen (n := 2) 0 rfl rfl rfl
  refine WL.call (vs := [.agg cs17.toArray, .agg cs588.toArray]) hs FN14 ⟨e587, ⟨e590, trivial⟩⟩ (fun ok hA => esref32_Keys.calls (x1 := x16) (x5 := x555) hxx560 (hA.get (Γx.length + 2 + 1) (getApp1 rfl)) (hA.get 0 rfl)) ?_
  rintro ⟨a561, n562, c563⟩ w hs
  exact WL.nil ⟨rfl, _, rfl, ⟨(a561, n562, c563), rfl⟩, hs.cutG 0 1⟩ }
  {
  intro ρ w hs hu592 hp
  obtain ⟨⟨⟨⟨⟨⟨⟨⟨⟨⟨⟨⟨⟨⟨_, hp0_⟩, hp1_⟩, hp2_⟩, hp3_⟩, hp4_⟩, hp5_⟩, hp6_⟩, hp7_⟩, hp8_⟩, hp9_⟩, hp10_⟩, hp11_⟩, hp12_⟩, hp13_⟩ := hp
  have hs : St ok (bz w0) w [vl t_fold_Object x555 (ρ 39), pl t_fold_Object x555 (adOf (ρ 38)), vl (tSlice t_fold_Object) x11.Objects (ρ 36), vl t_fold_Object x543 (ρ 32), pl t_fold_Object x543 (adOf (ρ 31)), vl (tSlice t_fold_Object) x11.Objects (ρ 29), vl (tSlice t_fold_Object) x11.Objects (.slice a532 (x11.Objects).length c533), vl t_index_Index x21 (.agg cs22.toArray), vl t_schema_Field x16 (.agg cs17.toArray), vl t_fold_Store x11 (.agg cs12.toArray)] [own t_elasticstoreref32_Key 45 ((ρ 40)) x560, own t_index_Key 47 ((ρ 33)) x548, blk g24 35 cs22, blk g19 31 cs17, blk g14 25 cs12] := hs
  obtain ⟨⟨a593, n595, c594⟩, e596⟩ := hp13_
  have e596 : ρ 40 = .slice a593 n595 c594 := e596
  try rw [e596] at hs
  obtain ⟨cs597, e599⟩ := hp12_
  have e599 : ρ 39 = .agg cs597.toArray := e599
  try rw [e599] at hs
  obtain ⟨ad600, e601⟩ := hp11_
  have e601 : ρ 38 = .pointer (some ad600) := e601
  try rw [e601] at hs
  have e602 : ρ 37 = .int .i64 x527 := hp10_
  obtain ⟨⟨a603, c604⟩, e605⟩ := hp9_
  have e605 : ρ 36 = .slice a603 (x11.Objects).length c604 := e605
  try rw [e605] at hs
  have e606 : ρ 35 = .pointer (some ⟨g14, 0, none⟩) := hp8_
  have e607 : ρ 34 = .agg cs17.toArray := hp7_
  obtain ⟨⟨a608, n610, c609⟩, e611⟩ := hp6_
  have e611 : ρ 33 = .slice a608 n610 c609 := e611
  try rw [e611] at hs
  obtain ⟨cs612, e614⟩ := hp5_
  have e614 : ρ 32 = .agg cs612.toArray := e614
  try rw [e614] at hs
  obtain ⟨ad615, e616⟩ := hp4_
  have e616 : ρ 31 = .pointer (some ad615) := e616
  try rw [e616] at hs
  have e617 : ρ 30 = .int .i64 x527 := hp3_
  obtain ⟨⟨a618, c619⟩, e620⟩ := hp2_
  have e620 : ρ 29 = .slice a618 (x11.Objects).length c619 := e620
  try rw [e620] at hs
  have e621 : ρ 28 = .pointer (some ⟨g14, 0, none⟩) := hp1_
  have e622 : ρ 27 = .agg cs17.toArray := hp0_
  have hl613 := hs.agglen (n := 2) 3 rfl rfl rfl
  have hl598 := hs.agglen (n := 2) 0 rfl rfl rfl
  refine WA.step [14] (by kernel_rfl) (by simp) ⟨?_, trivial⟩
  refine WL.assign (v := .slice a608 n610 c609) e611 ?_
  refine WL.nil ⟨rfl, _, rfl, ?_⟩
  refine WA.step [15] (by kernel_rfl) (by simp) ⟨?_, trivial⟩
  refine WL.assign (v := .slice a593 n595 c594) e596 ?_
  refine WL.nil ⟨rfl, _, rfl, ?_⟩
  refine WA.done (by kernel_rfl) ?_
  refine hK539 _ _ ?_
  refine W.seqK fun K623 hK623 => ?_
  refine W.seqK fun K624 hK624 => ?_
  refine W.region ?_
  refine WL.move (v := .slice a608 n610 c609) rfl ?_
  refine WL.len (v := .slice a608 n610 c609) rfl (len_own hs 1 rfl UN37) ?_
  refine WL.move (v := .slice a593 n595 c594) rfl ?_
  refine WL.len (v := .slice a593 n595 c594) rfl (len_own hs 0 rfl UN42) ?_
  refine WL.bin (v := .bool ((x548.length : Int) != (x560.length : Int))) rfl rfl (ib_neq _ _ _) ?_
  refine WL.nil ?_
  refine hK624 _ _ ?_
  rcases iteE hf with ⟨hc625, hf⟩ | ⟨hc625, hf⟩
  {
  refine W.cond_true (bool_tr rfl hc625) ?_
  refine W.seqK fun K626 hK626 => ?_
  refine W.region ?_
  refine WL.assign (v := .bool false) rfl ?_
  refine WL.nil ?_
  refine hK626 _ _ ?_
  refine W.ret ?_
  have hr := Option.some.inj hf; subst hr
  have hr := hbbs528 _ rfl; subst hr
  have hf := hfs528
  have hr := Option.some.inj hf; subst hr
  exact ⟨_, resOk_one rfl rfl, (), rfl, (hs.mask []).pick []⟩ }
  {
  refine W.cond_false (bool_tr rfl hc625) ?_
  refine W.skip ?_
  refine hK623 _ _ ?_
  refine W.seqK fun K627 hK627 => ?_
  refine W.region ?_
  refine WL.assign (v := .int .i64 0) rfl ?_
  refine WL.nil ?_
  refine hK627 _ _ ?_
  refine W.block ?_
  obtain ⟨bs630, hbs630, hfs630⟩ := bindE hf
  refine W.loop hbs630 (fun s ρ w => match s with | x629 => ρ 5 = .pointer (some ⟨g14, 0, none⟩) ∧ ρ 6 = .pointer (some ⟨g19, 0, none⟩) ∧ ρ 7 = .pointer (some ⟨g24, 0, none⟩) ∧ ρ 8 = .int .i64 x527 ∧ ρ 9 = .slice a608 n610 c609 ∧ ρ 10 = .slice a593 n595 c594 ∧ ρ 11 = .int .i64 x629 ∧ St ok (bz w0) w [vl t_index_Index x21 (.agg cs22.toArray), vl t_schema_Field x16 (.agg cs17.toArray), vl t_fold_Store x11 (.agg cs12.toArray)] [own t_elasticstoreref32_Key 45 (.slice a593 n595 c594) x560, own t_index_Key 47 (.slice a608 n610 c609) x548, blk g24 35 cs22, blk g19 31 cs17, blk g14 25 cs12]) ⟨((hu592 5 rfl).trans h526_5), ((hu592 6 rfl).trans h526_6), ((hu592 7 rfl).trans h526_7), ((hu592 8 rfl).trans h526_8), rfl, rfl, rfl, (hs.mask [true, true, true, true, true]).pick [7, 8, 9]⟩ ?_
  intro x629 ρ w os630 hI hf hbbs630
  obtain ⟨h628_5, h628_6, h628_7, h628_8, h628_9, h628_10, h628_11, hs⟩ := hI
  unfold eslaw32_IndexBuild.l1 at hf
  refine W.seqK fun K631 hK631 => ?_
  refine W.seqK fun K632 hK632 => ?_
  refine W.region ?_
  refine WL.move (v := .int .i64 x629) h628_11 ?_
  refine WL.move (v := .slice a608 n610 c609) h628_9 ?_
  refine WL.len (v := .slice a608 n610 c609) rfl (len_own hs 1 rfl UN37) ?_
  refine WL.bin (v := .bool (decide (x629 < (x548.length : Int)))) rfl rfl (ib_lss _ _ _) ?_
  refine WL.nil ?_
  refine hK632 _ _ ?_
  rcases iteE hf with ⟨hc633, hf⟩ | ⟨hc633, hf⟩
  {
  refine W.cond_true (bool_tr rfl hc633) ?_
  refine W.skip ?_
  refine hK631 _ _ ?_
  refine W.seqK fun K634 hK634 => ?_
  refine W.block ?_
  refine W.seqK fun K635 hK635 => ?_
  obtain ⟨x636, hxx636, hf⟩ := bindE hf
  obtain ⟨x641, hxx641, hf⟩ := bindE hf
  obtain ⟨x644, hxx644, hf⟩ := bindE hf
  refine W.any (by kernel_rfl) 10 0 [true, true, true, true, true, true, true, true, true, true] rfl rfl (poAt [pv (.slice a608 n610 c609), pv (.int .i64 x629), po (fun ad => Go.Proofs.YtpfgdjfiimknlaaGreatL.OwnAt 3 (.slice a608 n610 c609) x629 ad), pq (fun y : List Value => .agg y.toArray) (fun v => [vl t_index_Key x636 v]) (fun v => []), pq (fun y : List Value => .agg y.toArray) (fun v => [vl t_elasticstoreref32_Key x641 v]) (fun v => []), pv (.slice a593 n595 c594), pv (.int .i64 x629), po (fun ad => Go.Proofs.YtpfgdjfiimknlaaGreatL.OwnAt 3 (.slice a593 n595 c594) x629 ad), pq (fun y : List Value => .agg y.toArray) (fun v => [vl t_elasticstoreref32_Key x644 v]) (fun v => []), pv (.bool (!decide ((⟨x641.f_Type, x641.N, x641.S⟩ : elasticstoreref32_Key) = (⟨x644.f_Type, x644.N, x644.S⟩ : elasticstoreref32_Key))))]) (Λ := [own t_elasticstoreref32_Key 45 (.slice a593 n595 c594) x560, own t_index_Key 47 (.slice a608 n610 c609) x548, blk g24 35 cs22, blk g19 31 cs17, blk g14 25 cs12]) hs (by kernel_rfl) (by kernel_rfl) (by kernel_rfl) ⟨⟨⟨⟨⟨⟨⟨⟨⟨⟨trivial, ?_⟩, ?_⟩, ?_⟩, ?_⟩, ?_⟩, ?_⟩, ?_⟩, ?_⟩, ?_⟩, ?_⟩ ?_
  {
  intro ρ w Γx Λx hs hu hp
  refine WL.move (v := .slice a608 n610 c609) ((hu 9 rfl).trans h628_9) ?_
  exact WL.nil ⟨rfl, _, rfl, rfl, hs.cutG 0 0⟩ }
  {
  intro ρ w Γx Λx hs hu hp
  refine WL.move (v := .int .i64 x629) ((hu 11 rfl).trans h628_11) ?_
  exact WL.nil ⟨rfl, _, rfl, rfl, hs.cutG 0 0⟩ }
  {
  intro ρ w Γx Λx hs hu hp
  have e649 : ρ 52 = .slice a608 n610 c609 := (hp 0 rfl).1
  have e650 : ρ 53 = .int .i64 x629 := (hp 1 rfl).1
  refine WL.indexAddrO hs (Λx.length + 1) (getApp rfl) UN37 TI47 e649 e650 hxx636 (fun ad637 hatad637 => ?_)
  exact WL.nil ⟨rfl, _, rfl, ⟨ad637, rfl, hatad637⟩, hs.cutG 0 0⟩ }
  {
  intro ρ w Γx Λx hs hu hp
  obtain ⟨ad652, e651, hatad652⟩ := (hp 2 rfl).1
  have e651 : ρ 54 = .pointer (some ad652) := e651
  refine WL.loadO hs (Λx.length + 1) (getApp rfl) TI47 (.inl rfl) hatad652 hxx636 e651 (fun v638 hs => ?_)
  obtain ⟨cs639, hl640, rfl⟩ := hs.aggv (n := 3) 0 rfl rfl rfl
  have hs := hs.add (it := vl t_index_Key x636 (.agg cs639.toArray)) fun ok hA => hA.get 0 rfl
  exact WL.nil ⟨rfl, _, rfl, ⟨cs639, rfl⟩, hs.cutG 1 1⟩ }
  {
  intro ρ w Γx Λx hs hu hp
  obtain ⟨⟨cs653, e655r⟩, hm656⟩ := hp 3 rfl
  have e655 : ρ 55 = .agg cs653.toArray := e655r
  rw [e655r] at hm656
  have hs := hs.memo1 (it := vl t_index_Key x636 (.agg cs653.toArray)) (List.mem_append.2 (.inl (hm656 _ (List.mem_of_getElem? (i := 0) rfl))))
  have hl654 := hs.agglen (n := 3) 0 rfl rfl rfl
  refine WL.call (vs := [.agg cs653.toArray]) hs FN15 ⟨e655, trivial⟩ (fun ok hA => eslaw32_convert.calls (x1 := x636) hxx641 (hA.get 0 rfl)) ?_
  rintro cs642 w hs
  have hl643 := hs.agglen (n := 3) 0 rfl rfl rfl
  have hs := hs.add (it := vl t_elasticstoreref32_Key x641 (.agg cs642.toArray)) fun ok hA => hA.get 0 rfl
  exact WL.nil ⟨rfl, _, rfl, ⟨cs642, rfl⟩, hs.cutG 1 2⟩ }
  {
  intro ρ w Γx Λx hs hu hp
  refine WL.move (v := .slice a593 n595 c594) ((hu 10 rfl).trans h628_10) ?_
  exact WL.nil ⟨rfl, _, rfl, rfl, hs.cutG 0 0⟩ }
  {
  intro ρ w Γx Λx hs hu hp
  refine WL.move (v := .int .i64 x629) ((hu 11 rfl).trans h628_11) ?_
  exact WL.nil ⟨rfl, _, rfl, rfl, hs.cutG 0 0⟩ }
  {
  intro ρ w Γx Λx hs hu hp
  have e657 : ρ 57 = .slice a593 n595 c594 := (hp 5 rfl).1
  have e658 : ρ 58 = .int .i64 x629 := (hp 6 rfl).1
  refine WL.indexAddrO hs (Λx.length + 0) (getApp rfl) UN42 TI45 e657 e658 hxx644 (fun ad645 hatad645 => ?_)
  exact WL.nil ⟨rfl, _, rfl, ⟨ad645, rfl, hatad645⟩, hs.cutG 0 0⟩ }
  {
  intro ρ w Γx Λx hs hu hp
  obtain ⟨ad660, e659, hatad660⟩ := (hp 7 rfl).1
  have e659 : ρ 59 = .pointer (some ad660) := e659
  refine WL.loadO hs (Λx.length + 0) (getApp rfl) TI45 (.inl rfl) hatad660 hxx644 e659 (fun v646 hs => ?_)
  obtain ⟨cs647, hl648, rfl⟩ := hs.aggv (n := 3) 0 rfl rfl rfl
  have hs := hs.add (it := vl t_elasticstoreref32_Key x644 (.agg cs647.toArray)) fun ok hA => hA.get 0 rfl
  exact WL.nil ⟨rfl, _, rfl, ⟨cs647, rfl⟩, hs.cutG 1 1⟩ }
  {
  intro ρ w Γx Λx hs hu hp
  obtain ⟨⟨cs661, e663r⟩, hm664⟩ := hp 4 rfl
  have e663 : ρ 56 = .agg cs661.toArray := e663r
  rw [e663r] at hm664
  have hs := hs.memo1 (it := vl t_elasticstoreref32_Key x641 (.agg cs661.toArray)) (List.mem_append.2 (.inl (hm664 _ (List.mem_of_getElem? (i := 0) rfl))))
  have hl662 := hs.agglen (n := 3) 0 rfl rfl rfl
  obtain ⟨⟨cs665, e667r⟩, hm668⟩ := hp 8 rfl
  have e667 : ρ 60 = .agg cs665.toArray := e667r
  rw [e667r] at hm668
  have hs := hs.memo1 (it := vl t_elasticstoreref32_Key x644 (.agg cs665.toArray)) (List.mem_cons_of_mem _ (List.mem_append.2 (.inl (hm668 _ (List.mem_of_getElem? (i := 0) rfl)))))
  have hl666 := hs.agglen (n := 3) 0 rfl rfl rfl
  obtain rfl := open_elasticstoreref32_Key hs 1 rfl
  obtain rfl := open_elasticstoreref32_Key hs 0 rfl
  refine WL.eqA e663 e667 EG45 (NQ45 (⟨x641.f_Type, x641.N, x641.S⟩ : elasticstoreref32_Key) (⟨x644.f_Type, x644.N, x644.S⟩ : elasticstoreref32_Key)) ?_
  exact WL.nil ⟨rfl, _, rfl, rfl, hs.cutG 0 2⟩ }
  {
  intro ρ w hs hu669 hp
  obtain ⟨⟨⟨⟨⟨⟨⟨⟨⟨⟨_, hp0_⟩, hp1_⟩, hp2_⟩, hp3_⟩, hp4_⟩, hp5_⟩, hp6_⟩, hp7_⟩, hp8_⟩, hp9_⟩ := hp
  have hs : St ok (bz w0) w [vl t_elasticstoreref32_Key x644 (ρ 60), vl t_elasticstoreref32_Key x641 (ρ 56), vl t_index_Key x636 (ρ 55), vl t_index_Index x21 (.agg cs22.toArray), vl t_schema_Field x16 (.agg cs17.toArray), vl t_fold_Store x11 (.agg cs12.toArray)] [own t_elasticstoreref32_Key 45 (.slice a593 n595 c594) x560, own t_index_Key 47 (.slice a608 n610 c609) x548, blk g24 35 cs22, blk g19 31 cs17, blk g14 25 cs12] := hs
  have e670 : ρ 61 = .bool (!decide ((⟨x641.f_Type, x641.N, x641.S⟩ : elasticstoreref32_Key) = (⟨x644.f_Type, x644.N, x644.S⟩ : elasticstoreref32_Key))) := hp9_
  obtain ⟨cs671, e673⟩ := hp8_
  have e673 : ρ 60 = .agg cs671.toArray := e673
  try rw [e673] at hs
  have e674 : ρ 58 = .int .i64 x629 := hp6_
  have e675 : ρ 57 = .slice a593 n595 c594 := hp5_
  obtain ⟨cs676, e678⟩ := hp4_
  have e678 : ρ 56 = .agg cs676.toArray := e678
  try rw [e678] at hs
  obtain ⟨cs679, e681⟩ := hp3_
  have e681 : ρ 55 = .agg cs679.toArray := e681
  try rw [e681] at hs
  have e682 : ρ 53 = .int .i64 x629 := hp1_
  have e683 : ρ 52 = .slice a608 n610 c609 := hp0_
  have hl680 := hs.agglen (n := 3) 2 rfl rfl rfl
  have hl677 := hs.agglen (n := 3) 1 rfl rfl rfl
  have hl672 := hs.agglen (n := 3) 0 rfl rfl rfl
  refine WA.done (by kernel_rfl) ?_
  refine hK635 _ _ ?_
  rcases iteE hf with ⟨hc684, hf⟩ | ⟨hc684, hf⟩
  {
  refine W.cond_true (bool_tr e670 hc684) ?_
  refine W.seqK fun K685 hK685 => ?_
  refine W.region ?_
  refine WL.assign (v := .bool false) rfl ?_
  refine WL.nil ?_
  refine hK685 _ _ ?_
  refine W.ret ?_
  have hr := Option.some.inj hf; subst hr
  have hr := hbbs630 _ rfl; subst hr
  have hf := hfs630
  have hr := Option.some.inj hf; subst hr
  have hr := hbbs528 _ rfl; subst hr
  have hf := hfs528
  have hr := Option.some.inj hf; subst hr
  exact ⟨_, resOk_one rfl rfl, (), rfl, (hs.mask []).pick []⟩ }
  {
  refine W.cond_false (bool_tr e670 hc684) ?_
  refine W.skip ?_
  refine hK634 _ _ ?_
  refine W.region ?_
  refine WL.move (v := .int .i64 x629) ((hu669 11 rfl).trans h628_11) ?_
  obtain ⟨x686, ex686, hf⟩ := letE hf
  refine WL.bin (v := .int .i64 x686) rfl rfl (ib_as ex686 (ib_add _ _ _)) ?_
  refine WL.assign (v := .int .i64 x686) rfl ?_
  refine WL.nil ?_
  exact ⟨_, (Option.some.inj hf).symm, ((hu669 5 rfl).trans h628_5), ((hu669 6 rfl).trans h628_6), ((hu669 7 rfl).trans h628_7), ((hu669 8 rfl).trans h628_8), ((hu669 9 rfl).trans h628_9), ((hu669 10 rfl).trans h628_10), rfl, (hs.mask [true, true, true, true, true]).pick [3, 4, 5]⟩ } } }
  {
  refine W.cond_false (bool_tr rfl hc633) ?_
  refine W.exit ?_
  have hr := Option.some.inj hf; subst hr
  have hr := hbbs630 _ rfl; subst hr
  have hf := hfs630
  exact Jk537  _ _ h628_5 h628_6 h628_7 h628_8 ((hs.mask [false, false, true, true, true]).pick [0, 1, 2]) hf } } } }
  {
  refine W.cond_false (bool_tr rfl hc534) ?_
  refine W.exit ?_
  have hr := Option.some.inj hf; subst hr
  have hr := hbbs528 _ rfl; subst hr
  have hf := hfs528
  exact Jk27  _ _ h526_5 h526_6 h526_7 ((hs.mask [true, true, true]).pick [1, 2, 3]) hf }
end Go.Proofs.YtpfgdjfiimknlaaGreat
set_option linter.unusedVariables false
set_option linter.unusedSimpArgs false
namespace Go.Proofs.YtpfgdjfiimknlaaGreat
open Go Go.Proofs.YtpfgdjfiimknlaaGreatL
structure GD (n : Nat) (objs : List fold_Object) : Prop where
  asc : SA ON_ objs
  len : objs.length ≤ n
  name : ∀ o ∈ objs, o.Name.length ≤ 1000
  ne : ∀ o ∈ objs, o.Fields ≠ []
  fasc : ∀ o ∈ objs, SA FN_ o.Fields
  flen : ∀ o ∈ objs, o.Fields.length ≤ n
  good : ∀ o ∈ objs, ∀ y ∈ o.Fields, GF n y
theorem GD.mono {n m : Nat} {objs : List fold_Object} (h : GD n objs) (hm : n ≤ m) : GD m objs :=
  ⟨h.asc, Nat.le_trans h.len hm, h.name, h.ne, h.fasc, fun o ho => Nat.le_trans (h.flen o ho) hm, fun o ho y hy => (h.good o ho y hy).mono hm⟩
theorem GD_nil (n : Nat) : GD n [] := ⟨List.Pairwise.nil, Nat.zero_le _, by simp, by simp, by simp, by simp, by simp⟩
def appT (u : api_Update) (objs : List fold_Object) : List fold_Object := u.Effects.foldl (effT u) objs
def foldT (s : List api_Update) (objs : List fold_Object) : List fold_Object := s.foldl (fun o u => appT u o) objs
theorem apply_ex {u : api_Update} {n : Nat} {x : fold_B} (h : BI n x) (he : ∀ e ∈ u.Effects, EF e) (hn : n + u.Effects.length ≤ 1000000) :
    ∃ x', fold_apply u x = some x' ∧ BI (n + u.Effects.length) x' ∧ canonB x' = appT u (canonB x) := by
  unfold fold_apply
  refine loopO_inv (I := fun k s => s.1 = (k : Int) ∧ BI (n + k) s.2 ∧ canonB s.2 = (u.Effects.take k).foldl (effT u) (canonB x)) u.Effects.length ⟨rfl, h, rfl⟩ ?_ ?_
  · rintro k ⟨i, y⟩ hk ⟨hi, h1, h2⟩
    simp only at hi h1 h2
    subst hi
    obtain ⟨x', e1, e2, e3⟩ := eff_eq (u := u) h1 (he _ (List.getElem_mem hk)) (by omega)
    refine ⟨(((k + 1 : Nat) : Int), x'), ?_, rfl, e2, ?_⟩
    · unfold fold_apply.l1
      simp only [lt_of_len hk, if_true, idx_nat hk, Option.bind_some, e1, letV, wcast hk (by omega)]
    · rw [take_snoc hk, List.foldl_append, ← h2, e3]
      rfl
  · rintro ⟨i, y⟩ ⟨hi, h1, h2⟩
    simp only at hi h1 h2
    subst hi
    rw [List.take_length] at h2
    refine ⟨y, ?_, h1, h2⟩
    unfold fold_apply.l1
    simp only [not_lt_len, Bool.false_eq_true, if_false]
theorem clone_eq {l : List (List UInt8)} (h : l.length ≤ 1000000) : slices_Clone_string l = some l := by
  unfold slices_Clone_string
  rw [app_of (by simp; omega)]
  rfl
theorem names_ne {α : Type} {key : α → List UInt8} {l : List α} (h : SA key l) : (l.map key).Nodup := by
  refine List.pairwise_map.2 (h.imp fun {a b} hab e => ?_)
  rw [e, bl_irrefl] at hab
  cases hab
def loaded (objs : List fold_Object) : fold_B := objs.map fun o => (o.Name, o.Fields)
theorem load_fields {n : Nat} {o : fold_Object} (h1 : SA FN_ o.Fields) (h2 : o.Fields.length ≤ n) (h3 : ∀ y ∈ o.Fields, GF n y) (hn : n ≤ 1000000) : loopO (fold_load.l1 o) (0, []) = some o.Fields := by
  have := loopO_up (step := fold_load.l1 o) (fun k => ((k : Int), o.Fields.take k)) o.Fields.length (b := o.Fields) (fun k hk => ?_) ?_
  · exact this
  · have hg := h3 _ (List.getElem_mem hk)
    unfold fold_load.l1
    simp only [lt_of_len hk, if_true, idx_nat hk, Option.bind_some]
    rw [clone_eq (by have := hg.len; omega), Option.bind_some, letV, wcast hk (by omega)]
    have e : fput fold_Field.Name o.Fields[k] (o.Fields.take k) = o.Fields.take (k + 1) := by
      rw [take_snoc hk, fput_none]
      rw [List.find?_eq_none]
      intro y hy
      obtain ⟨j, hj, rfl⟩ := List.getElem_of_mem hy
      rw [List.length_take] at hj
      have := List.pairwise_iff_getElem.1 h1 j k (by omega) hk (by omega)
      rw [List.getElem_take]
      intro he
      have he : o.Fields[k].Name = (o.Fields[j]'(by omega)).Name := by simpa using he
      have this : Op.bytesLess (o.Fields[j]'(by omega)).Name o.Fields[k].Name = true := this
      rw [he, bl_irrefl] at this
      cases this
    rw [show ({ o.Fields[k] with Elems := o.Fields[k].Elems } : fold_Field) = o.Fields[k] from rfl, e]
  · unfold fold_load.l1
    simp only [not_lt_len, Bool.false_eq_true, if_false, List.take_length]
theorem load_eq {n : Nat} {t : fold_Store} (h : GD n t.Objects) (hn : n ≤ 1000000) : fold_load t = some (loaded t.Objects) := by
  unfold fold_load
  have hlen := h.len
  have := loopO_up (step := fold_load.l2 t) (fun k => ((k : Int), loaded (t.Objects.take k))) t.Objects.length (b := loaded t.Objects) (fun k hk => ?_) ?_
  · exact this
  · have hm := List.getElem_mem hk
    unfold fold_load.l2
    simp only [lt_of_len hk, if_true, idx_nat hk, Option.bind_some]
    rw [load_fields (h.fasc _ hm) (h.flen _ hm) (h.good _ hm) hn, Option.bind_some, letV, wcast hk (by omega)]
    have e : mset (loaded (t.Objects.take k)) t.Objects[k].Name t.Objects[k].Fields = loaded (t.Objects.take (k + 1)) := by
      unfold loaded
      rw [take_snoc hk, List.map_append, mset_none]
      · rfl
      · cases hl : (List.map (fun o : fold_Object => (o.Name, o.Fields)) (List.take k t.Objects)).lookup t.Objects[k].Name with
        | none => rfl
        | some fs =>
          exfalso
          obtain ⟨o, ho, he⟩ := List.mem_map.1 (lookup_mem hl)
          have he : o.Name = t.Objects[k].Name := congrArg Prod.fst he
          obtain ⟨j, hj, rfl⟩ := List.getElem_of_mem ho
          rw [List.length_take] at hj
          have := List.pairwise_iff_getElem.1 h.asc j k (by omega) hk (by omega)
          rw [List.getElem_take] at he
          have this : Op.bytesLess (t.Objects[j]'(by omega)).Name t.Objects[k].Name = true := this
          rw [he, bl_irrefl] at this
          cases this
    rw [e]
  · unfold fold_load.l2
    simp only [not_lt_len, Bool.false_eq_true, if_false, List.take_length]
theorem BI_loaded {n : Nat} {objs : List fold_Object} (h : GD n objs) : BI n (loaded objs) := by
  have hm : ∀ o ∈ loaded objs, ∃ p ∈ objs, o = (p.Name, p.Fields) := fun o ho => by
    obtain ⟨p, hp, rfl⟩ := List.mem_map.1 ho
    exact ⟨p, hp, rfl⟩
  refine ⟨?_, by unfold loaded; rw [List.length_map]; exact h.len, fun o ho => ?_, fun o ho => ?_, fun o ho => ?_, fun o ho => ?_, fun o ho => ?_⟩
  · unfold loaded
    rw [List.map_map]
    exact names_ne h.asc
  all_goals obtain ⟨p, hp, rfl⟩ := hm o ho
  · exact h.name p hp
  · exact h.ne p hp
  · exact names_ne (h.fasc p hp)
  · exact h.flen p hp
  · exact h.good p hp
theorem canonF_self {fs : List fold_Field} (h : SA FN_ fs) : canonF fs = fs := SA_ext (SA_canonF (names_ne h)) h fun k => get_canonF fs k
theorem loaded_lookup (objs : List fold_Object) (k : List UInt8) : (loaded objs).lookup k = (get ON_ objs k).map (·.Fields) := by
  induction objs with
  | nil => rfl
  | cons a objs ih =>
    unfold loaded at ih ⊢
    rw [List.map_cons, List.lookup_cons, get_cons]
    by_cases h : ON_ a = k
    · rw [if_pos h, show (k == a.Name) = true by rw [← h]; simp]
      rfl
    · rw [if_neg h, show (k == a.Name) = false by rw [beq_eq_false_iff_ne]; exact fun e => h e.symm]
      exact ih
theorem canon_loaded {n : Nat} {objs : List fold_Object} (h : GD n objs) : canonB (loaded objs) = objs := by
  refine SA_ext (SA_canonB (BI_loaded h).keys) h.asc fun k => ?_
  rw [get_canonB, loaded_lookup]
  cases hg : get ON_ objs k with
  | none => rfl
  | some o =>
    show some (⟨k, canonF o.Fields⟩ : fold_Object) = some o
    rw [canonF_self (h.fasc o (get_mem hg)), ← get_key hg]
theorem canonF_mem {fs : List fold_Field} {y : fold_Field} (h : y ∈ canonF fs) : y ∈ fs := by
  unfold canonF at h
  obtain ⟨n, hn, rfl⟩ := List.mem_map.1 h
  rw [mem_srt, get_names] at hn
  cases hg : get FN_ fs n with
  | none => rw [hg] at hn; cases hn
  | some y => exact get_mem hg
theorem GD_canon {n : Nat} {x : fold_B} (h : BI n x) : GD n (canonB x) := by
  have hm : ∀ o ∈ canonB x, ∃ fs, (o.Name, fs) ∈ x ∧ o.Fields = canonF fs := by
    intro o ho
    have hg := get_mem_self (SA_canonB h.keys) ho
    rw [get_canonB] at hg
    cases hl : x.lookup (ON_ o) with
    | none => rw [hl] at hg; cases hg
    | some fs =>
      rw [hl] at hg
      have := Option.some.inj hg
      exact ⟨fs, lookup_mem hl, by rw [← this]⟩
  refine ⟨SA_canonB h.keys, ?_, fun o ho => ?_, fun o ho => ?_, fun o ho => ?_, fun o ho => ?_, fun o ho y hy => ?_⟩
  · unfold canonB
    rw [List.length_map, List.length_mergeSort, List.length_map]
    exact h.len
  all_goals obtain ⟨fs, h1, h2⟩ := hm o ho
  · exact h.name _ h1
  · rw [h2]
    intro he
    have := congrArg List.length he
    unfold canonF at this
    rw [List.length_map, List.length_mergeSort, List.length_map] at this
    exact h.ne _ h1 (List.length_eq_zero_iff.1 this)
  · rw [h2]; exact SA_canonF (h.names _ h1)
  · rw [h2]
    unfold canonF
    rw [List.length_map, List.length_mergeSort, List.length_map]
    exact h.flen _ h1
  · rw [h2] at hy
    exact h.good _ h1 y (canonF_mem hy)
theorem Apply_eq {n : Nat} {t : fold_Store} {u : api_Update} (h : GD n t.Objects) (he : ∀ e ∈ u.Effects, EF e) (hn : n + u.Effects.length ≤ 1000000) :
    fold_Apply t u = some ⟨appT u t.Objects⟩ ∧ GD (n + u.Effects.length) (appT u t.Objects) := by
  unfold fold_Apply
  obtain ⟨x', e1, e2, e3⟩ := apply_ex (u := u) (BI_loaded h) he hn
  rw [canon_loaded h] at e3
  rw [load_eq h (by omega), Option.bind_some, e1, Option.bind_some, fold_store_eq e2 hn, e3]
  exact ⟨rfl, e3 ▸ GD_canon e2⟩
end Go.Proofs.YtpfgdjfiimknlaaGreat
set_option linter.unusedVariables false
set_option linter.unusedSimpArgs false
namespace Go.Proofs.YtpfgdjfiimknlaaGreat
open Go Go.Proofs.YtpfgdjfiimknlaaGreatL
def effN (s : List api_Update) : Nat := (s.map fun u => u.Effects.length).sum
theorem Fold_eq {s : List api_Update} (he : ∀ u ∈ s, ∀ e ∈ u.Effects, EF e) (hn : effN s ≤ 1000000) (hl : s.length ≤ 1000000) :
    fold_Fold s = some ⟨foldT s []⟩ ∧ GD (effN s) (foldT s []) := by
  unfold fold_Fold
  have key : ∃ b, loopO (fold_Fold.l1 s) (0, []) = some b ∧ BI (effN s) b ∧ canonB b = foldT s [] := by
    have hsum : ∀ k, k ≤ s.length → effN (s.take k) ≤ effN s := by
      intro k hk
      unfold effN
      have : s.map (fun u => u.Effects.length) = (s.take k).map (fun u => u.Effects.length) ++ (s.drop k).map (fun u => u.Effects.length) := by rw [← List.map_append, List.take_append_drop]
      rw [this, List.sum_append]
      omega
    refine loopO_inv (I := fun k s' => s'.1 = (k : Int) ∧ BI (effN (s.take k)) s'.2 ∧ canonB s'.2 = foldT (s.take k) []) s.length ⟨rfl, ?_, ?_⟩ ?_ ?_
    · exact ⟨List.nodup_nil, Nat.zero_le _, by simp, by simp, by simp, by simp, by simp⟩
    · simp [canonB, srtN, foldT]
    · rintro k ⟨i, y⟩ hk ⟨hi, h1, h2⟩
      simp only at hi h1 h2
      subst hi
      have hs := hsum (k + 1) hk
      have es : effN (s.take (k + 1)) = effN (s.take k) + s[k].Effects.length := by
        unfold effN
        rw [take_snoc hk, List.map_append, List.sum_append]
        simp
      obtain ⟨x', e1, e2, e3⟩ := apply_ex (u := s[k]) h1 (he _ (List.getElem_mem hk)) (by omega)
      refine ⟨(((k + 1 : Nat) : Int), x'), ?_, rfl, by rw [es]; exact e2, ?_⟩
      · unfold fold_Fold.l1
        simp only [lt_of_len hk, if_true, idx_nat hk, Option.bind_some, e1, letV, wcast hk (by omega)]
      · show canonB x' = _
        rw [e3, h2, take_snoc hk]
        unfold foldT
        rw [List.foldl_append]
        rfl
    · rintro ⟨i, y⟩ ⟨hi, h1, h2⟩
      simp only at hi h1 h2
      subst hi
      rw [List.take_length] at h1 h2
      refine ⟨y, ?_, h1, h2⟩
      unfold fold_Fold.l1
      simp only [not_lt_len, Bool.false_eq_true, if_false]
  obtain ⟨b, e1, e2, e3⟩ := key
  rw [e1, Option.bind_some, fold_store_eq e2 hn, e3]
  exact ⟨rfl, e3 ▸ GD_canon e2⟩
end Go.Proofs.YtpfgdjfiimknlaaGreat
set_option linter.unusedVariables false
set_option linter.unusedSimpArgs false
namespace Go.Proofs.YtpfgdjfiimknlaaGreat
open Go Go.Proofs.YtpfgdjfiimknlaaGreatL
theorem snoc_ind {α : Type} {P : List α → Prop} (h0 : P []) (hs : ∀ l a, P l → P (l ++ [a])) (l : List α) : P l := by
  rw [← l.reverse_reverse]
  induction l.reverse with
  | nil => exact h0
  | cons a m ih => rw [List.reverse_cons]; exact hs _ _ ih
section
variable {α : Type} {lt : α → α → Prop}
theorem srt_ext (irr : ∀ a, ¬ lt a a) (tr : ∀ a b c, lt a b → lt b c → lt a c) : ∀ {l l' : List α}, l.Pairwise lt → l'.Pairwise lt → (∀ x, x ∈ l ↔ x ∈ l') → l = l'
  | [], [], _, _, _ => rfl
  | [], b :: l', _, _, h => by have := (h b).2 (by simp); simp at this
  | a :: l, [], _, _, h => by have := (h a).1 (by simp); simp at this
  | a :: l, b :: l', h1, h2, h => by
    have a1 := (List.pairwise_cons.1 h1).1
    have b1 := (List.pairwise_cons.1 h2).1
    have e : a = b := by
      rcases List.mem_cons.1 ((h a).1 (by simp)) with e | e
      · exact e
      · rcases List.mem_cons.1 ((h b).2 (by simp)) with e' | e'
        · exact e'.symm
        · exact absurd (tr _ _ _ (a1 b e') (b1 a e)) (irr a)
    subst e
    have : l = l' := by
      refine srt_ext irr tr (List.pairwise_cons.1 h1).2 (List.pairwise_cons.1 h2).2 fun x => ?_
      have hx := h x
      rw [List.mem_cons, List.mem_cons] at hx
      constructor
      · intro hm
        rcases hx.1 (.inr hm) with e | e
        · rw [e] at hm; exact absurd (a1 a hm) (irr a)
        · exact e
      · intro hm
        rcases hx.2 (.inr hm) with e | e
        · rw [e] at hm; exact absurd (b1 a hm) (irr a)
        · exact e
    rw [this]
end
section
variable {α : Type} [DecidableEq α]
def dd (l : List α) : List α := l.foldl (fun r a => if r.getLast? = some a then r else r ++ [a]) []
theorem dd_snoc (l : List α) (a : α) : dd (l ++ [a]) = if (dd l).getLast? = some a then dd l else dd l ++ [a] := by
  unfold dd
  rw [List.foldl_append]
  rfl
theorem dd_last (l : List α) : (dd l).getLast? = l.getLast? := by
  refine snoc_ind (P := fun l => (dd l).getLast? = l.getLast?) ?_ (fun l a ih => ?_) l
  · rfl
  · rw [dd_snoc, List.getLast?_concat]
    split
    · rename_i h; exact h
    · rw [List.getLast?_concat]
theorem dd_mem (l : List α) : ∀ x, x ∈ dd l ↔ x ∈ l := by
  refine snoc_ind (P := fun l => ∀ x, x ∈ dd l ↔ x ∈ l) ?_ (fun l a ih => ?_) l
  · intro x; rfl
  · intro x
    rw [dd_snoc, List.mem_append, List.mem_singleton]
    split
    · rename_i h
      rw [ih]
      have : a ∈ l := (ih a).1 (List.mem_of_getLast? h)
      constructor
      · exact .inl
      · rintro (h | rfl)
        · exact h
        · exact this
    · rw [List.mem_append, List.mem_singleton, ih]
theorem dd_length (l : List α) : (dd l).length ≤ l.length := by
  refine snoc_ind (P := fun l => (dd l).length ≤ l.length) (Nat.le_refl _) (fun l a ih => ?_) l
  rw [dd_snoc, List.length_append, List.length_singleton]
  split
  · omega
  · rw [List.length_append, List.length_singleton]; omega
theorem dd_self {l : List α} : l.Pairwise (· ≠ ·) → dd l = l := by
  refine snoc_ind (P := fun l => l.Pairwise (· ≠ ·) → dd l = l) (fun _ => rfl) (fun l a ih h => ?_) l
  rw [List.pairwise_append] at h
  rw [dd_snoc, ih h.1, if_neg]
  intro e
  exact h.2.2 a (List.mem_of_getLast? e) a (by simp) rfl
omit [DecidableEq α] in
theorem last_max {lt : α → α → Prop} {m : List α} {z x : α} (h : m.Pairwise lt) (hz : m.getLast? = some z) (hx : x ∈ m) : x = z ∨ lt x z := by
  obtain ⟨m', rfl⟩ : ∃ m', m = m' ++ [z] := by
    rw [List.getLast?_eq_some_iff] at hz
    exact hz
  rcases List.mem_append.1 hx with hx | hx
  · exact .inr ((List.pairwise_append.1 h).2.2 x hx z (by simp))
  · exact .inl (by simpa using hx)
theorem dd_srt {lt : α → α → Prop} (tri : ∀ a b, ¬ lt a b → ¬ lt b a → a = b) {l : List α} : l.Pairwise (fun a b => ¬ lt b a) → (dd l).Pairwise lt := by
  refine snoc_ind (P := fun l => l.Pairwise (fun a b => ¬ lt b a) → (dd l).Pairwise lt) (fun _ => .nil) (fun l a ih h => ?_) l
  rw [List.pairwise_append] at h
  have h1 := ih h.1
  rw [dd_snoc]
  split
  · exact h1
  · rename_i hn
    rw [List.pairwise_append]
    refine ⟨h1, List.pairwise_singleton _ _, fun x hx b hb => ?_⟩
    have hb : b = a := by simpa using hb
    subst hb
    refine Classical.byContradiction fun hc => ?_
    have ha := h.2.2
    have e := tri _ _ hc (ha x ((dd_mem l x).1 hx) b (by simp))
    subst e
    cases hz : (dd l).getLast? with
    | none =>
      rw [List.getLast?_eq_none_iff] at hz
      rw [hz] at hx
      simp at hx
    | some z =>
      rcases last_max h1 hz hx with e | e
      · exact hn (by rw [hz, e])
      · exact ha z ((dd_mem l z).1 (List.mem_of_getLast? hz)) x (by simp) e
end
section
variable {α : Type} (eq : α → α → Bool) (z : α)
noncomputable def gj2 (x24 : List α) (x26 : Int) : Option ((List α × Int) ⊕ (List α ⊕ List α)) :=
  (letV (IntKind.i64.wrap (x26 + 1)) fun x28 => some (.inl (x24, x28)))
noncomputable def gj3 (x61 : List α) (x63 : Int) : Option ((List α × Int) ⊕ (List α ⊕ List α)) :=
  (if 0 ≤ x63 ∧ x63 ≤ (x61.length : Int) then ((clr x61 x63 z).bind fun x67 => ((cut x67 0 x63).bind fun x69 => some (.inr (.inr x69)))) else none)
noncomputable def gj4 (x74 : Int) (x80 : List α) (x82 : Int) : Option ((List α × Int × Int) ⊕ (List α × Int)) :=
  (letV (IntKind.i64.wrap (x74 + 1)) fun x84 => some (.inl (x80, x82, x84)))
noncomputable def gl1 (x18 : Int) : (List α × Int × Int) → Option ((List α × Int × Int) ⊕ (List α × Int)) := fun (x71, x73, x74) =>
  (if (decide (x74 < ((x71.length - (x18).toNat : Nat) : Int))) then ((idx (List.drop ((x18).toNat) x71) x74).bind fun x86 =>
  (letV (IntKind.i64.wrap (x74 - 1)) fun x89 =>
  ((idx (List.drop ((x18).toNat) x71) x89).bind fun x90 =>
  (if (!eq x86 x90) then ((idx (List.drop ((x18).toNat) x71) x74).bind fun x115 =>
  ((idx x71 x73).bind fun x118 =>
  (letV (x71.set (x73).toNat x115) fun x120 =>
  (letV (IntKind.i64.wrap (x73 + 1)) fun x121 =>
  gj4 x74 x120 x121)))) else gj4 x74 x71 x73)))) else some (.inr (x71, x73)))
noncomputable def gl2 : (List α × Int) → Option ((List α × Int) ⊕ (List α ⊕ List α)) := fun (x16, x18) =>
  (if (decide (x18 < (x16.length : Int))) then ((idx x16 x18).bind fun x30 =>
  (letV (IntKind.i64.wrap (x18 - 1)) fun x33 =>
  ((idx x16 x33).bind fun x34 =>
  (if (eq x30 x34) then (if 0 ≤ x18 ∧ x18 ≤ (x16.length : Int) then ((loopO (gl1 eq x18) (x16, x18, 1)).bind fun (x122, x123) => gj3 z x122 x123) else none) else gj2 x16 x18)))) else some (.inr (.inl x16)))
noncomputable def gC (x1 : List α) : Option (List α) :=
  (if (decide ((x1.length : Int) < 2)) then some x1 else ((loopO (gl2 eq z) (x1, 1)).bind fun b => match b with | .inl x124 => some x124 | .inr x125 => some x125))
end
theorem w64s {k : Nat} (h : k ≤ 4611686018427387904) : IntKind.i64.wrap (((k + 1 : Nat) : Int) - 1) = (k : Int) := by
  rw [w64 (by omega) (by omega)]; omega
theorem take_last {α : Type} {l : List α} {k : Nat} (h : k < l.length) : (l.take (k + 1)).getLast? = some l[k] := by
  rw [take_snoc h, List.getLast?_concat]
theorem drop1 {α : Type} {x y : List α} {k : Nat} (h : y.drop k = x.drop k) : y.drop (k + 1) = x.drop (k + 1) := by
  have : ∀ l : List α, l.drop (k + 1) = (l.drop k).drop 1 := fun l => by rw [List.drop_drop]
  rw [this, this, h]
theorem gC1_eq {α : Type} [DecidableEq α] {eq : α → α → Bool} (heq : ∀ a b, eq a b = true ↔ a = b) {x : List α} (hl : x.length ≤ 4611686018427387903) {k0 : Nat} (h1 : 1 ≤ k0) (h2 : k0 < x.length)
    (hd : dd (x.take (k0 + 1)) = x.take k0) :
    ∃ b : List α × Int, loopO (gl1 eq (k0 : Int)) (x, (k0 : Int), 1) = some b ∧ b.1.length = x.length ∧ b.2 = ((dd x).length : Int) ∧ b.1.take (dd x).length = dd x := by
  refine loopO_inv (fun n s => ∃ (y : List α) (i : Nat), s = (y, (i : Int), ((n + 1 : Nat) : Int)) ∧ y.length = x.length ∧ i ≤ k0 + n ∧ i = (dd (x.take (k0 + n + 1))).length ∧ y.take i = dd (x.take (k0 + n + 1)) ∧ y.drop (k0 + n) = x.drop (k0 + n)) (x.length - k0 - 1) ?_ ?_ ?_
  · refine ⟨x, k0, rfl, rfl, Nat.le_refl _, ?_, ?_, rfl⟩
    · show k0 = (dd (x.take (k0 + 1))).length
      rw [hd, List.length_take]
      omega
    · show x.take k0 = dd (x.take (k0 + 1))
      rw [hd]
  · rintro n s hn ⟨y, i, rfl, e1, e2, e3, e4, e5⟩
    have hi : i < y.length := by omega
    have hb : k0 + n + 1 < x.length := by omega
    have ey : ∀ j, k0 + n ≤ j → (hj : j < x.length) → y[j]'(by omega) = x[j] := by
      intro j hj1 hj
      have := congrArg (fun l => l[j - (k0 + n)]?) e5
      simp only [List.getElem?_drop] at this
      rw [show k0 + n + (j - (k0 + n)) = j by omega, List.getElem?_eq_getElem (by omega), List.getElem?_eq_getElem hj] at this
      exact Option.some.inj this
    have d1 : idx (List.drop ((k0 : Int).toNat) y) ((n + 1 : Nat) : Int) = some (x[k0 + n + 1]'hb) := by
      rw [Int.toNat_natCast, idx_nat (by rw [List.length_drop]; omega), List.getElem_drop]
      congr 1
      have := ey (k0 + (n + 1)) (by omega) (by omega)
      rw [this]
      congr 1
    have d0 : idx (List.drop ((k0 : Int).toNat) y) (n : Int) = some (x[k0 + n]'(by omega)) := by
      rw [Int.toNat_natCast, idx_nat (by rw [List.length_drop]; omega), List.getElem_drop]
      congr 1
      exact ey (k0 + n) (by omega) (by omega)
    have snoc : dd (x.take (k0 + n + 1 + 1)) = if x[k0 + n]'(by omega) = x[k0 + n + 1]'hb then dd (x.take (k0 + n + 1)) else dd (x.take (k0 + n + 1)) ++ [x[k0 + n + 1]'hb] := by
      rw [take_snoc hb, dd_snoc, dd_last, take_last (by omega)]
      simp only [Option.some.injEq]
    unfold gl1
    simp only
    rw [if_pos (by rw [Int.toNat_natCast, e1]; simp; omega), d1, Option.bind_some, letV_of, w64s (by omega), d0, Option.bind_some]
    have nx : IntKind.i64.wrap (((n + 1 : Nat) : Int) + 1) = ((n + 1 + 1 : Nat) : Int) := w64n (by omega)
    by_cases hc : x[k0 + n + 1]'hb = x[k0 + n]'(by omega)
    · rw [if_neg (by rw [(heq _ _).2 hc]; simp)]
      unfold gj4
      rw [letV_of, nx]
      refine ⟨_, rfl, y, i, rfl, e1, by omega, ?_, ?_, ?_⟩
      · rw [show k0 + (n + 1) + 1 = k0 + n + 1 + 1 by omega, snoc, if_pos hc.symm]; exact e3
      · rw [show k0 + (n + 1) + 1 = k0 + n + 1 + 1 by omega, snoc, if_pos hc.symm]; exact e4
      · exact drop1 e5
    · rw [if_pos (by
        cases h : eq (x[k0 + n + 1]'hb) (x[k0 + n]'(by omega)) with
        | true => exact absurd ((heq _ _).1 h) hc
        | false => rfl), Option.bind_some, idx_nat hi, Option.bind_some, letV_of, letV_of]
      unfold gj4
      rw [letV_of, nx, w64n (by omega)]
      have e6 : dd (x.take (k0 + n + 1 + 1)) = dd (x.take (k0 + n + 1)) ++ [x[k0 + n + 1]'hb] := by
        rw [snoc, if_neg (fun e => hc e.symm)]
      refine ⟨_, rfl, y.set i (x[k0 + n + 1]'hb), i + 1, rfl, by rw [List.length_set]; exact e1, by omega, ?_, ?_, ?_⟩
      · rw [show k0 + (n + 1) + 1 = k0 + n + 1 + 1 by omega, e6, List.length_append, ← e3]; rfl
      · rw [show k0 + (n + 1) + 1 = k0 + n + 1 + 1 by omega, e6, ← e4, take_snoc (by rw [List.length_set]; exact hi), List.getElem_set_self, List.take_set_of_le (Nat.le_refl _)]
      · rw [List.drop_set_of_lt (by omega)]; exact drop1 e5
  · rintro s ⟨y, i, rfl, e1, e2, e3, e4, e5⟩
    have e7 : x.take (k0 + (x.length - k0 - 1) + 1) = x := List.take_of_length_le (by omega)
    rw [e7] at e3 e4
    unfold gl1
    simp only
    rw [if_neg (by rw [Int.toNat_natCast, e1]; simp; omega)]
    exact ⟨_, rfl, e1, by rw [e3], by rw [← e3]; exact e4⟩
theorem gC_eq {α : Type} [DecidableEq α] {eq : α → α → Bool} {z : α} (heq : ∀ a b, eq a b = true ↔ a = b) {x : List α} (hl : x.length ≤ 4611686018427387903) : gC eq z x = some (dd x) := by
  unfold gC
  by_cases h0 : x.length < 2
  · rw [if_pos (by simp; omega)]
    have : dd x = x := by
      match x, h0 with
      | [], _ => rfl
      | [a], _ => rfl
    rw [this]
  · rw [if_neg (by simp; omega)]
    have key : ∃ b : List α ⊕ List α, loopO (gl2 eq z) (x, 1) = some b ∧ (match b with | .inl y => y = dd x | .inr y => y = dd x) := by
      refine loopO_ex (fun n s => s = (x, ((n + 1 : Nat) : Int)) ∧ dd (x.take (n + 1)) = x.take (n + 1)) (x.length - 1) ⟨rfl, ?_⟩ ?_ ?_
      · cases x with
        | nil => simp at h0
        | cons a l => rfl
      · rintro n s hn ⟨rfl, hd⟩
        unfold gl2
        simp only
        rw [if_pos (by simp; omega), idx_nat (show n + 1 < x.length by omega), Option.bind_some, letV_of, w64s (by omega), idx_nat (show n < x.length by omega), Option.bind_some]
        by_cases hc : x[n + 1]'(by omega) = x[n]'(by omega)
        · rw [if_pos ((heq _ _).2 hc), if_pos (by omega)]
          refine .inr ?_
          obtain ⟨b, b1, b2, b3, b4⟩ := gC1_eq heq hl (k0 := n + 1) (by omega) (by omega) (by
            rw [take_snoc (by omega), dd_snoc, hd, take_last (by omega), if_pos (by rw [hc])])
          rw [b1, Option.bind_some]
          obtain ⟨y, i⟩ := b
          simp only at b2 b3 b4
          subst b3
          unfold gj3
          have hle : (dd x).length ≤ y.length := by rw [b2]; exact dd_length x
          simp only
          rw [if_pos (by omega)]
          unfold clr
          rw [if_pos (by omega), Option.bind_some, Int.toNat_natCast, cut_of (by omega) (by omega) (by rw [List.length_append, List.length_take, List.length_replicate]; omega), Option.bind_some]
          refine ⟨_, rfl, ?_⟩
          simp only [Int.toNat_zero, List.drop_zero, Int.toNat_natCast]
          rw [List.take_append_of_le_length (by rw [List.length_take]; omega), b4, List.take_of_length_le (by omega)]
        · rw [if_neg (by rw [heq]; exact hc)]
          unfold gj2
          rw [letV_of]
          refine .inl ⟨_, rfl, by rw [w64n (by omega)], ?_⟩
          rw [take_snoc (show n + 1 < x.length by omega), dd_snoc, hd, take_last (show n < x.length by omega), if_neg (fun e => hc (Option.some.inj e).symm)]
      · rintro s ⟨rfl, hd⟩
        unfold gl2
        simp only
        rw [if_neg (by simp; omega)]
        refine ⟨_, rfl, ?_⟩
        rw [show x.length - 1 + 1 = x.length by omega, List.take_length] at hd
        exact hd.symm
    obtain ⟨b, b1, b2⟩ := key
    rw [b1, Option.bind_some]
    cases b with
    | inl y => simp only at b2; rw [b2]
    | inr y => simp only at b2; rw [b2]
theorem compactS_eq {x : List (List UInt8)} (hl : x.length ≤ 4611686018427387903) : slices_Compact_string x = some (dd x) := by
  rw [← gC_eq (eq := fun a b => a == b) (z := ([] : List UInt8)) (fun a b => by simp) hl]
  have e1 : ∀ k, slices_Compact_string.l1 k = gl1 (fun a b : List UInt8 => a == b) k := fun k => rfl
  have e2 : slices_Compact_string.l2 = gl2 (fun a b : List UInt8 => a == b) [] := by
    funext s
    unfold slices_Compact_string.l2 gl2
    simp only [e1]
    rfl
  unfold slices_Compact_string gC
  rw [e2]
  congr 1
  cases loopO (gl2 (fun a b : List UInt8 => a == b) []) (x, 1) with
  | none => rfl
  | some b => cases b <;> rfl
theorem compactK_eq {x : List index_Key} (hl : x.length ≤ 4611686018427387903) : slices_Compact_Key x = some (dd x) := by
  have heq : ∀ a b : index_Key, decide ((⟨a.f_Type, a.N, a.S⟩ : index_Key) = (⟨b.f_Type, b.N, b.S⟩ : index_Key)) = true ↔ a = b := fun a b => by rw [decide_eq_true_eq]
  rw [← gC_eq (eq := fun a b : index_Key => decide ((⟨a.f_Type, a.N, a.S⟩ : index_Key) = (⟨b.f_Type, b.N, b.S⟩ : index_Key))) (z := (⟨0, 0, []⟩ : index_Key)) heq hl]
  have e1 : ∀ k, slices_Compact_Key.l1 k = gl1 (fun a b : index_Key => decide ((⟨a.f_Type, a.N, a.S⟩ : index_Key) = (⟨b.f_Type, b.N, b.S⟩ : index_Key))) k := fun k => rfl
  have e2 : slices_Compact_Key.l2 = gl2 (fun a b : index_Key => decide ((⟨a.f_Type, a.N, a.S⟩ : index_Key) = (⟨b.f_Type, b.N, b.S⟩ : index_Key))) (⟨0, 0, []⟩ : index_Key) := by
    funext s
    unfold slices_Compact_Key.l2 gl2
    simp only [e1]
    rfl
  unfold slices_Compact_Key gC
  rw [e2]
  congr 1
  cases loopO (gl2 (fun a b : index_Key => decide ((⟨a.f_Type, a.N, a.S⟩ : index_Key) = (⟨b.f_Type, b.N, b.S⟩ : index_Key))) (⟨0, 0, []⟩ : index_Key)) (x, 1) with
  | none => rfl
  | some b => cases b <;> rfl
def ascL (l : List (List UInt8)) : List (List UInt8) := dd (l.mergeSort fun a b => decide (a ≤ b))
theorem ascL_mem (l : List (List UInt8)) (x : List UInt8) : x ∈ ascL l ↔ x ∈ l := by
  unfold ascL
  rw [dd_mem, (List.mergeSort_perm l _).mem_iff]
theorem ascL_length (l : List (List UInt8)) : (ascL l).length ≤ l.length := by
  unfold ascL
  refine Nat.le_trans (dd_length _) ?_
  rw [(List.mergeSort_perm l _).length_eq]
  exact Nat.le_refl _
theorem ascL_asc (l : List (List UInt8)) : Asc (ascL l) := by
  have tr : ∀ a b c : List UInt8, (decide (a ≤ b)) = true → (decide (b ≤ c)) = true → (decide (a ≤ c)) = true := fun a b c h1 h2 => by simp only [decide_eq_true_eq] at *; exact List.le_trans h1 h2
  have to : ∀ a b : List UInt8, ((decide (a ≤ b)) || (decide (b ≤ a))) = true := fun a b => by simp only [Bool.or_eq_true, decide_eq_true_eq]; exact List.le_total a b
  refine dd_srt (lt := fun a b => Op.bytesLess a b = true) (fun a b h1 h2 => bl_tri (by simpa using h1) (by simpa using h2)) ?_
  refine (List.pairwise_mergeSort tr to l).imp fun {a b} h => ?_
  rw [Go.Proofs.bytesLess_eq, decide_eq_true_eq]
  rw [decide_eq_true_eq] at h
  exact fun h' => absurd h (by simpa using h')
theorem ascending_eq {l : List (List UInt8)} (h : l.length * 16 ≤ 140737488355328) : index_ascending l = some (ascL l) := by
  unfold index_ascending
  rw [if_pos h]
  exact compactS_eq (by rw [(List.mergeSort_perm l _).length_eq]; omega)
theorem ascS_ext {l l' : List (List UInt8)} (h : Asc l) (h' : Asc l') (hm : ∀ x, x ∈ l ↔ x ∈ l') : l = l' :=
  srt_ext (lt := fun a b => Op.bytesLess a b = true) (fun a => by rw [bl_irrefl]; simp) (fun a b c h1 h2 => bl_trans h1 h2) h h' hm
end Go.Proofs.YtpfgdjfiimknlaaGreat
set_option linter.unusedVariables false
set_option linter.unusedSimpArgs false
namespace Go.Proofs.YtpfgdjfiimknlaaGreat
open Go Go.Proofs.YtpfgdjfiimknlaaGreatL
theorem FieldOf_eq {n : Nat} {o : fold_Object} (h1 : o.Fields.length ≤ n) (h2 : ∀ y ∈ o.Fields, GF n y) (hn : n ≤ 1000000) (k : List UInt8) :
    fold_FieldOf o k = some ((get FN_ o.Fields k).getD { fold_zero with Name := k }) := by
  unfold fold_FieldOf
  have key : loopO (fold_FieldOf.l1 o k) (0, (⟨[], (⟨false, 0, 0, 0, 0, []⟩ : fold_Register), false, 0, 0, [], false⟩ : fold_Field)) = some (match get FN_ o.Fields k with | some y => .inr y | none => .inl ⟨[], ⟨false, 0, 0, 0, 0, []⟩, false, 0, 0, [], false⟩) := by
    have h1 := loopO_runL (step := fold_FieldOf.l1 o k) (fun i (z : fold_Field) => ((i : Int), z)) (fun _ y (z : fold_Field) => if y.Name = k then some (.inr (.inr y)) else some (.inl z)) (fun z => some (.inl z)) o.Fields (fun i hi z => ?_) (fun z => ?_) ⟨[], ⟨false, 0, 0, 0, 0, []⟩, false, 0, 0, [], false⟩
    · have h2 : ∀ (l : List fold_Field) (i : Nat) (z : fold_Field), runL (fun _ (y : fold_Field) (z : fold_Field) => if y.Name = k then some (.inr (.inr y : fold_Field ⊕ fold_Field)) else some (.inl z)) (fun z => some (.inl z)) i l z = some (match get FN_ l k with | some y => .inr y | none => .inl z) := by
        intro l
        induction l with
        | nil => intro i z; rfl
        | cons o l ih =>
          intro i z
          rw [runL, get_cons]
          by_cases he : o.Name = k
          · rw [if_pos he, if_pos he]
          · rw [if_neg he, if_neg he]
            exact ih _ z
      rw [← h2 o.Fields 0]
      exact h1
    · have hm := List.getElem_mem hi
      unfold fold_FieldOf.l1
      simp only [lt_of_len hi, if_true, idx_nat hi, Option.bind_some]
      by_cases he : o.Fields[i].Name = k
      · rw [if_pos (by simp [he]), if_pos he, clone_eq (by have := (h2 _ hm).len; omega)]
        rfl
      · rw [if_neg (by simpa using he), if_neg he, letV, wcast hi (by omega)]
    · unfold fold_FieldOf.l1
      simp only [not_lt_len, Bool.false_eq_true, if_false]
      rfl
  rw [key, Option.bind_some]
  cases get FN_ o.Fields k with
  | none => rfl
  | some o => rfl
theorem rFieldOf_eq {o : fold_Object} (h1 : o.Fields.length ≤ 1000000) (k : List UInt8) : esref32_FieldOf o k = some ((get FN_ o.Fields k).getD { fold_zero with Name := k }) := by
  unfold esref32_FieldOf
  have key : loopO (esref32_FieldOf.l1 o k) (0, (⟨[], (⟨false, 0, 0, 0, 0, []⟩ : fold_Register), false, 0, 0, [], false⟩ : fold_Field)) = some (match get FN_ o.Fields k with | some y => .inr y | none => .inl ⟨[], ⟨false, 0, 0, 0, 0, []⟩, false, 0, 0, [], false⟩) := by
    have h1 := loopO_runL (step := esref32_FieldOf.l1 o k) (fun i (z : fold_Field) => ((i : Int), z)) (fun _ y (z : fold_Field) => if y.Name = k then some (.inr (.inr y)) else some (.inl z)) (fun z => some (.inl z)) o.Fields (fun i hi z => ?_) (fun z => ?_) ⟨[], ⟨false, 0, 0, 0, 0, []⟩, false, 0, 0, [], false⟩
    · have h2 : ∀ (l : List fold_Field) (i : Nat) (z : fold_Field), runL (fun _ (y : fold_Field) (z : fold_Field) => if y.Name = k then some (.inr (.inr y : fold_Field ⊕ fold_Field)) else some (.inl z)) (fun z => some (.inl z)) i l z = some (match get FN_ l k with | some y => .inr y | none => .inl z) := by
        intro l
        induction l with
        | nil => intro i z; rfl
        | cons o l ih =>
          intro i z
          rw [runL, get_cons]
          by_cases he : o.Name = k
          · rw [if_pos he, if_pos he]
          · rw [if_neg he, if_neg he]
            exact ih _ z
      rw [← h2 o.Fields 0]
      exact h1
    · unfold esref32_FieldOf.l1
      simp only [lt_of_len hi, if_true, idx_nat hi, Option.bind_some]
      by_cases he : o.Fields[i].Name = k
      · rw [if_pos (by simp [he]), if_pos he]
      · rw [if_neg (by simpa using he), if_neg he, letV, wcast hi (by omega)]
    · unfold esref32_FieldOf.l1
      simp only [not_lt_len, Bool.false_eq_true, if_false]
      rfl
  rw [key, Option.bind_some]
  cases get FN_ o.Fields k with
  | none => rfl
  | some o => rfl
structure GO (o : fold_Object) : Prop where
  len : o.Fields.length ≤ 100
  good : ∀ y ∈ o.Fields, GF 100 y
theorem GD.go {objs : List fold_Object} (h : GD 100 objs) : ∀ o ∈ objs, GO o := fun o ho => ⟨h.flen o ho, h.good o ho⟩
def fieldN (o : fold_Object) (k : List UInt8) : fold_Field := (get FN_ o.Fields k).getD { fold_zero with Name := k }
theorem fieldN_good {o : fold_Object} (g : GO o) (k : List UInt8) : Asc (fieldN o k).Elems ∧ (fieldN o k).Elems.length ≤ 100 := by
  unfold fieldN
  cases h : get FN_ o.Fields k with
  | none => exact ⟨List.Pairwise.nil, Nat.zero_le _⟩
  | some y =>
    have := g.good y (get_mem h)
    exact ⟨this.asc, this.len⟩
def keysF (f : schema_Field) (y : fold_Field) : List index_Key :=
  if f.Kind = 1 ∧ y.Register.Set = true ∧ f.f_Type = 1 then [⟨1, y.Register.N, []⟩]
  else if f.Kind = 1 ∧ y.Register.Set = true ∧ f.f_Type = 2 then [⟨2, 0, y.Register.S⟩]
  else if f.Kind = 4 then y.Elems.map fun s => ⟨2, 0, s⟩ else []
def keysOf (f : schema_Field) (o : fold_Object) : List index_Key := keysF f (fieldN o f.Name)
theorem keysF_srt {f : schema_Field} {y : fold_Field} (h : Asc y.Elems) : (keysF f y).Pairwise keyLt := by
  unfold keysF
  split
  · exact List.pairwise_singleton _ _
  · split
    · exact List.pairwise_singleton _ _
    · split
      · refine List.pairwise_map.2 (h.imp fun {a b} hab => ?_)
        exact .inr ⟨rfl, .inr ⟨rfl, hab⟩⟩
      · exact List.Pairwise.nil
theorem keysF_length {f : schema_Field} {y : fold_Field} (h : y.Elems.length ≤ 100) : (keysF f y).length ≤ 100 := by
  unfold keysF
  split
  · simp
  · split
    · simp
    · split
      · rw [List.length_map]; exact h
      · simp
theorem keysOf_srt {f : schema_Field} {o : fold_Object} (g : GO o) : (keysOf f o).Pairwise keyLt := keysF_srt (fieldN_good g f.Name).1
theorem keysOf_length {f : schema_Field} {o : fold_Object} (g : GO o) : (keysOf f o).length ≤ 100 := keysF_length (fieldN_good g f.Name).2
theorem keyLt_ne {a b : index_Key} (h : keyLt a b) : a ≠ b := fun e => keyLt_irrefl a (by rw [← e] at h; exact h)
theorem keyLt_asymm {a b : index_Key} (h : keyLt a b) : ¬ keyLt b a := fun k => keyLt_irrefl a (keyLt_trans h k)
theorem sortKeys_self {l : List index_Key} (h : l.Pairwise keyLt) (hl : l.length ≤ 1000000) : slices_SortFunc_Key l = some l := by
  unfold slices_SortFunc_Key sortU
  rw [if_pos ⟨h.imp fun {a b} hab => .inl (by rw [decide_eq_true_eq, keyCmp_lt]; exact hab), by omega⟩]
  congr 1
  refine List.mergeSort_of_pairwise (h.imp fun {a b} hab => ?_)
  have : ¬ keyCmp b a < 0 := by rw [keyCmp_lt]; exact keyLt_asymm hab
  simpa using this
theorem keys_j1 {l : List index_Key} (h : l.Pairwise keyLt) (hl : l.length ≤ 1000000) : index_Keys.j1 l = some l := by
  unfold index_Keys.j1
  rw [sortKeys_self h hl, Option.bind_some, compactK_eq (by omega), Option.bind_some, dd_self (h.imp fun {a b} hab => keyLt_ne hab)]
theorem index_Keys_eq {f : schema_Field} {o : fold_Object} (g : GO o) : index_Keys f o = some (keysOf f o) := by
  unfold index_Keys
  rw [FieldOf_eq g.len g.good (by decide), Option.bind_some]
  obtain ⟨h1, h2⟩ := fieldN_good g f.Name
  have hs : (keysOf f o).Pairwise keyLt := keysOf_srt g
  have hlen : (keysOf f o).length ≤ 100 := keysOf_length g
  unfold keysOf at hs hlen ⊢
  change (let y := fieldN o f.Name; _) = _
  obtain ⟨y, hy⟩ : ∃ y, y = fieldN o f.Name := ⟨_, rfl⟩
  have hy' : (get FN_ o.Fields f.Name).getD { fold_zero with Name := f.Name } = y := hy.symm
  rw [← hy] at h1 h2 hs hlen ⊢
  simp only [hy']
  have fin : ∀ l, l = keysF f y → index_Keys.j1 l = some (keysF f y) := fun l hl => by
    rw [hl]; exact keys_j1 hs (by omega)
  have loop : loopO (index_Keys.l1 y) ([], 0) = some (y.Elems.map fun s => (⟨2, 0, s⟩ : index_Key)) := by
    have := loopO_up (step := index_Keys.l1 y) (fun k => ((y.Elems.take k).map fun s => (⟨2, 0, s⟩ : index_Key), (k : Int))) y.Elems.length (b := y.Elems.map fun s => (⟨2, 0, s⟩ : index_Key)) (fun k hk => ?_) ?_
    · exact this
    · unfold index_Keys.l1
      simp only [lt_of_len hk, if_true, idx_nat hk, Option.bind_some]
      rw [app_of (by simp; omega), Option.bind_some, letV_of, wcast hk (by omega), take_snoc hk, List.map_append]
      rfl
    · unfold index_Keys.l1
      simp only [not_lt_len, Bool.false_eq_true, if_false, List.take_length]
  have hf2 : index_Keys.j2 f y false = some (if f.Kind = 4 then y.Elems.map fun s => (⟨2, 0, s⟩ : index_Key) else []) := by
    unfold index_Keys.j2
    rw [if_neg (by simp)]
    by_cases hk : f.Kind = 4
    · rw [if_pos (by simpa using hk), if_pos hk, loop, Option.bind_some]
      refine keys_j1 ?_ (by rw [List.length_map]; omega)
      exact List.pairwise_map.2 (h1.imp fun {a b} hab => .inr ⟨rfl, .inr ⟨rfl, hab⟩⟩)
    · rw [if_neg (by simpa using hk), if_neg hk]
      exact keys_j1 .nil (by simp)
  have hf3 : index_Keys.j3 f y false = some (if f.Kind = 1 ∧ y.Register.Set = true ∧ f.f_Type = 2 then [⟨2, 0, y.Register.S⟩] else if f.Kind = 4 then y.Elems.map fun s => (⟨2, 0, s⟩ : index_Key) else []) := by
    unfold index_Keys.j3
    rw [if_neg (by simp)]
    by_cases hk : f.Kind = 1
    · rw [if_pos (by simpa using hk)]
      cases hS : y.Register.Set with
      | false => rw [if_neg (by simp), hf2]; simp
      | true =>
        rw [if_pos rfl]
        by_cases ht : f.f_Type = 2
        · rw [if_pos ⟨hk, rfl, ht⟩]
          unfold index_Keys.j2
          rw [if_pos (by simpa using ht), app_of (by simp), Option.bind_some, ht]
          exact keys_j1 (List.pairwise_singleton _ _) (by simp)
        · rw [if_neg (fun h => ht h.2.2), show (f.f_Type == 2) = false by simpa using ht, hf2]
    · rw [if_neg (by simpa using hk), hf2]; simp [hk]
  unfold keysF
  by_cases hk : f.Kind = 1
  · rw [if_pos (by simpa using hk)]
    cases hS : y.Register.Set with
    | false => rw [if_neg (by simp), hf3]; simp [hS]
    | true =>
      rw [if_pos rfl]
      by_cases ht : f.f_Type = 1
      · rw [if_pos ⟨hk, rfl, ht⟩]
        unfold index_Keys.j3
        rw [if_pos (by simpa using ht), app_of (by simp), Option.bind_some, ht]
        exact keys_j1 (List.pairwise_singleton _ _) (by simp)
      · rw [if_neg (fun h => ht h.2.2), show (f.f_Type == 1) = false by simpa using ht, hf3, hS]
  · rw [if_neg (by simpa using hk), hf3]; simp [hk]
def kc (k : index_Key) : elasticstoreref32_Key := ⟨k.f_Type, k.N, k.S⟩
theorem kc_inj {a b : index_Key} (h : kc a = kc b) : a = b := by
  obtain ⟨t, n, s⟩ := a
  obtain ⟨t', n', s'⟩ := b
  unfold kc at h
  simp only [elasticstoreref32_Key.mk.injEq] at h
  obtain ⟨rfl, rfl, rfl⟩ := h
  rfl
theorem rKeys_eq {f : schema_Field} {o : fold_Object} (g : GO o) : esref32_Keys f o = some ((keysOf f o).map kc) := by
  unfold esref32_Keys
  have hgl := g.len
  rw [rFieldOf_eq (by omega), Option.bind_some]
  obtain ⟨h1, h2⟩ := fieldN_good g f.Name
  unfold keysOf
  obtain ⟨y, hy⟩ : ∃ y, y = fieldN o f.Name := ⟨_, rfl⟩
  have hy' : (get FN_ o.Fields f.Name).getD { fold_zero with Name := f.Name } = y := hy.symm
  rw [← hy] at h1 h2 ⊢
  simp only [hy']
  have loop : loopO (esref32_Keys.l1 y) ([], 0) = some (y.Elems.map fun s => (⟨2, 0, s⟩ : elasticstoreref32_Key)) := by
    have := loopO_up (step := esref32_Keys.l1 y) (fun k => ((y.Elems.take k).map fun s => (⟨2, 0, s⟩ : elasticstoreref32_Key), (k : Int))) y.Elems.length (b := y.Elems.map fun s => (⟨2, 0, s⟩ : elasticstoreref32_Key)) (fun k hk => ?_) ?_
    · exact this
    · unfold esref32_Keys.l1
      simp only [lt_of_len hk, if_true, idx_nat hk, Option.bind_some]
      rw [app_of (by simp; omega), Option.bind_some, letV_of, wcast hk (by omega), take_snoc hk, List.map_append]
      rfl
    · unfold esref32_Keys.l1
      simp only [not_lt_len, Bool.false_eq_true, if_false, List.take_length]
  have hm : (y.Elems.map fun s => (⟨2, 0, s⟩ : index_Key)).map kc = y.Elems.map fun s => (⟨2, 0, s⟩ : elasticstoreref32_Key) := by rw [List.map_map]; rfl
  have hf2 : esref32_Keys.j2 f y false = some ((if f.Kind = 4 then y.Elems.map fun s => (⟨2, 0, s⟩ : index_Key) else []).map kc) := by
    unfold esref32_Keys.j2
    rw [if_neg (by simp)]
    by_cases hk : f.Kind = 4
    · rw [if_pos (by simpa using hk), if_pos hk, loop, Option.bind_some, hm]
      rfl
    · rw [if_neg (by simpa using hk), if_neg hk]
      rfl
  have hf3 : esref32_Keys.j3 f y false = some ((if f.Kind = 1 ∧ y.Register.Set = true ∧ f.f_Type = 2 then [⟨2, 0, y.Register.S⟩] else if f.Kind = 4 then y.Elems.map fun s => (⟨2, 0, s⟩ : index_Key) else []).map kc) := by
    unfold esref32_Keys.j3
    rw [if_neg (by simp)]
    by_cases hk : f.Kind = 1
    · rw [if_pos (by simpa using hk)]
      cases hS : y.Register.Set with
      | false => rw [if_neg (by simp), hf2]; simp
      | true =>
        rw [if_pos rfl]
        by_cases ht : f.f_Type = 2
        · rw [if_pos ⟨hk, rfl, ht⟩]
          unfold esref32_Keys.j2
          rw [if_pos (by simpa using ht), app_of (by simp), Option.bind_some]
          rfl
        · rw [if_neg (fun h => ht h.2.2), show (f.f_Type == 2) = false by simpa using ht, hf2]
    · rw [if_neg (by simpa using hk), hf2]; simp [hk]
  unfold keysF
  by_cases hk : f.Kind = 1
  · rw [if_pos (by simpa using hk)]
    cases hS : y.Register.Set with
    | false => rw [if_neg (by simp), hf3]; simp [hS]
    | true =>
      rw [if_pos rfl]
      by_cases ht : f.f_Type = 1
      · rw [if_pos ⟨hk, rfl, ht⟩]
        unfold esref32_Keys.j3
        rw [if_pos (by simpa using ht), app_of (by simp), Option.bind_some]
        rfl
      · rw [if_neg (fun h => ht h.2.2), show (f.f_Type == 1) = false by simpa using ht, hf3, hS]
  · rw [if_neg (by simpa using hk), hf3]; simp [hk]
def pairsOf (f : schema_Field) (objs : List fold_Object) : List index_pair := objs.flatMap fun o => (keysOf f o).map fun k => ⟨k, o.Name⟩
theorem pairsOf_mem {f : schema_Field} {objs : List fold_Object} {p : index_pair} : p ∈ pairsOf f objs ↔ ∃ o ∈ objs, o.Name = p.f_object ∧ p.f_key ∈ keysOf f o := by
  unfold pairsOf
  rw [List.mem_flatMap]
  constructor
  · rintro ⟨o, ho, hp⟩
    obtain ⟨k, hk, rfl⟩ := List.mem_map.1 hp
    exact ⟨o, ho, rfl, hk⟩
  · rintro ⟨o, ho, hn, hk⟩
    refine ⟨o, ho, List.mem_map.2 ⟨p.f_key, hk, ?_⟩⟩
    rw [hn]
theorem pairsOf_length {f : schema_Field} : ∀ {objs : List fold_Object}, (∀ o ∈ objs, GO o) → (pairsOf f objs).length ≤ 100 * objs.length
  | [], _ => Nat.zero_le _
  | o :: objs, h => by
    have h1 := keysOf_length (f := f) (h o (by simp))
    have h2 := pairsOf_length (f := f) (objs := objs) fun q hq => h q (by simp [hq])
    unfold pairsOf at h2 ⊢
    rw [List.flatMap_cons, List.length_append, List.length_map, List.length_cons]
    omega
theorem pairsOf_snoc (f : schema_Field) (objs : List fold_Object) (o : fold_Object) : pairsOf f (objs ++ [o]) = pairsOf f objs ++ (keysOf f o).map fun k => ⟨k, o.Name⟩ := by
  unfold pairsOf
  rw [List.flatMap_append, List.flatMap_cons, List.flatMap_nil, List.append_nil]
theorem pairs_eq {f : schema_Field} {objs : List fold_Object} (h : ∀ o ∈ objs, GO o) (hl : objs.length ≤ 1000) : index_pairs f objs = some (pairsOf f objs) := by
  unfold index_pairs
  have := loopO_up (step := index_pairs.l2 f objs) (fun k => (pairsOf f (objs.take k), (k : Int))) objs.length (b := pairsOf f objs) (fun k hk => ?_) ?_
  · have this : loopO (index_pairs.l2 f objs) ([], 0) = some (pairsOf f objs) := this
    rw [this]
    rfl
  · have hg := h _ (List.getElem_mem hk)
    have hkl := keysOf_length (f := f) hg
    have hpl : (pairsOf f (objs.take k)).length ≤ 100 * 1000 := by
      have := pairsOf_length (f := f) (objs := objs.take k) fun q hq => h q (List.mem_of_mem_take hq)
      rw [List.length_take] at this
      omega
    unfold index_pairs.l2
    simp only [lt_of_len hk, if_true, idx_nat hk, Option.bind_some]
    rw [index_Keys_eq hg, Option.bind_some]
    have inner := loopO_up (step := index_pairs.l1 objs[k] (keysOf f objs[k])) (fun j => (pairsOf f (objs.take k) ++ ((keysOf f objs[k]).take j).map fun q => ⟨q, objs[k].Name⟩, (j : Int))) (keysOf f objs[k]).length (b := pairsOf f (objs.take k) ++ (keysOf f objs[k]).map fun q => ⟨q, objs[k].Name⟩) (fun j hj => ?_) ?_
    · have inner : loopO (index_pairs.l1 objs[k] (keysOf f objs[k])) (pairsOf f (objs.take k) ++ [], 0) = _ := inner
      rw [List.append_nil] at inner
      rw [inner, Option.bind_some]
      unfold index_pairs.j2
      rw [letV_of, wcast hk (by omega), take_snoc hk, pairsOf_snoc]
    · unfold index_pairs.l1
      simp only [lt_of_len hj, if_true, idx_nat hj, Option.bind_some]
      rw [app_of (by simp only [List.length_append, List.length_map, List.length_take, List.length_singleton]; omega), Option.bind_some, letV_of, wcast hj (by omega), take_snoc hj, List.map_append, List.append_assoc]
      rfl
    · unfold index_pairs.l1
      simp only [not_lt_len, Bool.false_eq_true, if_false, List.take_length]
  · unfold index_pairs.l2
    simp only [not_lt_len, Bool.false_eq_true, if_false, List.take_length]
end Go.Proofs.YtpfgdjfiimknlaaGreat
set_option linter.unusedVariables false
set_option linter.unusedSimpArgs false
namespace Go.Proofs.YtpfgdjfiimknlaaGreat
open Go Go.Proofs.YtpfgdjfiimknlaaGreatL
structure IsIx (P : index_Key → List UInt8 → Prop) (es : List index_Entry) : Prop where
  srt : es.Pairwise fun a b => keyLt a.Key b.Key
  asc : ∀ e ∈ es, Asc e.Objects
  ne : ∀ e ∈ es, e.Objects ≠ []
  mem : ∀ k s, (∃ e ∈ es, e.Key = k ∧ s ∈ e.Objects) ↔ P k s
theorem ix_key {es : List index_Entry} (h : es.Pairwise fun a b => keyLt a.Key b.Key) {a b : index_Entry} (ha : a ∈ es) (hb : b ∈ es) (e : a.Key = b.Key) : a = b := by
  induction es with
  | nil => simp at ha
  | cons c es ih =>
    have h1 := (List.pairwise_cons.1 h).1
    have h2 := (List.pairwise_cons.1 h).2
    rcases List.mem_cons.1 ha with p | p <;> rcases List.mem_cons.1 hb with q | q
    · rw [p, q]
    · rw [p] at e; exact absurd e (keyLt_ne (h1 b q))
    · rw [q] at e; exact absurd e.symm (keyLt_ne (h1 a p))
    · exact ih h2 p q
theorem IsIx.obj {P : index_Key → List UInt8 → Prop} {es : List index_Entry} (h : IsIx P es) {e : index_Entry} (he : e ∈ es) (s : List UInt8) : s ∈ e.Objects ↔ P e.Key s := by
  rw [← h.mem]
  constructor
  · exact fun hs => ⟨e, he, rfl, hs⟩
  · rintro ⟨e', he', hk, hs⟩
    rw [← ix_key h.srt he' he hk]
    exact hs
theorem IsIx.sub {P : index_Key → List UInt8 → Prop} {es es' : List index_Entry} (h : IsIx P es) (h' : IsIx P es') {e : index_Entry} (he : e ∈ es) : e ∈ es' := by
  obtain ⟨s, hs⟩ : ∃ s, s ∈ e.Objects := by
    cases ho : e.Objects with
    | nil => exact absurd ho (h.ne e he)
    | cons s l => exact ⟨s, by simp⟩
  obtain ⟨e', he', hk, _⟩ := (h'.mem e.Key s).2 ((h.obj he s).1 hs)
  have : e.Objects = e'.Objects := ascS_ext (h.asc e he) (h'.asc e' he') fun x => by rw [h.obj he, h'.obj he', hk]
  have e2 : e = e' := by
    obtain ⟨k, o⟩ := e
    obtain ⟨k', o'⟩ := e'
    simp only at this hk
    rw [this, hk]
  rw [e2]
  exact he'
theorem IsIx.uniq {P : index_Key → List UInt8 → Prop} {es es' : List index_Entry} (h : IsIx P es) (h' : IsIx P es') : es = es' :=
  srt_ext (lt := fun a b => keyLt a.Key b.Key) (fun _ => keyLt_irrefl _) (fun _ _ _ => keyLt_trans) h.srt h'.srt fun x => ⟨fun hx => h.sub h' hx, fun hx => h'.sub h hx⟩
theorem IsIx.congr {P Q : index_Key → List UInt8 → Prop} {es : List index_Entry} (h : IsIx P es) (hpq : ∀ k s, P k s ↔ Q k s) : IsIx Q es := ⟨h.srt, h.asc, h.ne, fun k s => by rw [h.mem, hpq]⟩
section
variable {κ β : Type} [BEq κ] [LawfulBEq κ]
theorem nodup_lookupK : ∀ {x : List (κ × β)}, (x.map (·.1)).Nodup → ∀ o ∈ x, x.lookup o.1 = some o.2
  | [], _, o, h => by simp at h
  | a :: x, hn, o, h => by
    rw [List.map_cons, List.nodup_cons] at hn
    rw [List.lookup_cons]
    rcases List.mem_cons.1 h with rfl | h
    · simp
    · have : (o.1 == a.1) = false := by
        rw [beq_eq_false_iff_ne]
        exact fun e => hn.1 (List.mem_map.2 ⟨o, h, e⟩)
      rw [this]
      exact nodup_lookupK hn.2 o h
theorem lookup_memK {x : List (κ × β)} {k : κ} {b : β} (h : x.lookup k = some b) : (k, b) ∈ x := by
  induction x with
  | nil => cases h
  | cons a x ih =>
    rw [List.lookup_cons] at h
    cases hk : k == a.1 with
    | true =>
      rw [hk] at h
      have e : k = a.1 := by simpa using hk
      have : a = (k, b) := by rw [e]; exact Prod.ext rfl (Option.some.inj h)
      rw [this]; simp
    | false => rw [hk] at h; exact List.mem_cons_of_mem _ (ih h)
end
structure Grp (l : List index_pair) (gs : List (index_Key × List index_pair)) : Prop where
  nd : (gs.map (·.1)).Nodup
  len : gs.length ≤ l.length
  at_ : ∀ k, gs.lookup k = if l.filter (fun p => decide (p.f_key = k)) = [] then none else some (l.filter fun p => decide (p.f_key = k))
theorem groupBy_ex {l : List index_pair} (hl : l.length ≤ 1000000) : ∃ gs, index_groupBy l = some gs ∧ Grp l gs := by
  unfold index_groupBy
  refine loopO_inv (fun n s => s.1 = (n : Int) ∧ Grp (l.take n) s.2) l.length ⟨rfl, ⟨by simp, by simp, fun k => by simp⟩⟩ ?_ ?_
  · rintro n ⟨i, gs⟩ hn ⟨hi, g⟩
    simp only at hi g
    subst hi
    have glen := g.len
    rw [List.length_take] at glen
    unfold index_groupBy.l1
    simp only [lt_of_len hn, if_true, idx_nat hn, Option.bind_some]
    have e1 : index_pair_group l[n] = some l[n].f_key := rfl
    have hfl : ((gs.lookup l[n].f_key).getD []) = (l.take n).filter fun p => decide (p.f_key = l[n].f_key) := by
      rw [g.at_]
      split
      · rename_i h; rw [h]; rfl
      · rfl
    have hfl2 := List.length_filter_le (fun p => decide (p.f_key = l[n].f_key)) (l.take n)
    rw [List.length_take] at hfl2
    rw [e1, Option.bind_some, hfl, app_of (by rw [List.length_singleton]; omega), Option.bind_some, letV_of, wcast hn (by omega)]
    refine ⟨_, rfl, rfl, ?_⟩
    simp only
    refine ⟨(mset_keys _ _ _ g.nd).1, ?_, fun k => ?_⟩
    · have := mset_length l[n].f_key ((l.take n).filter (fun p => decide (p.f_key = l[n].f_key)) ++ [l[n]]) gs
      rw [List.length_take]
      omega
    · rw [mset_lookup, take_snoc hn, List.filter_append]
      by_cases hk : k = l[n].f_key
      · rw [if_pos (by simp [hk]), ← hk, if_neg]
        · congr 2
          rw [List.filter_cons, if_pos (by simp [hk])]
          rfl
        · rw [List.filter_cons, if_pos (by simp [hk])]
          simp
      · have e2 : [l[n]].filter (fun p => decide (p.f_key = k)) = [] := by
          rw [List.filter_cons, if_neg (by simpa using fun e => hk e.symm)]
          rfl
        rw [if_neg (by simpa using hk), g.at_, e2, List.append_nil]
  · rintro ⟨i, gs⟩ ⟨hi, g⟩
    simp only at hi g
    subst hi
    unfold index_groupBy.l1
    simp only [not_lt_len, Bool.false_eq_true, if_false]
    rw [List.take_length] at g
    exact ⟨gs, rfl, g⟩
def ent (p : index_Key × List index_pair) : index_Entry := ⟨p.1, ascL (p.2.map fun q => q.f_object)⟩
def srtE (es : List index_Entry) : List index_Entry := es.mergeSort fun a b => !decide (keyCmp b.Key a.Key < 0)
theorem objs_loop {g : List index_pair} (hl : g.length ≤ 1000000) : loopO (index_collect.l1 g) (0, []) = some (g.map fun q => q.f_object) := by
  have := loopO_up (step := index_collect.l1 g) (fun k => ((k : Int), (g.take k).map fun q => q.f_object)) g.length (b := g.map fun q => q.f_object) (fun k hk => ?_) ?_
  · exact this
  · unfold index_collect.l1
    simp only [lt_of_len hk, if_true, idx_nat hk, Option.bind_some]
    rw [app_of (by simp only [List.length_map, List.length_take, List.length_singleton]; omega), Option.bind_some, letV_of, wcast hk (by omega), take_snoc hk, List.map_append]
    rfl
  · unfold index_collect.l1
    simp only [not_lt_len, Bool.false_eq_true, if_false, List.take_length]
theorem ents_fold : ∀ (t : List (index_Key × List index_pair)) (es : List index_Entry), (∀ p ∈ t, p.2.length ≤ 1000000) → es.length + t.length ≤ 1000000 →
    foldO (fun p : index_Key × (List index_pair) => index_collect.l2 p.1 p.2) t es = some (.inl (es ++ t.map ent))
  | [], es, _, _ => by rw [foldO, List.map_nil, List.append_nil]
  | p :: t, es, h, hl => by
    have hp := h p (by simp)
    rw [List.length_cons] at hl
    have step : index_collect.l2 p.1 p.2 es = some (.inl (es ++ [ent p])) := by
      unfold index_collect.l2 index_collect.j2
      rw [objs_loop hp, Option.bind_some, ascending_eq (by rw [List.length_map]; omega), Option.bind_some, app_of (by rw [List.length_singleton]; omega), Option.bind_some]
      rfl
    rw [foldO, step]
    have := ents_fold t (es ++ [ent p]) (fun q hq => h q (by simp [hq])) (by rw [List.length_append, List.length_singleton]; omega)
    simp only
    rw [this, List.map_cons, List.append_assoc]
    rfl
theorem srtE_perm (es : List index_Entry) : (srtE es).Perm es := List.mergeSort_perm _ _
theorem sortE_eq {es : List index_Entry} (h : (es.map (·.Key)).Nodup) (hl : es.length ≤ 1000000) : slices_SortFunc_Entry es = some (srtE es) ∧ (srtE es).Pairwise fun a b => keyLt a.Key b.Key := by
  have hp : es.Pairwise fun a b => decide (keyCmp a.Key b.Key < 0) = true ∨ decide (keyCmp b.Key a.Key < 0) = true := by
    refine (List.pairwise_map.1 h).imp fun {a b} hab => ?_
    simp only [decide_eq_true_eq, keyCmp_lt]
    refine Classical.byContradiction fun hc => ?_
    rw [not_or] at hc
    exact hab (key_tri hc.1 hc.2)
  have e1 : slices_SortFunc_Entry es = some (srtE es) := by
    unfold slices_SortFunc_Entry sortU
    rw [if_pos ⟨hp, by omega⟩]
    rfl
  refine ⟨e1, ?_⟩
  have h1 := sortU_sorted (swo_keys fun e : index_Entry => e.Key) (xs := es) (ys := srtE es) e1
  have h2 := pairwise_perm (fun a b h => h.symm) (srtE_perm es).symm hp
  refine (h1.and h2).imp fun {a b} hab => ?_
  obtain ⟨a1, a2⟩ := hab
  simp only [decide_eq_true_eq, decide_eq_false_iff_not, keyCmp_lt] at a1 a2
  exact a2.resolve_right a1
theorem collect_eq {f : schema_Field} {l : List index_pair} (hl : l.length ≤ 1000000) :
    ∃ es, index_collect f l = some ⟨f, es⟩ ∧ IsIx (fun k s => (⟨k, s⟩ : index_pair) ∈ l) es ∧ es.length ≤ l.length ∧ ∀ e ∈ es, e.Objects.length ≤ l.length := by
  obtain ⟨gs, e1, g⟩ := groupBy_ex hl
  have glen := g.len
  have gmem : ∀ p : index_Key × List index_pair, p ∈ gs → p.2 = (l.filter fun q => decide (q.f_key = p.1)) ∧ p.2 ≠ [] := by
    intro p hp
    have h1 := nodup_lookupK g.nd p hp
    rw [g.at_] at h1
    split at h1
    · cases h1
    · rename_i hne
      have := Option.some.inj h1
      exact ⟨this.symm, by rw [← this]; exact hne⟩
  have facts : ∀ t : List (index_Key × List index_pair), t.Perm gs → (foldO (fun p : index_Key × (List index_pair) => index_collect.l2 p.1 p.2) t []) = some (.inl (t.map ent)) ∧ slices_SortFunc_Entry (t.map ent) = some (srtE (t.map ent)) ∧ IsIx (fun k s => (⟨k, s⟩ : index_pair) ∈ l) (srtE (t.map ent)) := by
    intro t ht
    have tl : t.length ≤ 1000000 := by rw [ht.length_eq]; omega
    have tm : ∀ p ∈ t, p.2.length ≤ l.length := fun p hp => by
      rw [(gmem p (ht.mem_iff.1 hp)).1]
      exact List.length_filter_le _ _
    have f1 := ents_fold t [] (fun p hp => Nat.le_trans (tm p hp) hl) (by simpa using tl)
    rw [List.nil_append] at f1
    have nd : ((t.map ent).map (·.Key)).Nodup := by
      rw [List.map_map]
      exact ((ht.map (·.1)).nodup_iff).2 g.nd
    obtain ⟨s1, s2⟩ := sortE_eq nd (by rw [List.length_map]; exact tl)
    refine ⟨f1, s1, s2, fun e he => ?_, fun e he => ?_, fun k s => ?_⟩
    · obtain ⟨p, _, rfl⟩ := List.mem_map.1 ((srtE_perm _).mem_iff.1 he)
      exact ascL_asc _
    · obtain ⟨p, hp, rfl⟩ := List.mem_map.1 ((srtE_perm _).mem_iff.1 he)
      obtain ⟨q, hq⟩ : ∃ q, q ∈ p.2 := by
        cases h2 : p.2 with
        | nil => exact absurd h2 (gmem p (ht.mem_iff.1 hp)).2
        | cons q _ => exact ⟨q, by simp⟩
      intro h0
      have : q.f_object ∈ (ent p).Objects := (ascL_mem _ _).2 (List.mem_map.2 ⟨q, hq, rfl⟩)
      rw [h0] at this
      simp at this
    · constructor
      · rintro ⟨e, he, hk, hs⟩
        obtain ⟨p, hp, rfl⟩ := List.mem_map.1 ((srtE_perm _).mem_iff.1 he)
        obtain ⟨q, hq, rfl⟩ := List.mem_map.1 ((ascL_mem _ _).1 hs)
        rw [(gmem p (ht.mem_iff.1 hp)).1, List.mem_filter] at hq
        have hk2 : q.f_key = p.1 := by simpa using hq.2
        have hk : p.1 = k := hk
        rw [← hk, ← hk2]
        exact hq.1
      · intro hm
        have hf : (⟨k, s⟩ : index_pair) ∈ l.filter fun q => decide (q.f_key = k) := List.mem_filter.2 ⟨hm, by simp⟩
        have hlk : gs.lookup k = some (l.filter fun q => decide (q.f_key = k)) := by
          rw [g.at_, if_neg]
          intro h0
          rw [h0] at hf
          simp at hf
        have hg := lookup_memK hlk
        refine ⟨ent (k, l.filter fun q => decide (q.f_key = k)), (srtE_perm _).mem_iff.2 (List.mem_map.2 ⟨_, ht.mem_iff.2 hg, rfl⟩), rfl, ?_⟩
        exact (ascL_mem _ _).2 (List.mem_map.2 ⟨_, hf, rfl⟩)
  obtain ⟨_, _, ix0⟩ := facts gs (.refl _)
  refine ⟨srtE (gs.map ent), ?_, ix0, ?_, fun e he => ?_⟩
  · unfold index_collect
    rw [e1, Option.bind_some]
    refine permI fun t ht => ?_
    obtain ⟨f1, f2, f3⟩ := facts t ht
    rw [f1, Option.bind_some]
    simp only
    unfold index_collect.j1
    rw [f2, Option.bind_some, f3.uniq ix0]
  · rw [(srtE_perm _).length_eq, List.length_map]
    exact glen
  · obtain ⟨p, hp, rfl⟩ := List.mem_map.1 ((srtE_perm _).mem_iff.1 he)
    refine Nat.le_trans (ascL_length _) ?_
    rw [List.length_map, (gmem p hp).1]
    exact List.length_filter_le _ _
def PB (f : schema_Field) (objs : List fold_Object) (k : index_Key) (s : List UInt8) : Prop := ∃ o ∈ objs, o.Name = s ∧ k ∈ keysOf f o
structure GX (P : index_Key → List UInt8 → Prop) (es : List index_Entry) : Prop where
  ix : IsIx P es
  len : es.length ≤ 10000
  olen : ∀ e ∈ es, e.Objects.length ≤ 10000
theorem Build_eq (f : schema_Field) {objs : List fold_Object} (h : ∀ o ∈ objs, GO o) (hl : objs.length ≤ 100) : ∃ es, index_Build f ⟨objs⟩ = some ⟨f, es⟩ ∧ GX (PB f objs) es := by
  have hpl := pairsOf_length (f := f) h
  obtain ⟨es, e1, e2, e3, e4⟩ := collect_eq (f := f) (l := pairsOf f objs) (by omega)
  refine ⟨es, ?_, e2.congr fun k s => pairsOf_mem, by omega, fun e he => by have := e4 e he; omega⟩
  unfold index_Build
  rw [pairs_eq h (by omega), Option.bind_some, e1, Option.bind_some]
theorem GX.uniq {P : index_Key → List UInt8 → Prop} {es es' : List index_Entry} (h : GX P es) (h' : GX P es') : es = es' := h.ix.uniq h'.ix
end Go.Proofs.YtpfgdjfiimknlaaGreat
set_option linter.unusedVariables false
set_option linter.unusedSimpArgs false
namespace Go.Proofs.YtpfgdjfiimknlaaGreat
open Go Go.Proofs.YtpfgdjfiimknlaaGreatL
theorem Compare_eq (a b : index_Key) : index_Compare a b = some (keyCmp a b) := by
  unfold index_Compare
  rw [compare_eq, Option.bind_some, compare64_eq, Option.bind_some, compareS_eq, Option.bind_some, or_eq, Option.bind_some]
  rfl
theorem cmpI_swap (x y : Int) : cmpI y x = - cmpI x y := by
  unfold cmpI
  split <;> split <;> omega
theorem cmpS_swap (x y : List UInt8) : cmpS y x = - cmpS x y := by
  unfold cmpS
  cases h1 : Op.bytesLess x y with
  | true => rw [bl_asymm h1]; rfl
  | false => cases h2 : Op.bytesLess y x <;> rfl
theorem keyCmp_swap (a b : index_Key) : keyCmp b a = - keyCmp a b := by
  unfold keyCmp
  rw [cmpI_swap a.f_Type, cmpI_swap a.N, cmpS_swap a.S]
  by_cases h1 : cmpI a.f_Type b.f_Type = 0
  · by_cases h2 : cmpI a.N b.N = 0
    · simp [h1, h2]
    · simp [h1, h2]
  · simp [h1]
theorem keyCmp_gt (a b : index_Key) : 0 < keyCmp a b ↔ keyLt b a := by
  rw [← keyCmp_lt, keyCmp_swap b a]
  omega
theorem keyCmp_le (a b : index_Key) : keyCmp a b ≤ 0 ↔ ¬ keyLt b a := by
  rw [← keyCmp_gt]
  omega
theorem keyCmp_zero (a b : index_Key) : keyCmp a b = 0 ↔ a = b := by
  constructor
  · intro h
    refine key_tri ?_ ?_
    · rw [← keyCmp_lt]; omega
    · rw [← keyCmp_gt]; omega
  · rintro rfl
    have := keyCmp_swap a a
    omega
theorem keyCmp_vals (a b : index_Key) : keyCmp a b = -1 ∨ keyCmp a b = 0 ∨ keyCmp a b = 1 := by
  have hI : ∀ x y : Int, cmpI x y = -1 ∨ cmpI x y = 0 ∨ cmpI x y = 1 := fun x y => by
    unfold cmpI; split
    · exact .inl rfl
    · split
      · exact .inr (.inr rfl)
      · exact .inr (.inl rfl)
  unfold keyCmp
  split
  · exact hI _ _
  · split
    · exact hI _ _
    · unfold cmpS
      split
      · exact .inl rfl
      · split
        · exact .inr (.inr rfl)
        · exact .inr (.inl rfl)
theorem rCompare_eq (a b : index_Key) : esref32_Compare (kc a) (kc b) = some (keyCmp a b) := by
  have hj : ∀ c : Bool, (c = true ↔ keyLt a b) → esref32_Compare.j1 (kc a) (kc b) c = some (keyCmp a b) := by
    intro c hc
    unfold esref32_Compare.j1
    have hv := keyCmp_vals a b
    cases c with
    | true =>
      have := (keyCmp_lt a b).2 (hc.1 rfl)
      rw [if_pos rfl]
      congr 1
      omega
    | false =>
      have hn : ¬ keyCmp a b < 0 := fun h => by
        have := hc.2 ((keyCmp_lt a b).1 h)
        cases this
      rw [if_neg (by simp)]
      by_cases he : a = b
      · subst he
        rw [if_pos (by simp), (keyCmp_zero a a).2 rfl]
      · rw [if_neg (by
          rw [decide_eq_true_eq]
          exact fun h => he (kc_inj h))]
        have : keyCmp a b ≠ 0 := fun h => he ((keyCmp_zero a b).1 h)
        congr 1
        omega
  unfold esref32_Compare
  show (if decide (a.f_Type < b.f_Type) = true then esref32_Compare.j1 (kc a) (kc b) true else if (a.f_Type == b.f_Type) = true then (if decide (a.N < b.N) = true then esref32_Compare.j1 (kc a) (kc b) true else if (a.N == b.N) = true then esref32_Compare.j1 (kc a) (kc b) (Op.bytesLess a.S b.S) else esref32_Compare.j1 (kc a) (kc b) false) else esref32_Compare.j1 (kc a) (kc b) false) = _
  by_cases h1 : a.f_Type < b.f_Type
  · rw [if_pos (by simpa using h1)]
    exact hj true (by simp [keyLt, h1])
  · rw [if_neg (by simpa using h1)]
    by_cases h2 : a.f_Type = b.f_Type
    · rw [if_pos (by simpa using h2)]
      by_cases h3 : a.N < b.N
      · rw [if_pos (by simpa using h3)]
        exact hj true (by simp [keyLt, h2, h3])
      · rw [if_neg (by simpa using h3)]
        by_cases h4 : a.N = b.N
        · rw [if_pos (by simpa using h4)]
          exact hj _ (by simp [keyLt, h2, h4])
        · rw [if_neg (by simpa using h4)]
          exact hj false (by simp [keyLt, h2, h3, h4])
    · rw [if_neg (by simpa using h2)]
      exact hj false (by simp [keyLt, h1, h2])
theorem eqloop {α β : Type} [DecidableEq β] {step : Int → Option (Int ⊕ (Unit ⊕ Bool))} (c : α → β) (xs : List α) (ys : List β) (hl : xs.length = ys.length)
    (hs : ∀ (k : Nat) (h : k < xs.length), step (k : Int) = if c xs[k] = ys[k]'(by omega) then some (.inl ((k + 1 : Nat) : Int)) else some (.inr (.inr false))) (he : step (xs.length : Int) = some (.inr (.inl ()))) :
    loopO step 0 = some (if xs.map c = ys then .inl () else .inr false) := by
  have : ∀ m k, k + m = xs.length → loopO step (k : Int) = some (if (xs.drop k).map c = ys.drop k then .inl () else .inr false) := by
    intro m
    induction m with
    | zero =>
      intro k hk
      have hk : k = xs.length := by omega
      subst hk
      rw [loopO_done he, List.drop_length, hl, List.drop_length]
      rfl
    | succ m ih =>
      intro k hk
      have hk' : k < xs.length := by omega
      rw [List.drop_eq_getElem_cons hk', List.drop_eq_getElem_cons (show k < ys.length by omega), List.map_cons]
      have h1 := hs k hk'
      by_cases hc : c xs[k] = ys[k]'(by omega)
      · rw [if_pos hc] at h1
        rw [loopO_next h1, ih (k + 1) (by omega), hc]
        simp only [List.cons.injEq, true_and]
      · rw [if_neg hc] at h1
        rw [loopO_done h1, if_neg (fun h => hc (List.cons.inj h).1)]
  have h := this xs.length 0 (by omega)
  rw [List.drop_zero, List.drop_zero] at h
  exact h
theorem rstrings_eq {a b : List (List UInt8)} (hl : a.length ≤ 4611686018427387904) : esref32_EqualStrings a b = some (decide (a = b)) := by
  unfold esref32_EqualStrings
  by_cases h : a.length = b.length
  · rw [if_neg (by simp [h])]
    have key : loopO (esref32_EqualStrings.l1 a b) 0 = some (if a.map (fun x => x) = b then .inl () else .inr false) := by
      refine eqloop (fun x => x) a b h (fun k hk => ?_) ?_
      · unfold esref32_EqualStrings.l1
        simp only [lt_of_len hk, if_true, idx_nat hk, idx_nat (show k < b.length by omega), Option.bind_some]
        by_cases he : a[k] = b[k]'(by omega)
        · rw [if_neg (by simpa using he), if_pos he, letV_of, wcast hk (by omega)]
        · rw [if_pos (by simpa using he), if_neg he]
      · unfold esref32_EqualStrings.l1
        simp only [not_lt_len, Bool.false_eq_true, if_false]
    rw [key, Option.bind_some, List.map_id']
    by_cases he : a = b
    · rw [if_pos he]; simp [he, esref32_EqualStrings.j1]
    · rw [if_neg he]; simp [he]
  · rw [if_pos (by simp; omega)]
    have : a ≠ b := fun e => h (by rw [e])
    simp [this]
def ke (e : index_Entry) : elasticstoreref32_Entry := ⟨kc e.Key, e.Objects⟩
theorem ke_inj {a b : index_Entry} (h : ke a = ke b) : a = b := by
  obtain ⟨k, o⟩ := a
  obtain ⟨k', o'⟩ := b
  unfold ke at h
  simp only [elasticstoreref32_Entry.mk.injEq] at h
  rw [kc_inj h.1, h.2]
theorem map_ke_inj {a b : List index_Entry} (h : a.map ke = b.map ke) : a = b := List.map_inj_right (fun _ _ => ke_inj) |>.1 h
theorem same_eq {a b : List index_Entry} (hl : a.length ≤ 4611686018427387904) (ho : ∀ e ∈ a, e.Objects.length ≤ 4611686018427387904) : eslaw32_same a (b.map ke) = some (decide (a = b)) := by
  unfold eslaw32_same
  by_cases h : a.length = b.length
  · rw [if_neg (by simp [h])]
    have key : loopO (eslaw32_same.l1 a (b.map ke)) 0 = some (if a.map ke = b.map ke then .inl () else .inr false) := by
      refine eqloop ke a (b.map ke) (by simpa using h) (fun k hk => ?_) ?_
      · have hkb : k < (b.map ke).length := by rw [List.length_map]; omega
        unfold eslaw32_same.l1
        simp only [lt_of_len hk, if_true, idx_nat hk, idx_nat hkb, Option.bind_some, eslaw32_convert]
        rw [List.getElem_map]
        by_cases hc : kc a[k].Key = kc (b[k]'(by omega)).Key
        · rw [if_neg (by
            have : (⟨a[k].Key.f_Type, a[k].Key.N, a[k].Key.S⟩ : elasticstoreref32_Key) = (⟨(ke (b[k]'(by omega))).Key.f_Type, (ke (b[k]'(by omega))).Key.N, (ke (b[k]'(by omega))).Key.S⟩ : elasticstoreref32_Key) := hc
            rw [decide_eq_true this]; simp), rstrings_eq (ho _ (List.getElem_mem hk)), Option.bind_some]
          unfold eslaw32_same.j2
          by_cases hd : a[k].Objects = (ke (b[k]'(by omega))).Objects
          · rw [decide_eq_true hd, if_neg (by simp), letV_of, wcast hk (by omega), if_pos]
            show (⟨kc a[k].Key, a[k].Objects⟩ : elasticstoreref32_Entry) = ⟨kc (b[k]'(by omega)).Key, (b[k]'(by omega)).Objects⟩
            rw [hc, show a[k].Objects = (b[k]'(by omega)).Objects from hd]
          · rw [decide_eq_false hd, if_pos (by simp), if_neg (fun h => hd (congrArg elasticstoreref32_Entry.Objects h))]
        · rw [if_pos (by
            have : ¬ (⟨a[k].Key.f_Type, a[k].Key.N, a[k].Key.S⟩ : elasticstoreref32_Key) = (⟨(ke (b[k]'(by omega))).Key.f_Type, (ke (b[k]'(by omega))).Key.N, (ke (b[k]'(by omega))).Key.S⟩ : elasticstoreref32_Key) := hc
            rw [decide_eq_false this]; simp)]
          unfold eslaw32_same.j2
          rw [if_pos rfl, if_neg (fun h => hc (congrArg elasticstoreref32_Entry.Key h))]
      · unfold eslaw32_same.l1
        simp only [not_lt_len, Bool.false_eq_true, if_false]
    rw [key, Option.bind_some]
    by_cases he : a = b
    · rw [if_pos (by rw [he])]; simp [he, eslaw32_same.j1]
    · rw [if_neg (fun h => he (map_ke_inj h))]; simp [he]
  · rw [if_pos (by simp; omega)]
    have : a ≠ b := fun e => h (by rw [e])
    simp [this]
theorem ix_insert {P : index_Key → List UInt8 → Prop} {A B : List index_Entry} {k : index_Key} {n : List UInt8} (h : IsIx P (A ++ B)) (ha : ∀ a ∈ A, keyLt a.Key k) (hb : ∀ b ∈ B, keyLt k b.Key) :
    IsIx (fun k' s => P k' s ∨ (k' = k ∧ s = n)) (A ++ ⟨k, [n]⟩ :: B) := by
  have hs := List.pairwise_append.1 h.srt
  refine ⟨?_, fun e he => ?_, fun e he => ?_, fun k' s => ?_⟩
  · refine List.pairwise_append.2 ⟨hs.1, List.pairwise_cons.2 ⟨fun b hb' => hb b hb', hs.2.1⟩, fun a ha' b hb' => ?_⟩
    rcases List.mem_cons.1 hb' with rfl | hb'
    · exact ha a ha'
    · exact hs.2.2 a ha' b hb'
  · rcases List.mem_append.1 he with he | he
    · exact h.asc e (List.mem_append.2 (.inl he))
    · rcases List.mem_cons.1 he with rfl | he
      · exact List.pairwise_singleton _ _
      · exact h.asc e (List.mem_append.2 (.inr he))
  · rcases List.mem_append.1 he with he | he
    · exact h.ne e (List.mem_append.2 (.inl he))
    · rcases List.mem_cons.1 he with rfl | he
      · simp
      · exact h.ne e (List.mem_append.2 (.inr he))
  · constructor
    · rintro ⟨e, he, hk, hx⟩
      rcases List.mem_append.1 he with he | he
      · exact .inl ((h.mem _ _).1 ⟨e, List.mem_append.2 (.inl he), hk, hx⟩)
      · rcases List.mem_cons.1 he with rfl | he
        · exact .inr ⟨hk.symm, by simpa using hx⟩
        · exact .inl ((h.mem _ _).1 ⟨e, List.mem_append.2 (.inr he), hk, hx⟩)
    · rintro (h0 | ⟨rfl, rfl⟩)
      · obtain ⟨e, he, hk, hx⟩ := (h.mem _ _).2 h0
        rcases List.mem_append.1 he with he | he
        · exact ⟨e, List.mem_append.2 (.inl he), hk, hx⟩
        · exact ⟨e, List.mem_append.2 (.inr (List.mem_cons_of_mem _ he)), hk, hx⟩
      · exact ⟨⟨k', [s]⟩, by simp, rfl, by simp⟩
theorem ix_append {P : index_Key → List UInt8 → Prop} {A B : List index_Entry} {k : index_Key} {o : List (List UInt8)} {n : List UInt8} (h : IsIx P (A ++ ⟨k, o⟩ :: B)) (hn : ∀ s, P k s → Op.bytesLess s n = true) :
    IsIx (fun k' s => P k' s ∨ (k' = k ∧ s = n)) (A ++ ⟨k, o ++ [n]⟩ :: B) := by
  have hs := List.pairwise_append.1 h.srt
  have hc := List.pairwise_cons.1 hs.2.1
  have hm : (⟨k, o⟩ : index_Entry) ∈ A ++ ⟨k, o⟩ :: B := by simp
  refine ⟨?_, fun e he => ?_, fun e he => ?_, fun k' s => ?_⟩
  · refine List.pairwise_append.2 ⟨hs.1, List.pairwise_cons.2 ⟨fun b hb' => hc.1 b hb', hc.2⟩, fun a ha' b hb' => ?_⟩
    rcases List.mem_cons.1 hb' with rfl | hb'
    · exact hs.2.2 a ha' ⟨k, o⟩ (by simp)
    · exact hs.2.2 a ha' b (by simp [hb'])
  · rcases List.mem_append.1 he with he | he
    · exact h.asc e (List.mem_append.2 (.inl he))
    · rcases List.mem_cons.1 he with rfl | he
      · refine List.pairwise_append.2 ⟨h.asc _ hm, List.pairwise_singleton _ _, fun a ha b hb => ?_⟩
        have : b = n := by simpa using hb
        rw [this]
        exact hn a ((h.obj hm a).1 ha)
      · exact h.asc e (List.mem_append.2 (.inr (List.mem_cons_of_mem _ he)))
  · rcases List.mem_append.1 he with he | he
    · exact h.ne e (List.mem_append.2 (.inl he))
    · rcases List.mem_cons.1 he with rfl | he
      · simp
      · exact h.ne e (List.mem_append.2 (.inr (List.mem_cons_of_mem _ he)))
  · constructor
    · rintro ⟨e, he, hk, hx⟩
      rcases List.mem_append.1 he with he | he
      · exact .inl ((h.mem _ _).1 ⟨e, List.mem_append.2 (.inl he), hk, hx⟩)
      · rcases List.mem_cons.1 he with rfl | he
        · rcases List.mem_append.1 hx with hx | hx
          · exact .inl ((h.mem _ _).1 ⟨_, hm, hk, hx⟩)
          · exact .inr ⟨hk.symm, by simpa using hx⟩
        · exact .inl ((h.mem _ _).1 ⟨e, List.mem_append.2 (.inr (List.mem_cons_of_mem _ he)), hk, hx⟩)
    · rintro (h0 | ⟨rfl, rfl⟩)
      · obtain ⟨e, he, hk, hx⟩ := (h.mem _ _).2 h0
        rcases List.mem_append.1 he with he | he
        · exact ⟨e, List.mem_append.2 (.inl he), hk, hx⟩
        · rcases List.mem_cons.1 he with rfl | he
          · exact ⟨_, List.mem_append.2 (.inr (List.mem_cons_self ..)), hk, List.mem_append.2 (.inl hx)⟩
          · exact ⟨e, List.mem_append.2 (.inr (List.mem_cons_of_mem _ he)), hk, hx⟩
      · exact ⟨⟨k', o ++ [s]⟩, by simp, rfl, by simp⟩
theorem cpy_set {α : Type} {xs : List α} {z v : α} {p : Nat} (hp : p ≤ xs.length) : (cpyN (xs ++ [z]) (p + 1) p).set p v = xs.take p ++ v :: xs.drop p := by
  have e0 : (xs ++ [z]).length = xs.length + 1 := by simp
  have e1 : cpyN (xs ++ [z]) (p + 1) p = (xs ++ [z]).take (p + 1) ++ xs.drop p := by
    unfold cpyN
    rw [e0, show Nat.min (xs.length + 1 - p) (xs.length + 1 - (p + 1)) = xs.length - p by
      show min (xs.length + 1 - p) (xs.length + 1 - (p + 1)) = _
      omega]
    rw [List.drop_eq_nil_of_le (show (xs ++ [z]).length ≤ p + 1 + (xs.length - p) by omega), List.append_nil]
    have e3 : (xs.drop p ++ [z]).take (xs.length - p) = xs.drop p := List.take_left' (by rw [List.length_drop])
    rw [List.drop_append_of_le_length hp, e3]
  rw [e1, List.set_append_left _ _ (by rw [List.length_take]; omega)]
  have e2 : (xs ++ [z]).take (p + 1) = xs.take p ++ [(xs ++ [z])[p]'(by omega)] := by
    rw [take_snoc (by omega), List.take_append_of_le_length hp]
  rw [e2, List.set_append_right _ _ (by rw [List.length_take]; omega)]
  rw [show p - (xs.take p).length = 0 by rw [List.length_take]; omega]
  simp
end Go.Proofs.YtpfgdjfiimknlaaGreat
set_option linter.unusedVariables false
set_option linter.unusedSimpArgs false
namespace Go.Proofs.YtpfgdjfiimknlaaGreat
open Go Go.Proofs.YtpfgdjfiimknlaaGreatL
theorem split_at {α : Type} {xs : List α} {p : Nat} (hp : p < xs.length) : xs = xs.take p ++ xs[p] :: xs.drop (p + 1) := by
  rw [← List.drop_eq_getElem_cons hp, List.take_append_drop]
theorem find_key {es : List index_Entry} {ks : List index_Key} {q : Nat} (hq : q < ks.length) (hl : es.length ≤ 1000000) :
    ∃ b : Int, loopO (esref32_Build.l1 (ks.map kc) (es.map ke) (q : Int)) 0 = some b ∧ ∃ p : Nat, b = (p : Int) ∧ p ≤ es.length ∧ (∀ i, (h : i < p) → (h2 : i < es.length) → keyLt es[i].Key ks[q]) ∧ ∀ h : p < es.length, ¬ keyLt es[p].Key ks[q] := by
  have hqm : q < (ks.map kc).length := by rw [List.length_map]; exact hq
  refine loopO_ex (fun n s => s = (n : Int) ∧ n ≤ es.length ∧ ∀ i, (h : i < n) → (h2 : i < es.length) → keyLt es[i].Key ks[q]) es.length ⟨rfl, Nat.zero_le _, fun i h => absurd h (by omega)⟩ ?_ ?_
  · rintro n s hn ⟨rfl, _, h⟩
    have hnm : n < (es.map ke).length := by rw [List.length_map]; exact hn
    unfold esref32_Build.l1
    simp only [lt_of_len hnm, if_true, idx_nat hnm, idx_nat hqm, Option.bind_some]
    rw [List.getElem_map, List.getElem_map]
    rw [show (ke es[n]).Key = kc es[n].Key from rfl, rCompare_eq, Option.bind_some]
    unfold esref32_Build.j7
    by_cases hc : keyLt es[n].Key ks[q]
    · rw [if_pos (by rw [decide_eq_true_eq, keyCmp_lt]; exact hc), letV_of, wcast hn (by omega)]
      refine .inl ⟨_, rfl, rfl, hn, fun i hi h2 => ?_⟩
      by_cases he : i = n
      · subst he; exact hc
      · exact h i (by omega) h2
    · rw [if_neg (by rw [decide_eq_true_eq, keyCmp_lt]; exact hc)]
      exact .inr ⟨_, rfl, n, rfl, by omega, h, fun _ => hc⟩
  · rintro s ⟨rfl, _, h⟩
    have e0 : (es.map ke).length = es.length := List.length_map _
    unfold esref32_Build.l1 esref32_Build.j7
    rw [e0]
    simp only [not_lt_len, Bool.false_eq_true, if_false]
    exact ⟨_, rfl, es.length, rfl, Nat.le_refl _, h, fun h => absurd h (Nat.lt_irrefl _)⟩
theorem put_key {P : index_Key → List UInt8 → Prop} {objs : List fold_Object} {i : Nat} (hi : i < objs.length) {ks : List index_Key} {q : Nat} (hq : q < ks.length) (hks : ks.length ≤ 1000) {B : Nat} (hB : B + q ≤ 100000) {es : List index_Entry}
    (hx : IsIx P es) (h1 : es.length ≤ B + q) (h2 : ∀ e ∈ es, e.Objects.length ≤ B + q) (hn : ∀ s, P ks[q] s → Op.bytesLess s objs[i].Name = true) :
    ∃ s', esref32_Build.l2 ⟨objs⟩ (i : Int) (ks.map kc) (es.map ke, (q : Int)) = some (.inl s') ∧ ∃ es' : List index_Entry, s' = (es'.map ke, ((q + 1 : Nat) : Int)) ∧ IsIx (fun k s => P k s ∨ (k = ks[q] ∧ s = objs[i].Name)) es' ∧ es'.length ≤ B + (q + 1) ∧ ∀ e ∈ es', e.Objects.length ≤ B + (q + 1) := by
  have hqm : q < (ks.map kc).length := by rw [List.length_map]; exact hq
  have ekq : (ks.map kc)[q] = kc ks[q] := List.getElem_map _
  obtain ⟨_, f1, p, rfl, f2, f3, f4⟩ := find_key hq (es := es) (by omega)
  unfold esref32_Build.l2
  simp only [lt_of_len hqm, if_true]
  rw [f1, Option.bind_some]
  have j4 : ∀ (es' : List index_Entry) (hp : p < es'.length), es'[p].Objects.length ≤ B + q → esref32_Build.j4 ⟨objs⟩ (i : Int) (q : Int) (p : Int) (es'.map ke) = some (.inl ((es'.set p ⟨es'[p].Key, es'[p].Objects ++ [objs[i].Name]⟩).map ke, ((q + 1 : Nat) : Int))) := by
    intro es' hp ho
    have hpm : p < (es'.map ke).length := by rw [List.length_map]; exact hp
    unfold esref32_Build.j4
    rw [idx_nat hpm, Option.bind_some, List.getElem_map, show (ke es'[p]).Objects = es'[p].Objects from rfl, app_of (by rw [List.length_nil]; omega), Option.bind_some, idx_nat (show i < (⟨objs⟩ : fold_Store).Objects.length from hi), Option.bind_some, List.nil_append, app_of (by rw [List.length_singleton]; omega), Option.bind_some, Option.bind_some]
    unfold esref32_Build.j3
    rw [letV_of, letV_of, wcast hq (by omega), Int.toNat_natCast, List.map_set]
    rfl
  have j5f : ∀ hp : p < es.length, es[p].Key = ks[q] → ∃ s', esref32_Build.j5 ⟨objs⟩ (i : Int) (ks.map kc) (es.map ke) (q : Int) (p : Int) false = some (.inl s') ∧ ∃ es' : List index_Entry, s' = (es'.map ke, ((q + 1 : Nat) : Int)) ∧ IsIx (fun k s => P k s ∨ (k = ks[q] ∧ s = objs[i].Name)) es' ∧ es'.length ≤ B + (q + 1) ∧ ∀ e ∈ es', e.Objects.length ≤ B + (q + 1) := by
    intro hp hk
    unfold esref32_Build.j5
    rw [if_neg (by simp), j4 es hp (h2 _ (List.getElem_mem hp))]
    refine ⟨_, rfl, _, rfl, ?_, by rw [List.length_set]; omega, fun e he => ?_⟩
    · have e1 : es.set p ⟨es[p].Key, es[p].Objects ++ [objs[i].Name]⟩ = es.take p ++ ⟨es[p].Key, es[p].Objects ++ [objs[i].Name]⟩ :: es.drop (p + 1) := by
        rw [List.set_eq_take_append_cons_drop, if_pos hp]
      rw [e1, hk]
      refine ix_append (o := es[p].Objects) ?_ hn
      have e2 : (⟨ks[q], es[p].Objects⟩ : index_Entry) = es[p] := by rw [← hk]
      rw [e2, ← split_at hp]
      exact hx
    · rcases List.mem_or_eq_of_mem_set he with he | rfl
      · have := h2 e he; omega
      · have := h2 _ (List.getElem_mem hp)
        rw [List.length_append, List.length_singleton]
        omega
  have j5t : (∀ hp : p < es.length, es[p].Key ≠ ks[q]) → ∃ s', esref32_Build.j5 ⟨objs⟩ (i : Int) (ks.map kc) (es.map ke) (q : Int) (p : Int) true = some (.inl s') ∧ ∃ es' : List index_Entry, s' = (es'.map ke, ((q + 1 : Nat) : Int)) ∧ IsIx (fun k s => P k s ∨ (k = ks[q] ∧ s = objs[i].Name)) es' ∧ es'.length ≤ B + (q + 1) ∧ ∀ e ∈ es', e.Objects.length ≤ B + (q + 1) := by
    intro hne
    unfold esref32_Build.j5
    have em : es.map ke ++ [(⟨(⟨0, 0, []⟩ : elasticstoreref32_Key), []⟩ : elasticstoreref32_Entry)] = (es ++ [(⟨⟨0, 0, []⟩, []⟩ : index_Entry)]).map ke := by rw [List.map_append]; rfl
    rw [if_pos rfl, app_of (by rw [List.length_map, List.length_singleton]; omega), Option.bind_some, em, letV_of, w64n (by omega)]
    have el : ((es ++ [(⟨⟨0, 0, []⟩, []⟩ : index_Entry)]).map ke).length = es.length + 1 := by simp
    rw [if_pos (by rw [el]; omega), if_pos (by rw [el]; omega), letV_of, idx_nat hqm, Option.bind_some, Int.toNat_natCast, Int.toNat_natCast]
    have hcl := cpyN_length ((es ++ [(⟨⟨0, 0, []⟩, []⟩ : index_Entry)]).map ke) (p + 1) p (by rw [el]; omega) (by rw [el]; omega)
    rw [idx_nat (by rw [hcl, el]; omega), Option.bind_some, letV_of, ekq]
    have e3 : ((cpyN ((es ++ [(⟨⟨0, 0, []⟩, []⟩ : index_Entry)]).map ke) (p + 1) p).set p (⟨kc ks[q], []⟩ : elasticstoreref32_Entry)) = (es.take p ++ (⟨ks[q], []⟩ : index_Entry) :: es.drop p).map ke := by
      rw [← em, cpy_set (by rw [List.length_map]; exact f2), List.map_append, List.map_cons, List.map_take, List.map_drop]
      rfl
    rw [e3]
    have hlt : (es.take p).length = p := by rw [List.length_take]; omega
    have hpe : p < (es.take p ++ (⟨ks[q], []⟩ : index_Entry) :: es.drop p).length := by rw [List.length_append, List.length_cons, hlt]; omega
    have hge : (es.take p ++ (⟨ks[q], []⟩ : index_Entry) :: es.drop p)[p] = ⟨ks[q], []⟩ := by
      rw [List.getElem_append_right (by omega)]
      simp [hlt]
    rw [j4 _ hpe (by rw [hge]; exact Nat.zero_le _), hge]
    have e4 : (es.take p ++ (⟨ks[q], []⟩ : index_Entry) :: es.drop p).set p ⟨(⟨ks[q], []⟩ : index_Entry).Key, (⟨ks[q], []⟩ : index_Entry).Objects ++ [objs[i].Name]⟩ = es.take p ++ ⟨ks[q], [objs[i].Name]⟩ :: es.drop p := by
      rw [List.set_append_right _ _ (by omega), hlt, Nat.sub_self]
      rfl
    rw [e4]
    refine ⟨_, rfl, _, rfl, ?_, by rw [List.length_append, List.length_cons, hlt, List.length_drop]; omega, fun e he => ?_⟩
    · refine ix_insert (by rw [List.take_append_drop]; exact hx) (fun a ha => ?_) (fun b hb => ?_)
      · obtain ⟨r, hr, rfl⟩ := List.getElem_of_mem ha
        rw [List.length_take] at hr
        rw [List.getElem_take]
        exact f3 r (by omega) (by omega)
      · obtain ⟨r, hr, rfl⟩ := List.getElem_of_mem hb
        rw [List.length_drop] at hr
        rw [List.getElem_drop]
        have hp : p < es.length := by omega
        have c1 : keyLt ks[q] es[p].Key := by
          refine Classical.byContradiction fun hc => hne hp (key_tri (f4 hp) hc)
        by_cases hr0 : r = 0
        · subst hr0; exact c1
        · exact keyLt_trans c1 (List.pairwise_iff_getElem.1 hx.srt p (p + r) hp (by omega) (by omega))
    · rcases List.mem_append.1 he with he | he
      · have := h2 e (List.mem_of_mem_take he); omega
      · rcases List.mem_cons.1 he with rfl | he
        · simp; omega
        · have := h2 e (List.mem_of_mem_drop he); omega
  unfold esref32_Build.j6
  have el : (es.map ke).length = es.length := List.length_map _
  by_cases hp : p = es.length
  · rw [if_pos (by rw [el]; simp [hp])]
    exact j5t fun h => absurd h (by omega)
  · have hp : p < es.length := by omega
    rw [if_neg (by rw [el]; simp; omega), idx_nat (show p < (es.map ke).length by omega), Option.bind_some, idx_nat hqm, Option.bind_some, List.getElem_map, ekq]
    by_cases hk : es[p].Key = ks[q]
    · have e5 : (⟨(ke es[p]).Key.f_Type, (ke es[p]).Key.N, (ke es[p]).Key.S⟩ : elasticstoreref32_Key) = (⟨(kc ks[q]).f_Type, (kc ks[q]).N, (kc ks[q]).S⟩ : elasticstoreref32_Key) := by
        show kc es[p].Key = kc ks[q]
        rw [hk]
      rw [decide_eq_true e5]
      exact j5f hp hk
    · have e5 : ¬ (⟨(ke es[p]).Key.f_Type, (ke es[p]).Key.N, (ke es[p]).Key.S⟩ : elasticstoreref32_Key) = (⟨(kc ks[q]).f_Type, (kc ks[q]).N, (kc ks[q]).S⟩ : elasticstoreref32_Key) := fun h => hk (kc_inj h)
      rw [decide_eq_false e5]
      exact j5t fun _ => hk
theorem rBuild_eq (f : schema_Field) {objs : List fold_Object} (h : ∀ o ∈ objs, GO o) (hs : SA ON_ objs) (hl : objs.length ≤ 100) : ∃ es, esref32_Build f ⟨objs⟩ = some (es.map ke) ∧ IsIx (PB f objs) es := by
  unfold esref32_Build
  have key : ∃ b : List elasticstoreref32_Entry, loopO (esref32_Build.l3 f ⟨objs⟩) ([], 0) = some b ∧ ∃ es, b = es.map ke ∧ IsIx (PB f objs) es := by
    refine loopO_inv (fun n s => ∃ es, s = (es.map ke, (n : Int)) ∧ IsIx (PB f (objs.take n)) es ∧ es.length ≤ 100 * n ∧ ∀ e ∈ es, e.Objects.length ≤ 100 * n) objs.length ?_ ?_ ?_
    · exact ⟨[], rfl, ⟨.nil, by simp, by simp, fun k s => by simp [PB]⟩, by simp, by simp⟩
    · rintro n s hn ⟨es, rfl, hx, h1, h2⟩
      have hg := h _ (List.getElem_mem hn)
      have hkl := keysOf_length (f := f) hg
      have hksrt := keysOf_srt (f := f) hg
      unfold esref32_Build.l3
      simp only [lt_of_len hn, if_true]
      rw [idx_nat (show n < (⟨objs⟩ : fold_Store).Objects.length from hn), Option.bind_some, rKeys_eq hg, Option.bind_some]
      have inner : ∃ b : List elasticstoreref32_Entry, loopO (esref32_Build.l2 ⟨objs⟩ (n : Int) ((keysOf f objs[n]).map kc)) (es.map ke, 0) = some b ∧ ∃ es', b = es'.map ke ∧ IsIx (fun k s => PB f (objs.take n) k s ∨ (s = objs[n].Name ∧ k ∈ keysOf f objs[n])) es' ∧ es'.length ≤ 100 * n + 100 ∧ ∀ e ∈ es', e.Objects.length ≤ 100 * n + 100 := by
        refine loopO_inv (fun q s => ∃ es', s = (es'.map ke, (q : Int)) ∧ IsIx (fun k s => PB f (objs.take n) k s ∨ (s = objs[n].Name ∧ k ∈ (keysOf f objs[n]).take q)) es' ∧ es'.length ≤ 100 * n + q ∧ ∀ e ∈ es', e.Objects.length ≤ 100 * n + q) (keysOf f objs[n]).length ?_ ?_ ?_
        · exact ⟨es, rfl, hx.congr fun k s => by simp, by omega, fun e he => by have := h2 e he; omega⟩
        · rintro q s hq ⟨es', rfl, hx', h1', h2'⟩
          obtain ⟨s', g1, es'', g2, g3, g4, g5⟩ := put_key (objs := objs) hn hq (by omega) (B := 100 * n) (by omega) hx' h1' h2' (by
            intro s hs'
            rcases hs' with ⟨o, ho, rfl, _⟩ | ⟨_, hm⟩
            · obtain ⟨r, hr, rfl⟩ := List.getElem_of_mem ho
              rw [List.length_take] at hr
              rw [List.getElem_take]
              exact List.pairwise_iff_getElem.1 hs r n (by omega) hn (by omega)
            · obtain ⟨r, hr, he⟩ := List.getElem_of_mem hm
              rw [List.length_take] at hr
              rw [List.getElem_take] at he
              have := List.pairwise_iff_getElem.1 hksrt r q (by omega) hq (by omega)
              rw [he] at this
              exact absurd this (keyLt_irrefl _))
          refine ⟨s', g1, es'', g2, g3.congr fun k s => ?_, g4, g5⟩
          rw [take_snoc hq, List.mem_append, List.mem_singleton]
          constructor
          · rintro ((h | ⟨a, b⟩) | ⟨a, b⟩)
            · exact .inl h
            · exact .inr ⟨a, .inl b⟩
            · exact .inr ⟨b, .inr a⟩
          · rintro (h | ⟨a, b | b⟩)
            · exact .inl (.inl h)
            · exact .inl (.inr ⟨a, b⟩)
            · exact .inr ⟨b, a⟩
        · rintro s ⟨es', rfl, hx', h1', h2'⟩
          have e0 : ((keysOf f objs[n]).map kc).length = (keysOf f objs[n]).length := List.length_map _
          unfold esref32_Build.l2
          simp only
          rw [e0]
          simp only [not_lt_len, Bool.false_eq_true, if_false]
          refine ⟨_, rfl, es', rfl, ?_, by omega, fun e he => by have := h2' e he; omega⟩
          rw [List.take_length] at hx'
          exact hx'
      obtain ⟨b, b1, es', rfl, b3, b4, b5⟩ := inner
      rw [b1, Option.bind_some]
      unfold esref32_Build.j2
      rw [letV_of, wcast hn (by omega)]
      refine ⟨_, rfl, es', rfl, b3.congr fun k s => ?_, by omega, fun e he => by have := b5 e he; omega⟩
      rw [take_snoc hn]
      unfold PB
      constructor
      · rintro (⟨o, ho, a, b⟩ | ⟨a, b⟩)
        · exact ⟨o, List.mem_append.2 (.inl ho), a, b⟩
        · exact ⟨objs[n], List.mem_append.2 (.inr (by simp)), a.symm, b⟩
      · rintro ⟨o, ho, a, b⟩
        rcases List.mem_append.1 ho with ho | ho
        · exact .inl ⟨o, ho, a, b⟩
        · have : o = objs[n] := by simpa using ho
          rw [this] at a b
          exact .inr ⟨a.symm, b⟩
    · rintro s ⟨es, rfl, hx, _, _⟩
      unfold esref32_Build.l3
      simp only [not_lt_len, Bool.false_eq_true, if_false]
      rw [List.take_length] at hx
      exact ⟨_, rfl, es, rfl, hx⟩
  obtain ⟨b, b1, es, b2, b3⟩ := key
  rw [b1, Option.bind_some]
  exact ⟨es, by rw [b2]; rfl, b3⟩
end Go.Proofs.YtpfgdjfiimknlaaGreat
set_option linter.unusedVariables false
set_option linter.unusedSimpArgs false
namespace Go.Proofs.YtpfgdjfiimknlaaGreat
open Go Go.Proofs.YtpfgdjfiimknlaaGreatL
theorem Index_ex (n k : Int) (h1 : 1 ≤ k) (h2 : k ≤ 4611686018427387904) : ∃ d, eslaw00_Index n k = some d ∧ 0 ≤ d ∧ d < k := by
  unfold eslaw00_Index
  rw [if_neg (by simp; omega), if_pos (by omega)]
  have e1 : Int.tmod n k < k := Int.tmod_lt_of_pos _ (by omega)
  have e2 : -k < Int.tmod n k := by
    have : Int.tmod (-n) k < k := Int.tmod_lt_of_pos _ (by omega)
    rw [Int.neg_tmod] at this
    omega
  simp only [letV_of]
  rw [w64 (by omega) (by omega), if_pos (by omega)]
  exact ⟨_, rfl, Int.tmod_nonneg _ (by omega), Int.tmod_lt_of_pos _ (by omega)⟩
theorem Digit_ex (n b : Int) (i : Nat) (h1 : 2 ≤ b) (h2 : b ≤ 16) (hi : i ≤ 100000) : ∃ d, eslaw00_Digit n b (i : Int) = some d ∧ 0 ≤ d ∧ d < b := by
  obtain ⟨x, hx, hx0, hx1⟩ := Index_ex n 1099511627776 (by decide) (by decide)
  unfold eslaw00_Digit
  rw [hx]
  simp only [Option.bind_some]
  have key : ∃ r, loopO (eslaw00_Digit.l1 b (i : Int)) (x, 0) = some r ∧ 0 ≤ r := by
    refine loopO_inv (fun k s => ∃ y : Int, s = (y, (k : Int)) ∧ 0 ≤ y ∧ y < 1099511627776) i ⟨x, rfl, hx0, hx1⟩ (fun k s hk hI => ?_) (fun s hI => ?_)
    · obtain ⟨y, rfl, h3, h4⟩ := hI
      simp only [eslaw00_Digit.l1]
      rw [if_pos (by simpa using hk), if_pos (by omega)]
      have h5 : 0 ≤ Int.tdiv y b := Int.tdiv_nonneg h3 (by omega)
      have h6 : Int.tdiv y b ≤ y := by
        rw [Int.tdiv_eq_ediv_of_nonneg h3]
        exact Int.ediv_le_self _ h3
      simp only [letV_of]
      rw [w64 (x := Int.tdiv y b) (by omega) (by omega), wcast hk (by omega)]
      exact ⟨_, rfl, _, rfl, h5, by omega⟩
    · obtain ⟨y, rfl, h3, h4⟩ := hI
      simp only [eslaw00_Digit.l1]
      rw [if_neg (by simp)]
      exact ⟨_, rfl, h3⟩
  obtain ⟨r, hr, hr0⟩ := key
  rw [hr]
  simp only [Option.bind_some, eslaw00_Digit.j1]
  rw [if_pos (by omega)]
  exact ⟨_, rfl, Int.tmod_nonneg _ hr0, Int.tmod_lt_of_pos _ (by omega)⟩
theorem name_ex (d : Int) : ∃ s, eslaw00_name d = some s ∧ s.length ≤ 2 ∧ s ≠ [] := by
  unfold eslaw00_name
  obtain ⟨x, hx, h0, h1⟩ := Index_ex d 4 (by decide) (by decide)
  rw [hx, Option.bind_some]
  have : x = 0 ∨ x = 1 ∨ x = 2 ∨ x = 3 := by omega
  rcases this with rfl | rfl | rfl | rfl
  · exact ⟨[97], rfl, by decide, by decide⟩
  · exact ⟨[98], rfl, by decide, by decide⟩
  · exact ⟨[99], rfl, by decide, by decide⟩
  · exact ⟨[120, 49], rfl, by decide, by decide⟩
end Go.Proofs.YtpfgdjfiimknlaaGreat
set_option linter.unusedVariables false
set_option linter.unusedSimpArgs false
namespace Go.Proofs.YtpfgdjfiimknlaaGreat
open Go Go.Proofs.YtpfgdjfiimknlaaGreatL
theorem Effect_ex (n : Int) (b : Bool) : ∃ e, eslaw00_Effect n b = some e ∧ EF e ∧ (b = false → e.Kind ≠ 1) := by
  unfold eslaw00_Effect
  obtain ⟨d1, e1, _⟩ := Digit_ex n 4 1 (by decide) (by decide) (by decide)
  obtain ⟨s1, f1, l1, _⟩ := name_ex d1
  obtain ⟨d2, e2, _⟩ := Digit_ex n 4 2 (by decide) (by decide) (by decide)
  obtain ⟨s2, f2, l2, _⟩ := name_ex d2
  obtain ⟨d3, e3, _⟩ := Digit_ex n 16 3 (by decide) (by decide) (by decide)
  obtain ⟨d5, e5, _⟩ := Digit_ex n 4 5 (by decide) (by decide) (by decide)
  obtain ⟨s5, f5, l5, _⟩ := name_ex d5
  obtain ⟨d0, e0, _⟩ := Digit_ex n 4 0 (by decide) (by decide) (by decide)
  have e1 : eslaw00_Digit n 4 1 = some d1 := e1
  have e2 : eslaw00_Digit n 4 2 = some d2 := e2
  have e3 : eslaw00_Digit n 16 3 = some d3 := e3
  have e5 : eslaw00_Digit n 4 5 = some d5 := e5
  have e0 : eslaw00_Digit n 4 0 = some d0 := e0
  simp only [e1, f1, e2, f2, e3, e5, f5, e0, Option.bind_some, letV_of, eslaw00_Effect.j1]
  have m1 : s1.length ≤ 1000 := by omega
  have m2 : s2.length ≤ 1000 := by omega
  have m5 : s5.length ≤ 1000 := by omega
  cases b with
  | true => exact ⟨_, rfl, ⟨m1, m2, m5⟩, by simp⟩
  | false =>
    simp only [Bool.false_eq_true, if_false]
    split
    · exact ⟨_, rfl, ⟨m1, m2, by simp⟩, by simp⟩
    · split
      · exact ⟨_, rfl, ⟨m1, m2, by simp⟩, by simp⟩
      · split
        · exact ⟨_, rfl, ⟨m1, m2, m5⟩, by simp⟩
        · exact ⟨_, rfl, ⟨m1, m2, by simp⟩, by simp⟩
structure UOK (u : api_Update) : Prop where
  len : u.Effects.length ≤ 4
  ef : ∀ e ∈ u.Effects, EF e
  one : u.Effects.length ≤ 1 ∨ ∀ e ∈ u.Effects, e.Kind ≠ 1
theorem Update_ex (c s n : Int) : ∃ u, eslaw00_Update c s n = some u ∧ u.Client = c ∧ u.Seq = s ∧ UOK u := by
  unfold eslaw00_Update
  obtain ⟨d8, e8, _⟩ := Digit_ex n 3 8 (by decide) (by decide) (by decide)
  obtain ⟨d4, e4, _⟩ := Digit_ex n 16 4 (by decide) (by decide) (by decide)
  obtain ⟨ef, hef, hE, _⟩ := Effect_ex n true
  have e8 : eslaw00_Digit n 3 8 = some d8 := e8
  have e4 : eslaw00_Digit n 16 4 = some d4 := e4
  simp only [e8, Option.bind_some]
  split
  · simp only [e4, hef, Option.bind_some]
    refine ⟨_, rfl, rfl, rfl, ⟨by simp, fun e he => ?_, .inl (by simp)⟩⟩
    simp at he
    subst he
    exact hE
  · obtain ⟨d9, e9, h90, h91⟩ := Digit_ex n 3 9 (by decide) (by decide) (by decide)
    have e9 : eslaw00_Digit n 3 9 = some d9 := e9
    have key : ∃ l, loopO (eslaw00_Update.l1 n) (0, []) = some l ∧ (l.length ≤ 4 ∧ ∀ e ∈ l, EF e ∧ e.Kind ≠ 1) := by
      refine loopO_mu (fun s : Int × List api_Effect => 0 ≤ s.1 ∧ s.1 ≤ 3 ∧ s.2.length ≤ s.1.toNat ∧ ∀ e ∈ s.2, EF e ∧ e.Kind ≠ 1) (fun s => (4 - s.1).toNat) ⟨by decide, by decide, by simp, by simp⟩ ?_
      rintro ⟨i, l⟩ ⟨h0, h1, h2, h3⟩
      simp only at h0 h1 h2 h3
      unfold eslaw00_Update.l1
      simp only [e9, Option.bind_some]
      by_cases hc : i ≤ d9
      · rw [if_pos (by simpa using hc)]
        obtain ⟨x, hx, hx0, hx1⟩ := Index_ex n 1099511627776 (by decide) (by decide)
        simp only [hx, Option.bind_some, letV_of]
        rw [w64 (x := i + 1) (by omega) (by omega), if_pos (by omega)]
        obtain ⟨e, he, hE, hk⟩ := Effect_ex (IntKind.i64.wrap (Int.tdiv x (i + 1))) false
        rw [he, Option.bind_some, app_of (by simp only [List.length_singleton]; omega), Option.bind_some]
        refine .inl ⟨_, rfl, ⟨by omega, by omega, ?_, fun q hq => ?_⟩, by simp only; omega⟩
        · simp only [List.length_append, List.length_singleton]; omega
        · rcases List.mem_append.1 hq with hq | hq
          · exact h3 q hq
          · simp at hq; subst hq; exact ⟨hE, hk rfl⟩
      · rw [if_neg (by simpa using hc)]
        exact .inr ⟨l, rfl, by omega, h3⟩
    obtain ⟨l, hl, h1, h2⟩ := key
    rw [hl, Option.bind_some]
    exact ⟨_, rfl, rfl, rfl, ⟨h1, fun e he => (h2 e he).1, .inr fun e he => (h2 e he).2⟩⟩
def ult (a b : api_Update) : Prop := a.Client < b.Client ∨ a.Client = b.Client ∧ a.Seq < b.Seq
structure US (c q : Int) (s : List api_Update) : Prop where
  ok : ∀ u ∈ s, UOK u
  cl : ∀ u ∈ s, 101 ≤ u.Client ∧ (u.Client < 101 + c ∨ u.Client = 101 + c ∧ u.Seq ≤ q)
  sq : ∀ u ∈ s, 1 ≤ u.Seq ∧ u.Seq ≤ 8
  asc : s.Pairwise ult
  len : (s.length : Int) ≤ 8 * c + q
theorem Updates_ex (l : List Int) : ∃ s, eslaw00_Updates l = some s ∧ US 3 0 s := by
  unfold eslaw00_Updates
  have key : ∃ s, loopO (eslaw00_Updates.l2 l) ([], 0) = some s ∧ US 3 0 s := by
    refine loopO_inv (I := fun k s => s.2 = (k : Int) ∧ US (k : Int) 0 s.1) 3 ⟨rfl, ⟨by simp, by simp, by simp, List.Pairwise.nil, by simp⟩⟩ ?_ ?_
    · rintro k ⟨s, c⟩ hk ⟨hc, hU⟩
      simp only at hc hU
      subst hc
      unfold eslaw00_Updates.l2
      simp only
      rw [if_pos (by rw [decide_eq_true_eq]; omega)]
      have inner : ∃ s', loopO (eslaw00_Updates.l1 l (k : Int)) (s, 0, 0) = some s' ∧ US ((k : Int) + 1) 0 s' := by
        refine loopO_mu (fun t : List api_Update × Int × Int => 0 ≤ t.2.2 ∧ t.2.2 ≤ 24 ∧ 0 ≤ t.2.1 ∧ t.2.1 ≤ 8 ∧ US (k : Int) t.2.1 t.1) (fun t => (25 - t.2.2).toNat) ⟨Int.le_refl 0, (by decide : (0 : Int) ≤ 24), Int.le_refl 0, (by decide : (0 : Int) ≤ 8), hU⟩ ?_
        rintro ⟨s, q, i⟩ ⟨h0, h1, h2, h3, hU⟩
        simp only at h0 h1 h2 h3 hU
        have stop : US ((k : Int) + 1) 0 s := ⟨hU.ok, fun u hu => ⟨(hU.cl u hu).1, .inl (by rcases (hU.cl u hu).2 with h | h <;> omega)⟩, hU.sq, hU.asc, by have := hU.len; omega⟩
        unfold eslaw00_Updates.l1
        simp only
        have next : ∀ (s' : List api_Update) (q' : Int), 0 ≤ q' → q' ≤ 8 → US (k : Int) q' s' → i < 24 → (∃ t, eslaw00_Updates.j3 i s' q' = some (.inl t) ∧ (0 ≤ t.2.2 ∧ t.2.2 ≤ 24 ∧ 0 ≤ t.2.1 ∧ t.2.1 ≤ 8 ∧ US (k : Int) t.2.1 t.1) ∧ (25 - t.2.2).toNat < (25 - i).toNat) := by
          intro s' q' hq0 hq1 hU' hi
          unfold eslaw00_Updates.j3
          rw [letV_of, w64 (x := i + 1) (by omega) (by omega)]
          exact ⟨_, rfl, ⟨by simp only; omega, by simp only; omega, hq0, hq1, hU'⟩, by simp only; omega⟩
        by_cases hi1 : i < (l.length : Int)
        · rw [if_pos (by simpa using hi1)]
          by_cases hi2 : i < 24
          · rw [show decide (i < 24) = true by simpa using hi2]
            unfold eslaw00_Updates.j5
            rw [if_pos rfl]
            obtain ⟨j, rfl⟩ : ∃ j : Nat, i = j := ⟨i.toNat, by omega⟩
            have hj : j < l.length := by omega
            rw [idx_nat hj, Option.bind_some]
            obtain ⟨d, hd, hd0, hd1⟩ := Digit_ex l[j] 3 0 (by decide) (by decide) (by decide)
            have hd : eslaw00_Digit l[j] 3 0 = some d := hd
            rw [hd, Option.bind_some]
            have skip := next s q h2 h3 hU hi2
            have j4f : eslaw00_Updates.j4 l (k : Int) s q (j : Int) false = eslaw00_Updates.j3 (j : Int) s q := by
              unfold eslaw00_Updates.j4
              rw [if_neg (by simp)]
            split
            · by_cases hq : q < 8
              · rw [show decide (q < 8) = true by simpa using hq]
                unfold eslaw00_Updates.j4
                rw [if_pos rfl, letV_of, letV_of, idx_nat hj, Option.bind_some]
                obtain ⟨x, hx, hx0, hx1⟩ := Index_ex l[j] 1099511627776 (by decide) (by decide)
                rw [hx, Option.bind_some, letV_of]
                rw [w64 (x := 101 + (k : Int)) (by omega) (by omega), w64 (x := q + 1) (by omega) (by omega)]
                obtain ⟨u, hu, huc, hus, hok⟩ := Update_ex (101 + (k : Int)) (q + 1) (IntKind.i64.wrap (Int.tdiv x 3))
                have hlen := hU.len
                rw [hu, Option.bind_some, app_of (by simp only [List.length_singleton]; omega), Option.bind_some]
                refine .inl (next _ (q + 1) (by omega) (by omega) ?_ hi2)
                have eu : (⟨u.Client, u.Seq, u.Tag, u.Effects⟩ : api_Update) = u := rfl
                rw [eu]
                refine ⟨fun v hv => ?_, fun v hv => ?_, fun v hv => ?_, ?_, by simp only [List.length_append, List.length_singleton]; omega⟩
                · rcases List.mem_append.1 hv with hv | hv
                  · exact hU.ok v hv
                  · simp at hv; subst hv; exact hok
                · rcases List.mem_append.1 hv with hv | hv
                  · obtain ⟨a, b⟩ := hU.cl v hv
                    exact ⟨a, by rcases b with b | b <;> omega⟩
                  · simp at hv; subst hv; rw [huc, hus]; omega
                · rcases List.mem_append.1 hv with hv | hv
                  · exact hU.sq v hv
                  · simp at hv; subst hv; rw [hus]; omega
                · rw [List.pairwise_append]
                  refine ⟨hU.asc, List.pairwise_singleton _ _, fun a ha b hb => ?_⟩
                  simp at hb; subst hb
                  unfold ult
                  rw [huc, hus]
                  rcases (hU.cl a ha).2 with h | h <;> omega
              · rw [show decide (q < 8) = false by simpa using hq, j4f]
                exact .inl skip
            · rw [j4f]
              exact .inl skip
          · rw [show decide (i < 24) = false by simpa using hi2]
            exact .inr ⟨s, rfl, stop⟩
        · rw [if_neg (by simpa using hi1)]
          exact .inr ⟨s, rfl, stop⟩
      obtain ⟨s', e1, e2⟩ := inner
      rw [e1, Option.bind_some]
      unfold eslaw00_Updates.j2
      rw [letV_of, w64n (by omega)]
      refine ⟨_, rfl, rfl, ?_⟩
      have : ((k + 1 : Nat) : Int) = (k : Int) + 1 := by omega
      rw [this]
      exact e2
    · rintro ⟨s, c⟩ ⟨hc, hU⟩
      simp only at hc hU
      subst hc
      exact ⟨s, rfl, hU⟩
  obtain ⟨s, e1, e2⟩ := key
  rw [e1]
  exact ⟨s, rfl, e2⟩
theorem US_effN {c q : Int} {s : List api_Update} (h : US c q s) : effN s ≤ 4 * s.length := by
  have : ∀ l : List api_Update, (∀ u ∈ l, UOK u) → effN l ≤ 4 * l.length := by
    intro l
    induction l with
    | nil => intro _; exact Nat.zero_le _
    | cons u l ih =>
      intro h
      have h1 := (h u (by simp)).len
      have h2 := ih fun v hv => h v (by simp [hv])
      unfold effN at h2 ⊢
      rw [List.map_cons, List.sum_cons, List.length_cons]
      omega
  exact this s h.ok
end Go.Proofs.YtpfgdjfiimknlaaGreat
set_option linter.unusedVariables false
set_option linter.unusedSimpArgs false
namespace Go.Proofs.YtpfgdjfiimknlaaGreat
open Go Go.Proofs.YtpfgdjfiimknlaaGreatL
structure RG (es : List index_Entry) (lo hi : index_Key) (r : List (List UInt8)) : Prop where
  asc : Asc r
  len : r.length ≤ 100000000
  mem : ∀ x, x ∈ r ↔ ∃ e ∈ es, ¬ keyLt e.Key lo ∧ ¬ keyLt hi e.Key ∧ x ∈ e.Objects
theorem RG.uniq {es : List index_Entry} {lo hi : index_Key} {r r' : List (List UInt8)} (h : RG es lo hi r) (h' : RG es lo hi r') : r = r' := ascS_ext h.asc h'.asc fun x => by rw [h.mem, h'.mem]
structure EB (es : List index_Entry) : Prop where
  len : es.length ≤ 10000
  olen : ∀ e ∈ es, e.Objects.length ≤ 10000
theorem GX.eb {P : index_Key → List UInt8 → Prop} {es : List index_Entry} (h : GX P es) : EB es := ⟨h.len, h.olen⟩
theorem Range_eq {f : schema_Field} {es : List index_Entry} (hb : EB es) (lo hi : index_Key) : ∃ r, index_Range ⟨f, es⟩ lo hi = some r ∧ RG es lo hi r := by
  unfold index_Range
  have hlen := hb.len
  have key : ∃ b : List (List UInt8), loopO (index_Range.l1 ⟨f, es⟩ lo hi) ([], 0) = some b ∧ b.length ≤ 100000000 ∧ ∀ x, x ∈ b ↔ ∃ e ∈ es, ¬ keyLt e.Key lo ∧ ¬ keyLt hi e.Key ∧ x ∈ e.Objects := by
    refine loopO_inv (fun n s => s.2 = (n : Int) ∧ s.1.length ≤ 10000 * n ∧ ∀ x, x ∈ s.1 ↔ ∃ e ∈ es.take n, ¬ keyLt e.Key lo ∧ ¬ keyLt hi e.Key ∧ x ∈ e.Objects) es.length ⟨rfl, Nat.le_refl _, by simp⟩ ?_ ?_
    · rintro n ⟨r, i⟩ hn ⟨hi', h1, h2⟩
      simp only at hi' h1 h2
      subst hi'
      have ho := hb.olen _ (List.getElem_mem hn)
      unfold index_Range.l1
      simp only [lt_of_len hn, if_true, idx_nat hn, Option.bind_some, Compare_eq]
      have tk : ∀ x, (∃ e ∈ es.take (n + 1), ¬ keyLt e.Key lo ∧ ¬ keyLt hi e.Key ∧ x ∈ e.Objects) ↔ (x ∈ r ∨ (¬ keyLt es[n].Key lo ∧ ¬ keyLt hi es[n].Key ∧ x ∈ es[n].Objects)) := by
        intro x
        rw [take_snoc hn, h2]
        constructor
        · rintro ⟨e, he, h⟩
          rcases List.mem_append.1 he with he | he
          · exact .inl ⟨e, he, h⟩
          · have : e = es[n] := by simpa using he
            rw [this] at h
            exact .inr h
        · rintro (⟨e, he, h⟩ | h)
          · exact ⟨e, List.mem_append.2 (.inl he), h⟩
          · exact ⟨es[n], List.mem_append.2 (.inr (by simp)), h⟩
      have skip : (¬ (¬ keyLt es[n].Key lo ∧ ¬ keyLt hi es[n].Key)) → ∃ s', index_Range.j3 r (n : Int) es[n] false = some (.inl s') ∧ s'.2 = ((n + 1 : Nat) : Int) ∧ s'.1.length ≤ 10000 * (n + 1) ∧ ∀ x, x ∈ s'.1 ↔ ∃ e ∈ es.take (n + 1), ¬ keyLt e.Key lo ∧ ¬ keyLt hi e.Key ∧ x ∈ e.Objects := by
        intro hc
        unfold index_Range.j3 index_Range.j2
        rw [if_neg (by simp), letV_of, wcast hn (by omega)]
        refine ⟨_, rfl, rfl, by simp only; omega, fun x => ?_⟩
        rw [tk]
        constructor
        · exact .inl
        · rintro (h | h)
          · exact h
          · exact absurd ⟨h.1, h.2.1⟩ hc
      by_cases c1 : keyLt es[n].Key lo
      · rw [if_neg (by rw [decide_eq_true_eq, keyCmp_le]; exact fun h => h c1)]
        exact skip fun h => h.1 c1
      · rw [if_pos (by rw [decide_eq_true_eq, keyCmp_le]; exact c1)]
        by_cases c2 : keyLt hi es[n].Key
        · rw [decide_eq_false (by rw [keyCmp_le]; exact fun h => h c2)]
          exact skip fun h => h.2 c2
        · rw [decide_eq_true (by rw [keyCmp_le]; exact c2)]
          unfold index_Range.j3 index_Range.j2
          rw [if_pos rfl, app_of (by omega), Option.bind_some, letV_of, wcast hn (by omega)]
          refine ⟨_, rfl, rfl, by simp only [List.length_append]; omega, fun x => ?_⟩
          rw [tk, List.mem_append]
          constructor
          · rintro (h | h)
            · exact .inl h
            · exact .inr ⟨c1, c2, h⟩
          · rintro (h | h)
            · exact .inl h
            · exact .inr h.2.2
    · rintro ⟨r, i⟩ ⟨hi', h1, h2⟩
      simp only at hi' h1 h2
      subst hi'
      unfold index_Range.l1
      simp only [not_lt_len, Bool.false_eq_true, if_false]
      rw [List.take_length] at h2
      exact ⟨r, rfl, by omega, h2⟩
  obtain ⟨b, b1, b2, b3⟩ := key
  rw [b1, Option.bind_some]
  unfold index_Range.j1
  rw [ascending_eq (by omega), Option.bind_some]
  exact ⟨_, rfl, ascL_asc b, by have := ascL_length b; omega, fun x => by rw [ascL_mem, b3]⟩
theorem Lookup_eq {f : schema_Field} {es : List index_Entry} (hb : EB es) (k : index_Key) : ∃ r, index_Lookup ⟨f, es⟩ k = some r ∧ RG es k k r := by
  unfold index_Lookup
  obtain ⟨r, h1, h2⟩ := Range_eq (f := f) hb k k
  rw [h1, Option.bind_some]
  exact ⟨r, rfl, h2⟩
theorem RG.look {es : List index_Entry} {k : index_Key} {r : List (List UInt8)} (h : RG es k k r) (x : List UInt8) : x ∈ r ↔ ∃ e ∈ es, e.Key = k ∧ x ∈ e.Objects := by
  rw [h.mem]
  constructor
  · rintro ⟨e, he, h1, h2, h3⟩
    exact ⟨e, he, key_tri h1 h2, h3⟩
  · rintro ⟨e, he, rfl, h3⟩
    exact ⟨e, he, keyLt_irrefl _, keyLt_irrefl _, h3⟩
theorem idx_ex {α : Type} {l : List α} {d : Int} (h0 : 0 ≤ d) (h1 : d < l.length) : ∃ x, idx l d = some x := by
  obtain ⟨k, rfl⟩ : ∃ k : Nat, d = k := ⟨d.toNat, by omega⟩
  exact ⟨_, idx_nat (show k < l.length by omega)⟩
theorem field_ex (n : Int) : ∃ f, eslaw32_field n = some f := by
  unfold eslaw32_field
  obtain ⟨d, e1, a1, a2⟩ := Digit_ex n 5 0 (by decide) (by decide) (by decide)
  have e1 : eslaw00_Digit n 5 0 = some d := e1
  rw [e1, Option.bind_some]
  obtain ⟨x, e2⟩ := idx_ex (l := ([([97] : List UInt8), ([98] : List UInt8), ([99] : List UInt8), ([120, 49] : List UInt8), ([110, 111, 110, 101] : List UInt8)])) a1 (by simpa using a2)
  rw [e2, Option.bind_some]
  obtain ⟨d2, e3, b1, b2⟩ := Digit_ex n 5 1 (by decide) (by decide) (by decide)
  have e3 : eslaw00_Digit n 5 1 = some d2 := e3
  rw [e3, Option.bind_some, letV_of]
  obtain ⟨d3, e4, c1, c2⟩ := Digit_ex n 3 4 (by decide) (by decide) (by decide)
  have e4 : eslaw00_Digit n 3 4 = some d3 := e4
  rw [e4, Option.bind_some]
  obtain ⟨d5, e7, g1, g2⟩ := Digit_ex n 2 8 (by decide) (by decide) (by decide)
  have e7 : eslaw00_Digit n 2 8 = some d5 := e7
  have j2 : ∀ y, ∃ f, eslaw32_field.j2 n x y = some f := by
    intro y
    unfold eslaw32_field.j2
    split
    · rw [e7, Option.bind_some, letV_of]
      exact ⟨_, rfl⟩
    · exact ⟨_, rfl⟩
  split
  · obtain ⟨d4, e5, f1, f2⟩ := Digit_ex n 2 6 (by decide) (by decide) (by decide)
    have e5 : eslaw00_Digit n 2 6 = some d4 := e5
    rw [e5, Option.bind_some]
    obtain ⟨y, e6⟩ := idx_ex (l := [(1 : Int), 4]) f1 (by simpa using f2)
    rw [e6, Option.bind_some]
    exact j2 y
  · exact j2 _
end Go.Proofs.YtpfgdjfiimknlaaGreat
set_option linter.unusedVariables false
namespace Go.Proofs.YtpfgdjfiimknlaaGreat
open Go Go.Proofs.YtpfgdjfiimknlaaGreatL
theorem made_fold {s : List api_Update} (h : US 3 0 s) : fold_Fold s = some ⟨foldT s []⟩ ∧ GD 100 (foldT s []) := by
  have h1 := h.len
  have h2 := US_effN h
  obtain ⟨a, b⟩ := Fold_eq (s := s) (fun u hu => (h.ok u hu).ef) (by omega) (by omega)
  exact ⟨a, b.mono (by omega)⟩
end Go.Proofs.YtpfgdjfiimknlaaGreat
set_option linter.unusedVariables false
set_option linter.unusedSimpArgs false
namespace Go.Proofs.YtpfgdjfiimknlaaGreat
open Go Go.Proofs.YtpfgdjfiimknlaaGreatL
abbrev wOwn : List UInt8 := [111, 119, 110, 101, 114]
abbrev wAnn : List UInt8 := [97, 110, 110]
abbrev wBob : List UInt8 := [98, 111, 98]
def wE (o s : List UInt8) : api_Effect := ⟨1, o, wOwn, 0, s⟩
def wFl (c : Int) (s : List UInt8) : fold_Field := ⟨wOwn, ⟨true, 0, c, 1, 0, s⟩, false, 0, 0, [], false⟩
def wT3 : List fold_Object := [⟨[97], [wFl 102 wAnn]⟩, ⟨[98], [wFl 101 wAnn]⟩, ⟨[99], [wFl 103 wBob]⟩]
def wX : List index_Entry := [⟨⟨2, 0, wAnn⟩, [[97], [98]]⟩, ⟨⟨2, 0, wBob⟩, [[99]]⟩]
def wF : schema_Field := ⟨wOwn, 1, 2, 0⟩
theorem wE_ef (c : Int) {o s : List UInt8} (h1 : o.length ≤ 1000) (h2 : s.length ≤ 1000) : ∀ e ∈ (⟨c, 1, 0, [wE o s]⟩ : api_Update).Effects, EF e := by
  intro e he
  have : e = wE o s := by simpa using he
  subst this
  exact ⟨h1, by show wOwn.length ≤ 1000; decide, h2⟩
theorem w_store : loopO eslaw32_awake.l1 (0, []) = some wT3 ∧ GD 100 wT3 := by
  obtain ⟨a1, g1⟩ := Apply_eq (n := 0) (t := ⟨[]⟩) (u := ⟨101, 1, 0, [wE [98] wAnn]⟩) (GD_nil 0) (wE_ef 101 (by decide) (by decide)) (by decide)
  obtain ⟨a2, g2⟩ := Apply_eq (t := ⟨appT ⟨101, 1, 0, [wE [98] wAnn]⟩ []⟩) (u := ⟨102, 1, 0, [wE [97] wAnn]⟩) g1 (wE_ef 102 (by decide) (by decide)) (by decide)
  obtain ⟨a3, g3⟩ := Apply_eq (t := ⟨appT ⟨102, 1, 0, [wE [97] wAnn]⟩ (appT ⟨101, 1, 0, [wE [98] wAnn]⟩ [])⟩) (u := ⟨103, 1, 0, [wE [99] wBob]⟩) g2 (wE_ef 103 (by decide) (by decide)) (by decide)
  have ew : appT ⟨103, 1, 0, [wE [99] wBob]⟩ (appT ⟨102, 1, 0, [wE [97] wAnn]⟩ (appT ⟨101, 1, 0, [wE [98] wAnn]⟩ [])) = wT3 := by decide
  have ew' : appT ⟨103, 1, 0, [wE [99] wBob]⟩ (⟨appT ⟨102, 1, 0, [wE [97] wAnn]⟩ (appT ⟨101, 1, 0, [wE [98] wAnn]⟩ [])⟩ : fold_Store).Objects = wT3 := ew
  rw [ew'] at a3 g3
  refine ⟨?_, g3.mono (by decide)⟩
  rw [loopO_next (s' := (1, appT ⟨101, 1, 0, [wE [98] wAnn]⟩ [])), loopO_next (s' := (2, appT ⟨102, 1, 0, [wE [97] wAnn]⟩ (appT ⟨101, 1, 0, [wE [98] wAnn]⟩ []))), loopO_next (s' := (3, wT3)), loopO_done (b := wT3)]
  · rfl
  · unfold eslaw32_awake.l1
    simp only
    rw [if_pos (by decide), show idx [([98] : List UInt8), ([97] : List UInt8), ([99] : List UInt8)] 2 = some [99] from rfl, Option.bind_some, letV_of, show IntKind.i64.wrap (101 + 2) = 103 from rfl, show idx [([97, 110, 110] : List UInt8), ([97, 110, 110] : List UInt8), ([98, 111, 98] : List UInt8)] 2 = some wBob from rfl, Option.bind_some]
    show (fold_Apply ⟨appT ⟨102, 1, 0, [wE [97] wAnn]⟩ (appT ⟨101, 1, 0, [wE [98] wAnn]⟩ [])⟩ ⟨103, 1, 0, [wE [99] wBob]⟩).bind _ = _
    rw [a3]
    rfl
  · unfold eslaw32_awake.l1
    simp only
    rw [if_pos (by decide), show idx [([98] : List UInt8), ([97] : List UInt8), ([99] : List UInt8)] 1 = some [97] from rfl, Option.bind_some, letV_of, show IntKind.i64.wrap (101 + 1) = 102 from rfl, show idx [([97, 110, 110] : List UInt8), ([97, 110, 110] : List UInt8), ([98, 111, 98] : List UInt8)] 1 = some wAnn from rfl, Option.bind_some]
    show (fold_Apply ⟨appT ⟨101, 1, 0, [wE [98] wAnn]⟩ []⟩ ⟨102, 1, 0, [wE [97] wAnn]⟩).bind _ = _
    rw [a2]
    rfl
  · unfold eslaw32_awake.l1
    simp only
    rw [if_pos (by decide), show idx [([98] : List UInt8), ([97] : List UInt8), ([99] : List UInt8)] 0 = some [98] from rfl, Option.bind_some, letV_of, show IntKind.i64.wrap (101 + 0) = 101 from rfl, show idx [([97, 110, 110] : List UInt8), ([97, 110, 110] : List UInt8), ([98, 111, 98] : List UInt8)] 0 = some wAnn from rfl, Option.bind_some]
    show (fold_Apply ⟨[]⟩ ⟨101, 1, 0, [wE [98] wAnn]⟩).bind _ = _
    rw [a1]
    rfl
theorem wk1 : keysOf wF ⟨[97], [wFl 102 wAnn]⟩ = [⟨2, 0, wAnn⟩] := by decide
theorem wk2 : keysOf wF ⟨[98], [wFl 101 wAnn]⟩ = [⟨2, 0, wAnn⟩] := by decide
theorem wk3 : keysOf wF ⟨[99], [wFl 103 wBob]⟩ = [⟨2, 0, wBob⟩] := by decide
theorem wX_ix : IsIx (PB wF wT3) wX := by
  refine ⟨?_, ?_, ?_, fun k s => ?_⟩
  · unfold wX
    refine List.pairwise_cons.2 ⟨fun b hb => ?_, List.pairwise_singleton _ _⟩
    have : b = ⟨⟨2, 0, wBob⟩, [[99]]⟩ := by simpa using hb
    subst this
    exact .inr ⟨rfl, .inr ⟨rfl, by decide⟩⟩
  · intro e he
    have : e = ⟨⟨2, 0, wAnn⟩, [[97], [98]]⟩ ∨ e = ⟨⟨2, 0, wBob⟩, [[99]]⟩ := by simpa [wX] using he
    rcases this with rfl | rfl
    · show List.Pairwise _ _
      refine List.pairwise_cons.2 ⟨fun b hb => ?_, List.pairwise_singleton _ _⟩
      have : b = [98] := by simpa using hb
      subst this
      decide
    · exact List.pairwise_singleton _ _
  · intro e he
    have : e = ⟨⟨2, 0, wAnn⟩, [[97], [98]]⟩ ∨ e = ⟨⟨2, 0, wBob⟩, [[99]]⟩ := by simpa [wX] using he
    rcases this with rfl | rfl <;> simp
  · constructor
    · rintro ⟨e, he, rfl, hs⟩
      have : e = ⟨⟨2, 0, wAnn⟩, [[97], [98]]⟩ ∨ e = ⟨⟨2, 0, wBob⟩, [[99]]⟩ := by simpa [wX] using he
      rcases this with rfl | rfl
      · have : s = [97] ∨ s = [98] := by simpa using hs
        rcases this with rfl | rfl
        · exact ⟨⟨[97], [wFl 102 wAnn]⟩, by simp [wT3], rfl, by rw [wk1]; simp⟩
        · exact ⟨⟨[98], [wFl 101 wAnn]⟩, by simp [wT3], rfl, by rw [wk2]; simp⟩
      · have : s = [99] := by simpa using hs
        subst this
        exact ⟨⟨[99], [wFl 103 wBob]⟩, by simp [wT3], rfl, by rw [wk3]; simp⟩
    · rintro ⟨o, ho, rfl, hk⟩
      have : o = ⟨[97], [wFl 102 wAnn]⟩ ∨ o = ⟨[98], [wFl 101 wAnn]⟩ ∨ o = ⟨[99], [wFl 103 wBob]⟩ := by simpa [wT3] using ho
      rcases this with rfl | rfl | rfl
      · rw [wk1] at hk
        have : k = ⟨2, 0, wAnn⟩ := by simpa using hk
        subst this
        exact ⟨⟨⟨2, 0, wAnn⟩, [[97], [98]]⟩, by simp [wX], rfl, by simp⟩
      · rw [wk2] at hk
        have : k = ⟨2, 0, wAnn⟩ := by simpa using hk
        subst this
        exact ⟨⟨⟨2, 0, wAnn⟩, [[97], [98]]⟩, by simp [wX], rfl, by simp⟩
      · rw [wk3] at hk
        have : k = ⟨2, 0, wBob⟩ := by simpa using hk
        subst this
        exact ⟨⟨⟨2, 0, wBob⟩, [[99]]⟩, by simp [wX], rfl, by simp⟩
theorem wX_mem {e : index_Entry} : e ∈ wX ↔ e = ⟨⟨2, 0, wAnn⟩, [[97], [98]]⟩ ∨ e = ⟨⟨2, 0, wBob⟩, [[99]]⟩ := by simp [wX]
theorem awake_true : eslaw32_awake = some true := by
  unfold eslaw32_awake
  obtain ⟨e1, g⟩ := w_store
  obtain ⟨es, e2, x2⟩ := Build_eq wF (objs := wT3) g.go (by decide)
  have : es = wX := x2.ix.uniq wX_ix
  subst this
  have e2 : index_Build (⟨([111, 119, 110, 101, 114] : List UInt8), 1, 2, 0⟩ : schema_Field) (⟨wT3⟩ : fold_Store) = some ⟨wF, wX⟩ := e2
  rw [e1, Option.bind_some]
  unfold eslaw32_awake.j2
  rw [e2, Option.bind_some]
  obtain ⟨r1, e3, x3⟩ := Lookup_eq (f := wF) x2.eb ⟨2, 0, wAnn⟩
  have h1 : r1 = [[97], [98]] := by
    refine ascS_ext x3.asc (List.pairwise_cons.2 ⟨fun b hb => ?_, List.pairwise_singleton _ _⟩) fun x => ?_
    · have : b = [98] := by simpa using hb
      subst this
      decide
    · rw [x3.look]
      constructor
      · rintro ⟨e, he, hk, hx⟩
        rcases wX_mem.1 he with rfl | rfl
        · exact hx
        · exact absurd hk (by decide)
      · exact fun hx => ⟨_, wX_mem.2 (.inl rfl), rfl, hx⟩
  subst h1
  have e3 : index_Lookup ⟨wF, wX⟩ (⟨2, 0, ([97, 110, 110] : List UInt8)⟩ : index_Key) = some [[97], [98]] := e3
  rw [e3, Option.bind_some]
  obtain ⟨r2, e4, x4⟩ := Range_eq (f := wF) x2.eb ⟨2, 0, [98]⟩ ⟨2, 0, [99]⟩
  have kl : ∀ a b : List UInt8, keyLt ⟨2, 0, a⟩ ⟨2, 0, b⟩ ↔ Op.bytesLess a b = true := fun a b => by simp [keyLt]
  have h2 : r2 = [[99]] := by
    refine ascS_ext x4.asc (List.pairwise_singleton _ _) fun x => ?_
    rw [x4.mem]
    constructor
    · rintro ⟨e, he, h1, h2, hx⟩
      rcases wX_mem.1 he with rfl | rfl
      · exact absurd ((kl wAnn [98]).2 (by decide)) h1
      · exact hx
    · exact fun hx => ⟨_, wX_mem.2 (.inr rfl), fun h => absurd ((kl wBob [98]).1 h) (by decide), fun h => absurd ((kl [99] wBob).1 h) (by decide), hx⟩
  subst h2
  rw [e4, Option.bind_some]
  obtain ⟨r3, e5, x5⟩ := Lookup_eq (f := wF) x2.eb ⟨0, 0, []⟩
  have h3 : r3 = [] := by
    refine ascS_ext x5.asc .nil fun x => ?_
    rw [x5.look]
    constructor
    · rintro ⟨e, he, hk, hx⟩
      rcases wX_mem.1 he with rfl | rfl
      · exact absurd hk (by decide)
      · exact absurd hk (by decide)
    · intro hx
      simp at hx
  subst h3
  rw [if_pos (by decide), if_pos (by decide), show idx [([97] : List UInt8), [98]] 0 = some [97] from rfl, Option.bind_some, if_pos (by decide), show idx [([97] : List UInt8), [98]] 1 = some [98] from rfl, Option.bind_some, if_pos (by decide), if_pos (by decide), show idx [([99] : List UInt8)] 0 = some [99] from rfl, Option.bind_some, if_pos (by decide), e5, Option.bind_some]
  rfl
end Go.Proofs.YtpfgdjfiimknlaaGreat
set_option linter.unusedVariables false
set_option linter.unusedSimpArgs false
namespace Go.Proofs.YtpfgdjfiimknlaaGreat
open Go Go.Proofs.YtpfgdjfiimknlaaGreatL
theorem indexBuild_true (x1 : List Int) (x4 : Int) : eslaw32_IndexBuild x1 x4 = some true := by
  unfold eslaw32_IndexBuild
  obtain ⟨s, e1, h1⟩ := Updates_ex x1
  obtain ⟨e3, g⟩ := made_fold h1
  obtain ⟨f, e4⟩ := field_ex x4
  rw [e1, Option.bind_some, e3, Option.bind_some, e4, Option.bind_some]
  obtain ⟨T, hT⟩ : ∃ T, T = foldT s [] := ⟨_, rfl⟩
  rw [← hT] at g ⊢
  have hlen := g.len
  obtain ⟨es, b1, b2⟩ := Build_eq f g.go hlen
  obtain ⟨es', c1, c2⟩ := rBuild_eq f g.go g.asc hlen
  have : es' = es := c2.uniq b2.ix
  subst this
  rw [b1, Option.bind_some]
  have key : loopO (eslaw32_IndexBuild.l2 ⟨T⟩ f) ((0 : Nat) : Int) = some (.inl ()) := by
    refine loopO_up (fun k => (k : Int)) T.length (fun k hk => ?_) ?_
    · have hg := g.go _ (List.getElem_mem hk)
      have hkl := keysOf_length (f := f) hg
      unfold eslaw32_IndexBuild.l2
      simp only [lt_of_len hk, if_true, idx_nat hk, Option.bind_some]
      rw [index_Keys_eq hg, Option.bind_some, rKeys_eq hg, Option.bind_some, if_neg (by simp)]
      have inner : loopO (eslaw32_IndexBuild.l1 (keysOf f T[k]) ((keysOf f T[k]).map kc)) 0 = some (if (keysOf f T[k]).map kc = (keysOf f T[k]).map kc then .inl () else .inr false) := by
        refine eqloop kc _ _ (by simp) (fun j hj => ?_) ?_
        · unfold eslaw32_IndexBuild.l1
          have hjm : j < ((keysOf f T[k]).map kc).length := by rw [List.length_map]; exact hj
          simp only [lt_of_len hj, if_true, idx_nat hj, idx_nat hjm, Option.bind_some, eslaw32_convert, List.getElem_map]
          rw [if_neg (by
            rw [show (⟨(kc (keysOf f T[k])[j]).f_Type, (kc (keysOf f T[k])[j]).N, (kc (keysOf f T[k])[j]).S⟩ : elasticstoreref32_Key) = kc (keysOf f T[k])[j] from rfl, show (⟨(keysOf f T[k])[j].f_Type, (keysOf f T[k])[j].N, (keysOf f T[k])[j].S⟩ : elasticstoreref32_Key) = kc (keysOf f T[k])[j] from rfl]
            simp), letV_of, wcast hj (by omega)]
        · unfold eslaw32_IndexBuild.l1
          simp only [not_lt_len, Bool.false_eq_true, if_false]
      rw [if_pos rfl] at inner
      rw [inner, Option.bind_some]
      show eslaw32_IndexBuild.j3 (k : Int) = _
      unfold eslaw32_IndexBuild.j3
      rw [letV_of, wcast hk (by omega)]
    · unfold eslaw32_IndexBuild.l2
      simp only [not_lt_len, Bool.false_eq_true, if_false]
  have key : loopO (eslaw32_IndexBuild.l2 ⟨T⟩ f) 0 = some (.inl ()) := key
  rw [key, Option.bind_some]
  show eslaw32_IndexBuild.j2 ⟨T⟩ f ⟨f, es'⟩ = _
  unfold eslaw32_IndexBuild.j2
  rw [c1, Option.bind_some, same_eq (show es'.length ≤ _ by have := b2.len; omega) (fun e he => by have := b2.olen e he; omega), Option.bind_some, if_pos (by simp), if_pos (by simp), if_pos (by simp), if_pos (by simp), awake_true, Option.bind_some]
  rfl
end Go.Proofs.YtpfgdjfiimknlaaGreat
