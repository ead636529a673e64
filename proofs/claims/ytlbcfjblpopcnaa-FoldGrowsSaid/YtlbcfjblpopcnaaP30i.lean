/- Plain laws: the bytes that are hashed. -/
import Derived.Test.YtlbcfjblpopcnaaP30h
set_option linter.unusedVariables false
set_option linter.unusedSimpArgs false
namespace Go.Proofs.Ytlbcfjblpopcnaa
open Go Go.Proofs.YtlbcfjblpopcnaaL
theorem w8n (v : Nat) : IntKind.u8.wrap (v : Int) = ((v % 256 : Nat) : Int) := by
  simp only [IntKind.wrap, IntKind.bits, IntKind.signed]
  simp
theorem wu64n (v : Nat) (h : v < 18446744073709551616) : IntKind.u64.wrap (v : Int) = (v : Int) := by
  simp only [IntKind.wrap, IntKind.bits, IntKind.signed]; simp; omega
theorem wu64_lt (x : Int) : ∃ v : Nat, IntKind.u64.wrap x = (v : Int) ∧ v < 18446744073709551616 := by
  refine ⟨(IntKind.u64.wrap x).toNat, ?_, ?_⟩ <;> simp only [IntKind.wrap, IntKind.bits, IntKind.signed] <;> simp <;> omega
theorem or8 : ∀ m : Nat, m < 256 → bitsOf .or .u8 (m : Int) 128 = ((m % 128 + 128 : Nat) : Int) := by decide +kernel
theorem shr7 (v : Nat) : shrI .u64 (v : Int) 7 = ((v / 128 : Nat) : Int) := by
  unfold shrI
  show (v : Int).fdiv (2 ^ 7) = _
  rw [Int.fdiv_eq_ediv_of_nonneg _ (by decide)]
  rfl
/-- The bytes of a number, but the last. -/
def vlI : Nat → Nat → List Int
  | 0, _ => []
  | f + 1, v => if 128 ≤ v then ((v % 128 + 128 : Nat) : Int) :: vlI f (v / 128) else []
def vla : Nat → Nat → Nat
  | 0, v => v
  | f + 1, v => if 128 ≤ v then vla f (v / 128) else v
def vu (v : Nat) : List Int := vlI 9 v ++ [IntKind.u8.wrap (vla 9 v : Int)]
theorem vlI_len : ∀ f v, (vlI f v).length ≤ f
  | 0, _ => Nat.le_refl 0
  | f + 1, v => by
    unfold vlI
    split
    · have := vlI_len f (v / 128)
      simp only [List.length_cons]
      omega
    · simp
theorem vu_len (v : Nat) : (vu v).length ≤ 10 ∧ 0 < (vu v).length := by
  have := vlI_len 9 v
  unfold vu
  simp only [List.length_append, List.length_singleton]
  omega
theorem wuint_loop : ∀ (f v : Nat) (acc : List Int), v < 128 ^ (f + 1) → acc.length + f ≤ 1000000000000 → loopO wire_AppendUint.l1 ((v : Int), acc) = some ((vla f v : Int), acc ++ vlI f v)
  | 0, v, acc, hv, _ => by
    rw [loopO_done (b := ((v : Int), acc))]
    · simp [vla, vlI]
    · unfold wire_AppendUint.l1
      dsimp only
      rw [if_neg (by simp; omega)]
  | f + 1, v, acc, hv, hl => by
    unfold vla vlI
    by_cases h : 128 ≤ v
    · rw [loopO_next (s' := (((v / 128 : Nat) : Int), acc ++ [((v % 128 + 128 : Nat) : Int)]))]
      · rw [wuint_loop f (v / 128) _ (by rw [Nat.pow_succ] at hv; exact Nat.div_lt_of_lt_mul (by omega)) (by simp; omega), if_pos h, if_pos h, List.append_assoc]
        rfl
      · unfold wire_AppendUint.l1
        dsimp only
        rw [if_pos (by simp; omega), w8n, or8 _ (Nat.mod_lt _ (by decide)), letV_of, app_of (by simp; omega), Option.bind_some, shr7, show v % 256 % 128 = v % 128 by omega]
    · rw [loopO_done (b := ((v : Int), acc)), if_neg h, if_neg h, List.append_nil]
      unfold wire_AppendUint.l1
      dsimp only
      rw [if_neg (by simp; omega)]
theorem wuint_eq {x : List Int} {v : Nat} (hv : v < 18446744073709551616) (hx : x.length ≤ 100000000000) : wire_AppendUint x (v : Int) = some (x ++ vu v) := by
  unfold wire_AppendUint
  rw [wuint_loop 9 v [] (Nat.lt_of_lt_of_le hv (by decide)) (by simp), Option.bind_some]
  show wire_AppendUint.j1 x (vla 9 v : Int) ([] ++ vlI 9 v) = _
  have hl := vlI_len 9 v
  unfold wire_AppendUint.j1
  rw [List.nil_append, app_of (by simp; omega), Option.bind_some, cut_of (Int.le_refl 0) (by omega) (Int.le_refl _), Option.bind_some, if_pos (by simp)]
  have e : (x.take (x.length : Int).toNat).drop (0 : Int).toNat = x := by simp
  rw [e, app_of (by simp only [List.length_append, List.length_singleton]; omega)]
  rfl
def strB (s : List UInt8) : List Int := vu s.length ++ sby s
theorem strB_len (s : List UInt8) : (strB s).length ≤ 10 + s.length := by
  have := (vu_len s.length).1
  unfold strB sby
  rw [List.length_append, List.length_map]
  omega
theorem wstr_eq {x : List Int} {s : List UInt8} (hs : s.length ≤ 1000) (hx : x.length ≤ 90000000000) : wire_AppendString x s = some (x ++ strB s) := by
  unfold wire_AppendString
  have hl := (vu_len s.length).1
  rw [letV_of, wu64n _ (by omega), wuint_eq (by omega) (by omega), Option.bind_some, app_of (by unfold sby; simp only [List.length_append, List.length_map]; omega)]
  simp [strB]
def boolB (b : Bool) : List Int := [if b then 1 else 0]
theorem wbool_eq {x : List Int} {b : Bool} (hx : x.length ≤ 90000000000) : wire_AppendBool x b = some (x ++ boolB b) := by
  have hc : cut x 0 (x.length : Int) = some x := by
    rw [cut_of (Int.le_refl 0) (by omega) (Int.le_refl _)]
    simp
  unfold wire_AppendBool
  cases b with
  | true =>
    rw [if_pos rfl, hc, Option.bind_some, app_of (by simp only [List.length_singleton]; omega)]
    rfl
  | false =>
    rw [if_neg (by simp), hc, Option.bind_some, app_of (by simp only [List.length_singleton]; omega)]
    rfl
/-- A number with its sign behind. -/
def zzI (n : Int) : Int := bitsOf .xor .u64 (shlI .u64 (IntKind.u64.wrap n) 1) (IntKind.u64.wrap (shrI .i64 n 63))
def zz (n : Int) : Nat := (zzI n).toNat
theorem zz_lt (n : Int) : zzI n = (zz n : Int) ∧ zz n < 18446744073709551616 := by
  obtain ⟨v, h1, h2⟩ := wu64_lt (((BitVec.ofInt 64 (shlI .u64 (IntKind.u64.wrap n) 1) ^^^ BitVec.ofInt 64 (IntKind.u64.wrap (shrI .i64 n 63))).toNat : Nat) : Int)
  have h3 : zzI n = (v : Int) := h1
  unfold zz
  rw [h3]
  exact ⟨rfl, h2⟩
theorem wint_eq {x : List Int} {n : Int} (hx : x.length ≤ 90000000000) : wire_AppendInt x n = some (x ++ vu (zz n)) := by
  unfold wire_AppendInt
  obtain ⟨h1, h2⟩ := zz_lt n
  simp only [letV_of]
  have e : bitsOf .xor .u64 (shlI .u64 (IntKind.u64.wrap n) 1) (IntKind.u64.wrap (shrI .i64 n 63)) = (zz n : Int) := h1
  rw [e, wuint_eq h2 (by omega)]
  rfl
def uN (x : Int) : Nat := (IntKind.u64.wrap x).toNat
theorem uN_eq (x : Int) : IntKind.u64.wrap x = (uN x : Int) ∧ uN x < 18446744073709551616 := by
  obtain ⟨v, h1, h2⟩ := wu64_lt x
  unfold uN
  rw [h1]
  exact ⟨rfl, h2⟩
/-- The bytes of a field. -/
def headB (nm : List UInt8) (f : fold_Field) : List Int :=
  strB nm ++ (strB f.Name ++ (boolB f.Register.Set ++ (vu (uN f.Register.Tag) ++ (vu (uN f.Register.Client) ++ (vu (uN f.Register.Seq) ++ (vu (zz f.Register.N) ++ (strB f.Register.S ++ (boolB f.HasMax ++ (vu (zz f.Max) ++ (vu (zz f.Sum) ++ vu f.Elems.length))))))))))
def fieldB (nm : List UInt8) (f : fold_Field) : List Int := headB nm f ++ (f.Elems.flatMap strB ++ boolB f.Flag)
theorem boolB_len (b : Bool) : (boolB b).length = 1 := rfl
theorem headB_len {nm : List UInt8} {f : fold_Field} (h1 : nm.length ≤ 1000) (h2 : f.Name.length ≤ 1000) (h3 : f.Register.S.length ≤ 1000) : (headB nm f).length ≤ 10000 := by
  unfold headB
  simp only [List.length_append, boolB_len]
  have a := strB_len nm
  have b := strB_len f.Name
  have c := strB_len f.Register.S
  have d1 := (vu_len (uN f.Register.Tag)).1
  have d2 := (vu_len (uN f.Register.Client)).1
  have d3 := (vu_len (uN f.Register.Seq)).1
  have d4 := (vu_len (zz f.Register.N)).1
  have d5 := (vu_len (zz f.Max)).1
  have d6 := (vu_len (zz f.Sum)).1
  have d7 := (vu_len f.Elems.length).1
  omega
theorem elems_len : ∀ l : List (List UInt8), (∀ s ∈ l, s.length ≤ 1000) → (l.flatMap strB).length ≤ 1010 * l.length
  | [], _ => by simp
  | s :: l, h => by
    have h1 := strB_len s
    have h2 := h s (by simp)
    have h3 := elems_len l fun q hq => h q (by simp [hq])
    rw [List.flatMap_cons, List.length_append, List.length_cons]
    omega
theorem fieldB_len {n : Nat} {nm : List UInt8} {f : fold_Field} (h1 : nm.length ≤ 1000) (g : GF n f) (hn : n ≤ 1000000) : (fieldB nm f).length ≤ 2000000000 := by
  have a := headB_len h1 g.name g.reg
  have b := elems_len f.Elems g.els
  have c := g.len
  unfold fieldB
  simp only [List.length_append, boolB_len]
  omega
theorem appendField_eq {n : Nat} {nm : List UInt8} {f : fold_Field} (h1 : nm.length ≤ 1000) (g : GF n f) (hn : n ≤ 1000000) : fold_appendField [] nm f = some (fieldB nm f) := by
  unfold fold_appendField
  have a := strB_len nm
  have b := strB_len f.Name
  have c := strB_len f.Register.S
  have g1 := g.name
  have g2 := g.reg
  have g3 := g.len
  have d1 := (vu_len (uN f.Register.Tag)).1
  have d2 := (vu_len (uN f.Register.Client)).1
  have d3 := (vu_len (uN f.Register.Seq)).1
  have d4 := (vu_len (zz f.Register.N)).1
  have d5 := (vu_len (zz f.Max)).1
  have d6 := (vu_len (zz f.Sum)).1
  have d7 := (vu_len f.Elems.length).1
  rw [wstr_eq h1 (by simp), Option.bind_some, wstr_eq g1 (by simp only [List.length_append, List.length_nil]; omega), Option.bind_some, wbool_eq (by simp only [List.length_append, List.length_nil]; omega), Option.bind_some]
  obtain ⟨x0, hx0⟩ : ∃ x0, x0 = [] ++ strB nm ++ strB f.Name ++ boolB f.Register.Set := ⟨_, rfl⟩
  have l0 : x0.length ≤ 3000 := by rw [hx0]; simp only [List.length_append, List.length_nil, boolB_len]; omega
  rw [← hx0]
  obtain ⟨t1, t2⟩ := uN_eq f.Register.Tag
  obtain ⟨c1, c2⟩ := uN_eq f.Register.Client
  obtain ⟨s1, s2⟩ := uN_eq f.Register.Seq
  have key : loopO (fold_appendField.l2 f) (x0, 0) = some (x0 ++ vu (uN f.Register.Tag) ++ vu (uN f.Register.Client) ++ vu (uN f.Register.Seq)) := by
    rw [loopO_next (s' := (x0 ++ vu (uN f.Register.Tag), 1)) (by
      unfold fold_appendField.l2
      dsimp only
      rw [if_pos (by decide), show idx [f.Register.Tag, f.Register.Client, f.Register.Seq] 0 = some f.Register.Tag from rfl, Option.bind_some, t1, wuint_eq t2 (by omega)]
      rfl)]
    rw [loopO_next (s' := (x0 ++ vu (uN f.Register.Tag) ++ vu (uN f.Register.Client), 2)) (by
      unfold fold_appendField.l2
      dsimp only
      rw [if_pos (by decide), show idx [f.Register.Tag, f.Register.Client, f.Register.Seq] 1 = some f.Register.Client from rfl, Option.bind_some, c1, wuint_eq c2 (by simp only [List.length_append]; omega)]
      rfl)]
    rw [loopO_next (s' := (x0 ++ vu (uN f.Register.Tag) ++ vu (uN f.Register.Client) ++ vu (uN f.Register.Seq), 3)) (by
      unfold fold_appendField.l2
      dsimp only
      rw [if_pos (by decide), show idx [f.Register.Tag, f.Register.Client, f.Register.Seq] 2 = some f.Register.Seq from rfl, Option.bind_some, s1, wuint_eq s2 (by simp only [List.length_append]; omega)]
      rfl)]
    exact loopO_done (by unfold fold_appendField.l2; rfl)
  rw [key, Option.bind_some]
  obtain ⟨x1, hx1⟩ : ∃ x1, x1 = x0 ++ vu (uN f.Register.Tag) ++ vu (uN f.Register.Client) ++ vu (uN f.Register.Seq) := ⟨_, rfl⟩
  have l1 : x1.length ≤ 3030 := by rw [hx1]; simp only [List.length_append]; omega
  rw [← hx1]
  unfold fold_appendField.j2
  rw [wint_eq (by omega), Option.bind_some, wstr_eq g2 (by simp only [List.length_append]; omega), Option.bind_some, wbool_eq (by simp only [List.length_append]; omega), Option.bind_some,
    wint_eq (by simp only [List.length_append, boolB_len]; omega), Option.bind_some, wint_eq (by simp only [List.length_append, boolB_len]; omega), Option.bind_some, letV_of, wu64n _ (by omega), wuint_eq (by omega) (by simp only [List.length_append, boolB_len]; omega), Option.bind_some]
  obtain ⟨x2, hx2⟩ : ∃ x2, x2 = x1 ++ vu (zz f.Register.N) ++ strB f.Register.S ++ boolB f.HasMax ++ vu (zz f.Max) ++ vu (zz f.Sum) ++ vu f.Elems.length := ⟨_, rfl⟩
  have l2 : x2.length ≤ 5000 := by rw [hx2]; simp only [List.length_append, boolB_len]; omega
  rw [← hx2]
  have key2 : loopO (fold_appendField.l1 f) (x2, 0) = some (x2 ++ f.Elems.flatMap strB) := by
    have := loopO_up (step := fold_appendField.l1 f) (fun k => (x2 ++ (f.Elems.take k).flatMap strB, (k : Int))) f.Elems.length (b := x2 ++ f.Elems.flatMap strB) (fun k hk => ?_) ?_
    · simpa using this
    · have h3 := elems_len (f.Elems.take k) (fun s hs => g.els s (List.mem_of_mem_take hs))
      have h4 : (f.Elems.take k).length ≤ n := by rw [List.length_take]; omega
      unfold fold_appendField.l1
      dsimp only
      rw [if_pos (lt_of_len hk), idx_nat hk, Option.bind_some, wstr_eq (g.els _ (List.getElem_mem hk)) (by rw [List.length_append]; omega), Option.bind_some, letV_of, wcast hk (by omega), take_snoc hk, List.flatMap_append]
      simp
    · unfold fold_appendField.l1
      dsimp only
      rw [if_neg (by simp), List.take_length]
  have h5 := elems_len f.Elems g.els
  rw [key2, Option.bind_some]
  unfold fold_appendField.j1
  rw [wbool_eq (by rw [List.length_append]; omega), Option.bind_some, hx2, hx1, hx0]
  simp [fieldB, headB, List.append_assoc]
/-- A byte hashed. -/
def hashB (h c : Int) : Int := IntKind.u64.wrap (bitsOf .xor .u64 h (IntKind.u64.wrap c) * 1099511628211)
def storeB (objs : List fold_Object) : List Int := objs.flatMap fun o => o.Fields.flatMap fun f => fieldB o.Name f
theorem hash_loop {l : List Int} (hl : l.length ≤ 3000000000) (h : Int) : loopO (fold_Hash.l1 l) (h, 0) = some (l.foldl hashB h) := by
  have := loopO_up (step := fold_Hash.l1 l) (fun k => ((l.take k).foldl hashB h, (k : Int))) l.length (b := l.foldl hashB h) (fun k hk => ?_) ?_
  · exact this
  · unfold fold_Hash.l1
    simp only [lt_of_len hk, if_true, idx_nat hk, Option.bind_some, letV_of, wcast hk (by omega), take_snoc hk, List.foldl_append, List.foldl_cons, List.foldl_nil]
    rfl
  · unfold fold_Hash.l1
    simp only [not_lt_len, Bool.false_eq_true, if_false, List.take_length]
theorem Hash_eq {n : Nat} {t : fold_Store} (g : GD n t.Objects) (hn : n ≤ 1000000) : fold_Hash t = some ((storeB t.Objects).foldl hashB 14695981039346656037) := by
  unfold fold_Hash
  have hlen := g.len
  have key : loopO (fold_Hash.l3 t) (14695981039346656037, 0) = some ((storeB t.Objects).foldl hashB 14695981039346656037) := by
    have := loopO_up (step := fold_Hash.l3 t) (fun k => ((storeB (t.Objects.take k)).foldl hashB 14695981039346656037, (k : Int))) t.Objects.length (b := (storeB t.Objects).foldl hashB 14695981039346656037) (fun k hk => ?_) ?_
    · exact this
    · have hm := List.getElem_mem hk
      have hfl := g.flen _ hm
      obtain ⟨o, ho⟩ : ∃ o, o = t.Objects[k] := ⟨_, rfl⟩
      have inner : ∀ h : Int, loopO (fold_Hash.l2 o) (h, 0) = some ((o.Fields.flatMap fun f => fieldB o.Name f).foldl hashB h) := by
        intro h
        rw [← ho] at hm hfl
        have := loopO_up (step := fold_Hash.l2 o) (fun j => (((o.Fields.take j).flatMap fun f => fieldB o.Name f).foldl hashB h, (j : Int))) o.Fields.length (b := (o.Fields.flatMap fun f => fieldB o.Name f).foldl hashB h) (fun j hj => ?_) ?_
        · exact this
        · have hg := g.good _ hm _ (List.getElem_mem hj)
          unfold fold_Hash.l2
          simp only [lt_of_len hj, if_true, idx_nat hj, Option.bind_some]
          rw [appendField_eq (g.name _ hm) hg hn, Option.bind_some, hash_loop (by have := fieldB_len (nm := o.Name) (g.name _ hm) hg hn; omega), Option.bind_some]
          unfold fold_Hash.j3
          rw [letV_of, wcast hj (by omega), take_snoc hj, List.flatMap_append, List.foldl_append]
          simp
        · unfold fold_Hash.l2
          simp only [not_lt_len, Bool.false_eq_true, if_false, List.take_length]
      unfold fold_Hash.l3
      simp only [lt_of_len hk, if_true, idx_nat hk, Option.bind_some]
      rw [← ho, inner, Option.bind_some]
      unfold fold_Hash.j2
      rw [letV_of, wcast hk (by omega), take_snoc hk]
      unfold storeB
      rw [List.flatMap_append, List.foldl_append, ← ho]
      simp
    · unfold fold_Hash.l3
      simp only [not_lt_len, Bool.false_eq_true, if_false, List.take_length]
  rw [key]
  rfl
end Go.Proofs.Ytlbcfjblpopcnaa
