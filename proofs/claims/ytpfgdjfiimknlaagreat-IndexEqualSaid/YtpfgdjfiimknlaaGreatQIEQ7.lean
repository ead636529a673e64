/- What the row leans on, as few texts. -/
import Derived.Test.YtpfgdjfiimknlaaGreatQIEQ6
set_option linter.unusedVariables false
set_option linter.unusedSimpArgs false
namespace Go.Proofs.YtpfgdjfiimknlaaGreat
section
open Go Go.Proofs.YtpfgdjfiimknlaaGreatL
abbrev wOwn : List UInt8 := [111, 119, 110, 101, 114]
abbrev wAnn : List UInt8 := [97, 110, 110]
abbrev wBob : List UInt8 := [98, 111, 98]
def wE (o s : List UInt8) : Y0y := ⟨1, o, wOwn, 0, s⟩
def wFl (c : Int) (s : List UInt8) : Y07 := ⟨wOwn, ⟨true, 0, c, 1, 0, s⟩, false, 0, 0, [], false⟩
def wT3 : List Y0f := [⟨[97], [wFl 102 wAnn]⟩, ⟨[98], [wFl 101 wAnn]⟩, ⟨[99], [wFl 103 wBob]⟩]
def wX : List Y0a := [⟨⟨2, 0, wAnn⟩, [[97], [98]]⟩, ⟨⟨2, 0, wBob⟩, [[99]]⟩]
def wF : Y0c := ⟨wOwn, 1, 2, 0⟩
theorem wE_ef (c : Int) {o s : List UInt8} (h1 : o.length ≤ 1000) (h2 : s.length ≤ 1000) : ∀ e ∈ (⟨c, 1, 0, [wE o s]⟩ : Y0l).Effects, EF e := by
 intro e he
 have : e = wE o s := by simpa using he
 subst this
 exact ⟨h1, by show wOwn.length ≤ 1000; decide, h2⟩
theorem w_store : Y18 Y0I.l1 (0, []) = some wT3 ∧ GD 100 wT3 := by
 obtain ⟨a1, g1⟩ := Y6m (n := 0) (t := ⟨[]⟩) (u := ⟨101, 1, 0, [wE [98] wAnn]⟩) (GD_nil 0) (wE_ef 101 (by decide) (by decide)) (by decide)
 obtain ⟨a2, g2⟩ := Y6m (t := ⟨appT ⟨101, 1, 0, [wE [98] wAnn]⟩ []⟩) (u := ⟨102, 1, 0, [wE [97] wAnn]⟩) g1 (wE_ef 102 (by decide) (by decide)) (by decide)
 obtain ⟨a3, g3⟩ := Y6m (t := ⟨appT ⟨102, 1, 0, [wE [97] wAnn]⟩ (appT ⟨101, 1, 0, [wE [98] wAnn]⟩ [])⟩) (u := ⟨103, 1, 0, [wE [99] wBob]⟩) g2 (wE_ef 103 (by decide) (by decide)) (by decide)
 have ew : appT ⟨103, 1, 0, [wE [99] wBob]⟩ (appT ⟨102, 1, 0, [wE [97] wAnn]⟩ (appT ⟨101, 1, 0, [wE [98] wAnn]⟩ [])) = wT3 := by decide
 have ew' : appT ⟨103, 1, 0, [wE [99] wBob]⟩ (⟨appT ⟨102, 1, 0, [wE [97] wAnn]⟩ (appT ⟨101, 1, 0, [wE [98] wAnn]⟩ [])⟩ : Y0N).Objects = wT3 := ew
 rw [ew'] at a3 g3
 refine ⟨?_, g3.mono (by decide)⟩
 rw [Y2e (s' := (1, appT ⟨101, 1, 0, [wE [98] wAnn]⟩ [])), Y2e (s' := (2, appT ⟨102, 1, 0, [wE [97] wAnn]⟩ (appT ⟨101, 1, 0, [wE [98] wAnn]⟩ []))), Y2e (s' := (3, wT3)), Y22 (b := wT3)]
 ·rfl
 ·unfold Y0I.l1
  simp only
  rw [if_pos (by decide), show idx [([98] : List UInt8), ([97] : List UInt8), ([99] : List UInt8)] 2 = some [99] from rfl, Option.bind_some, Y1f, show IntKind.i64.wrap (101 + 2) = 103 from rfl, show idx [([97, 110, 110] : List UInt8), ([97, 110, 110] : List UInt8), ([98, 111, 98] : List UInt8)] 2 = some wBob from rfl, Option.bind_some]
  show (Y2m ⟨appT ⟨102, 1, 0, [wE [97] wAnn]⟩ (appT ⟨101, 1, 0, [wE [98] wAnn]⟩ [])⟩ ⟨103, 1, 0, [wE [99] wBob]⟩).bind _ = _
  rw [a3]
  rfl
 ·unfold Y0I.l1
  simp only
  rw [if_pos (by decide), show idx [([98] : List UInt8), ([97] : List UInt8), ([99] : List UInt8)] 1 = some [97] from rfl, Option.bind_some, Y1f, show IntKind.i64.wrap (101 + 1) = 102 from rfl, show idx [([97, 110, 110] : List UInt8), ([97, 110, 110] : List UInt8), ([98, 111, 98] : List UInt8)] 1 = some wAnn from rfl, Option.bind_some]
  show (Y2m ⟨appT ⟨101, 1, 0, [wE [98] wAnn]⟩ []⟩ ⟨102, 1, 0, [wE [97] wAnn]⟩).bind _ = _
  rw [a2]
  rfl
 ·unfold Y0I.l1
  simp only
  rw [if_pos (by decide), show idx [([98] : List UInt8), ([97] : List UInt8), ([99] : List UInt8)] 0 = some [98] from rfl, Option.bind_some, Y1f, show IntKind.i64.wrap (101 + 0) = 101 from rfl, show idx [([97, 110, 110] : List UInt8), ([97, 110, 110] : List UInt8), ([98, 111, 98] : List UInt8)] 0 = some wAnn from rfl, Option.bind_some]
  show (Y2m ⟨[]⟩ ⟨101, 1, 0, [wE [98] wAnn]⟩).bind _ = _
  rw [a1]
  rfl
theorem wk1 : Y28 wF ⟨[97], [wFl 102 wAnn]⟩ = [⟨2, 0, wAnn⟩] := by decide
theorem wk2 : Y28 wF ⟨[98], [wFl 101 wAnn]⟩ = [⟨2, 0, wAnn⟩] := by decide
theorem wk3 : Y28 wF ⟨[99], [wFl 103 wBob]⟩ = [⟨2, 0, wBob⟩] := by decide
theorem wX_ix : IsIx (PB wF wT3) wX := by
 refine ⟨?_, ?_, ?_, fun k s => ?_⟩
 ·unfold wX
  refine List.pairwise_cons.2 ⟨fun b hb => ?_, List.pairwise_singleton _ _⟩
  have : b = ⟨⟨2, 0, wBob⟩, [[99]]⟩ := by simpa using hb
  subst this
  exact .inr ⟨rfl, .inr ⟨rfl, by decide⟩⟩
 ·intro e he
  have : e = ⟨⟨2, 0, wAnn⟩, [[97], [98]]⟩ ∨ e = ⟨⟨2, 0, wBob⟩, [[99]]⟩ := by simpa [wX] using he
  rcases this with rfl | rfl
  ·show List.Pairwise _ _
   refine List.pairwise_cons.2 ⟨fun b hb => ?_, List.pairwise_singleton _ _⟩
   have : b = [98] := by simpa using hb
   subst this
   decide
  ·exact List.pairwise_singleton _ _
 ·intro e he
  have : e = ⟨⟨2, 0, wAnn⟩, [[97], [98]]⟩ ∨ e = ⟨⟨2, 0, wBob⟩, [[99]]⟩ := by simpa [wX] using he
  rcases this with rfl | rfl <;> simp
 ·constructor
  ·rintro ⟨e, he, rfl, hs⟩
   have : e = ⟨⟨2, 0, wAnn⟩, [[97], [98]]⟩ ∨ e = ⟨⟨2, 0, wBob⟩, [[99]]⟩ := by simpa [wX] using he
   rcases this with rfl | rfl
   ·have : s = [97] ∨ s = [98] := by simpa using hs
    rcases this with rfl | rfl
    ·exact ⟨⟨[97], [wFl 102 wAnn]⟩, by simp [wT3], rfl, by rw [wk1]; simp⟩
    ·exact ⟨⟨[98], [wFl 101 wAnn]⟩, by simp [wT3], rfl, by rw [wk2]; simp⟩
   ·have : s = [99] := by simpa using hs
    subst this
    exact ⟨⟨[99], [wFl 103 wBob]⟩, by simp [wT3], rfl, by rw [wk3]; simp⟩
  ·rintro ⟨o, ho, rfl, hk⟩
   have : o = ⟨[97], [wFl 102 wAnn]⟩ ∨ o = ⟨[98], [wFl 101 wAnn]⟩ ∨ o = ⟨[99], [wFl 103 wBob]⟩ := by simpa [wT3] using ho
   rcases this with rfl | rfl | rfl
   ·rw [wk1] at hk
    have : k = ⟨2, 0, wAnn⟩ := by simpa using hk
    subst this
    exact ⟨⟨⟨2, 0, wAnn⟩, [[97], [98]]⟩, by simp [wX], rfl, by simp⟩
   ·rw [wk2] at hk
    have : k = ⟨2, 0, wAnn⟩ := by simpa using hk
    subst this
    exact ⟨⟨⟨2, 0, wAnn⟩, [[97], [98]]⟩, by simp [wX], rfl, by simp⟩
   ·rw [wk3] at hk
    have : k = ⟨2, 0, wBob⟩ := by simpa using hk
    subst this
    exact ⟨⟨⟨2, 0, wBob⟩, [[99]]⟩, by simp [wX], rfl, by simp⟩
theorem Y6n {e : Y0a} : e ∈ wX ↔ e = ⟨⟨2, 0, wAnn⟩, [[97], [98]]⟩ ∨ e = ⟨⟨2, 0, wBob⟩, [[99]]⟩ := by simp [wX]
theorem Y8t : Y0I = some true := by
 unfold Y0I
 obtain ⟨e1, g⟩ := w_store
 obtain ⟨es, e2, x2⟩ := Y5a wF (objs := wT3) g.go (by decide)
 have : es = wX := x2.ix.uniq wX_ix
 subst this
 have e2 : Y1s (⟨([111, 119, 110, 101, 114] : List UInt8), 1, 2, 0⟩ : Y0c) (⟨wT3⟩ : Y0N) = some ⟨wF, wX⟩ := e2
 rw [e1, Option.bind_some]
 unfold Y0I.j2
 rw [e2, Option.bind_some]
 obtain ⟨r1, e3, x3⟩ := Y6X (f := wF) x2.eb ⟨2, 0, wAnn⟩
 have h1 : r1 = [[97], [98]] := by
  refine Y57 x3.asc (List.pairwise_cons.2 ⟨fun b hb => ?_, List.pairwise_singleton _ _⟩) fun x => ?_
  ·have : b = [98] := by simpa using hb
   subst this
   decide
  ·rw [x3.look]
   constructor
   ·rintro ⟨e, he, hk, hx⟩
    rcases Y6n.1 he with rfl | rfl
    ·exact hx
    ·exact absurd hk (by decide)
   ·exact fun hx => ⟨_, Y6n.2 (.inl rfl), rfl, hx⟩
 subst h1
 have e3 : Y21 ⟨wF, wX⟩ (⟨2, 0, ([97, 110, 110] : List UInt8)⟩ : Y04) = some [[97], [98]] := e3
 rw [e3, Option.bind_some]
 obtain ⟨r2, e4, x4⟩ := Y81 (f := wF) x2.eb ⟨2, 0, [98]⟩ ⟨2, 0, [99]⟩
 have kl : ∀ a b : List UInt8, Y1L ⟨2, 0, a⟩ ⟨2, 0, b⟩ ↔ Op.bytesLess a b = true := fun a b => by simp [Y1L]
 have h2 : r2 = [[99]] := by
  refine Y57 x4.asc (List.pairwise_singleton _ _) fun x => ?_
  rw [x4.mem]
  constructor
  ·rintro ⟨e, he, h1, h2, hx⟩
   rcases Y6n.1 he with rfl | rfl
   ·exact absurd ((kl wAnn [98]).2 (by decide)) h1
   ·exact hx
  ·exact fun hx => ⟨_, Y6n.2 (.inr rfl), fun h => absurd ((kl wBob [98]).1 h) (by decide), fun h => absurd ((kl [99] wBob).1 h) (by decide), hx⟩
 subst h2
 rw [e4, Option.bind_some]
 obtain ⟨r3, e5, x5⟩ := Y6X (f := wF) x2.eb ⟨0, 0, []⟩
 have h3 : r3 = [] := by
  refine Y57 x5.asc .nil fun x => ?_
  rw [x5.look]
  constructor
  ·rintro ⟨e, he, hk, hx⟩
   rcases Y6n.1 he with rfl | rfl
   ·exact absurd hk (by decide)
   ·exact absurd hk (by decide)
  ·intro hx
   simp at hx
 subst h3
 rw [if_pos (by decide), if_pos (by decide), show idx [([97] : List UInt8), [98]] 0 = some [97] from rfl, Option.bind_some, if_pos (by decide), show idx [([97] : List UInt8), [98]] 1 = some [98] from rfl, Option.bind_some, if_pos (by decide), if_pos (by decide), show idx [([99] : List UInt8)] 0 = some [99] from rfl, Option.bind_some, if_pos (by decide), e5, Option.bind_some]
 rfl
end
section
open Go Go.Proofs.YtpfgdjfiimknlaaGreatL
end
section
open Go Go.Proofs.YtpfgdjfiimknlaaGreatL
theorem Y75 {a b : List (List UInt8)} (hl : a.length ≤ 4611686018427387904) : Y0G a b = some (decide (a = b)) := by
 unfold Y0G
 by_cases h : a.length = b.length
 ·rw [if_neg (by simp [h])]
  have key : Y18 (Y0G.l1 a b) 0 = some (if a.map (fun x => x) = b then .inl () else .inr false) := by
   refine Y7W (fun x => x) a b h (fun k hk => ?_) ?_
   ·unfold Y0G.l1
    simp only [Y1r hk, if_true, Y1g hk, Y1g (show k < b.length by omega), Option.bind_some]
    by_cases he : a[k] = b[k]'(by omega)
    ·rw [if_neg (by simpa using he), if_pos he, Y1f, Y33 hk (by omega)]
    ·rw [if_pos (by simpa using he), if_neg he]
   ·unfold Y0G.l1
    simp only [Y1j, Bool.false_eq_true, if_false]
  rw [key, Option.bind_some, List.map_id']
  by_cases he : a = b
  ·rw [if_pos he]; simp [he, Y0G.j1]
  ·rw [if_neg he]; simp [he]
 ·rw [if_pos (by simp; omega)]
  have : a ≠ b := fun e => h (by rw [e])
  simp [this]
theorem entry_eq (a b : Y0a) (hl : a.Objects.length ≤ 4611686018427387904) : Y13 a b = some (decide (a = b)) := by
 unfold Y13 Y13.j1
 have e1 : ((⟨a.Key.f_Type, a.Key.N, a.Key.S⟩ : Y04) = (⟨b.Key.f_Type, b.Key.N, b.Key.S⟩ : Y04)) ↔ a.Key = b.Key := Iff.rfl
 by_cases h : a.Key = b.Key
 ·rw [if_pos (by rw [decide_eq_true_eq]; exact h), Y75 hl, Option.bind_some]
  congr 1
  refine decide_eq_decide.2 ⟨fun h2 => ?_, fun h2 => by rw [h2]⟩
  obtain ⟨k, o⟩ := a
  obtain ⟨k', o'⟩ := b
  simp only at h h2
  rw [h, h2]
 ·rw [if_neg (by rw [decide_eq_true_eq]; exact h)]
  have : a ≠ b := fun e => h (by rw [e])
  simp [this]
theorem Y7s {a b : List Y0a} (hl : a.length ≤ 4611686018427387904) (ho : ∀ e ∈ a, e.Objects.length ≤ 4611686018427387904) : Y0x a b (fun p => Y13 p.1 p.2) = some (decide (a = b)) := by
 unfold Y0x
 by_cases h : a.length = b.length
 ·rw [if_neg (by simp [h])]
  have key : Y18 (Y0x.l1 a b fun p => Y13 p.1 p.2) 0 = some (if a.map (fun x => x) = b then .inl () else .inr false) := by
   refine Y7W (fun x => x) a b h (fun k hk => ?_) ?_
   ·unfold Y0x.l1
    simp only [Y1r hk, if_true, Y1g hk, Y1g (show k < b.length by omega), Option.bind_some]
    rw [entry_eq _ _ (ho _ (List.getElem_mem hk)), Option.bind_some]
    by_cases he : a[k] = b[k]'(by omega)
    ·rw [if_neg (by simp [he]), if_pos he, Y1f, Y33 hk (by omega)]
    ·rw [if_pos (by simp [he]), if_neg he]
   ·unfold Y0x.l1
    simp only [Y1j, Bool.false_eq_true, if_false]
  rw [key, Option.bind_some, List.map_id']
  by_cases he : a = b
  ·rw [if_pos he]; simp [he, Y0x.j1]
  ·rw [if_neg he]; simp [he]
 ·rw [if_pos (by simp; omega)]
  have : a ≠ b := fun e => h (by rw [e])
  simp [this]
theorem Y72 {f g : Y0c} {a b : List Y0a} (ha : EB a) : Y0Q ⟨f, a⟩ ⟨g, b⟩ = some (decide (f.Name = g.Name ∧ f.Kind = g.Kind ∧ f.f_Type = g.f_Type ∧ a = b)) := by
 have h1 := ha.len
 unfold Y0Q Y0Q.j2
 show (if (f.Name == g.Name) = true then (if (f.Kind == g.Kind) = true then (if (f.f_Type == g.f_Type) = true then ((Y0x a b (fun p : Y0a × Y0a => Y13 p.1 p.2)).bind fun x42 => Y0Q.j1 x42) else Y0Q.j1 false) else Y0Q.j1 false) else Y0Q.j1 false) = _
 unfold Y0Q.j1
 by_cases c1 : f.Name = g.Name
 ·rw [if_pos (by simpa using c1)]
  by_cases c2 : f.Kind = g.Kind
  ·rw [if_pos (by simpa using c2)]
   by_cases c3 : f.f_Type = g.f_Type
   ·rw [if_pos (by simpa using c3), Y7s (by omega) (fun e he => by have := ha.olen e he; omega), Option.bind_some]
    congr 1
    exact decide_eq_decide.2 ⟨fun h => ⟨c1, c2, c3, h⟩, fun h => h.2.2.2⟩
   ·rw [if_neg (by simpa using c3)]; simp [c3]
  ·rw [if_neg (by simpa using c2)]; simp [c2]
 ·rw [if_neg (by simpa using c1)]; simp [c1]
theorem Y82 {f g : Y0c} (h1 : f.Name = g.Name) (h2 : f.Kind = g.Kind) (h3 : f.f_Type = g.f_Type) (T : List Y0f) (k : Y04) (s : List UInt8) : PB f T k s ↔ PB g T k s := by
 have e : ∀ o, Y28 f o = Y28 g o := fun o => by
  unfold Y28 Y5J
  rw [h1, h2, h3]
 unfold PB
 constructor
 ·rintro ⟨o, ho, hn, hk⟩
  exact ⟨o, ho, hn, by rw [← e]; exact hk⟩
 ·rintro ⟨o, ho, hn, hk⟩
  exact ⟨o, ho, hn, by rw [e]; exact hk⟩
theorem Y5r (x1 x4 : List Int) (x7 x8 : Int) : Y0E x1 x4 x7 x8 = some true := by
 unfold Y0E
 obtain ⟨f, e1⟩ := Y7V x7
 obtain ⟨g, e2⟩ := Y7V x8
 obtain ⟨s, e3, h3⟩ := Y5Y x1
 obtain ⟨e4, gs⟩ := Y6x h3
 obtain ⟨t, e5, h5⟩ := Y5Y x4
 obtain ⟨e6, gt⟩ := Y6x h5
 rw [e1, Option.bind_some, e2, Option.bind_some, e3, Option.bind_some, e4, Option.bind_some, e5, Option.bind_some, e6, Option.bind_some]
 obtain ⟨S, hS⟩ : ∃ S, S = Y5L s [] := ⟨_, rfl⟩
 obtain ⟨T, hT⟩ : ∃ T, T = Y5L t [] := ⟨_, rfl⟩
 rw [← hS] at gs ⊢
 rw [← hT] at gt ⊢
 obtain ⟨ea, b1, b2⟩ := Y5a f gs.go gs.len
 obtain ⟨eb, b3, b4⟩ := Y5a g gt.go gt.len
 have b3' : Y1s (⟨g.Name, g.Kind, g.f_Type, g.At⟩ : Y0c) ⟨T⟩ = some ⟨g, eb⟩ := b3
 rw [b1, Option.bind_some, b3', Option.bind_some]
 have fin : ∀ c : Bool, c = decide (f.Name = g.Name ∧ f.Kind = g.Kind ∧ f.f_Type = g.f_Type ∧ ea = eb) → Y0E.j2 f ⟨S⟩ ⟨f, ea⟩ ⟨g, eb⟩ c = some true := by
  intro c hc
  unfold Y0E.j2
  obtain ⟨ec, b5, b6⟩ := Y5a (⟨f.Name, f.Kind, f.f_Type, 9⟩ : Y0c) gs.go gs.len
  have : ec = ea := (b6.ix.congr (Y82 rfl rfl rfl S)).uniq b2.ix
  subst this
  rw [Y72 b2.eb, Option.bind_some, hc, if_pos (by simp), b5, Option.bind_some, Y72 b2.eb, Option.bind_some, if_pos (by simp), Y8t]
  rfl
 by_cases c1 : f.Name = g.Name
 ·rw [if_pos (by simpa using c1)]
  by_cases c2 : f.Kind = g.Kind
  ·rw [if_pos (by simpa using c2)]
   by_cases c3 : f.f_Type = g.f_Type
   ·rw [if_pos (by simpa using c3)]
    obtain ⟨er, b7, b8⟩ := Y8D (⟨g.Name, g.Kind, g.f_Type, x8⟩ : Y0c) gt.go gt.asc gt.len
    have : er = eb := (b8.congr (Y82 rfl rfl rfl T)).uniq b4.ix
    subst this
    rw [b7, Option.bind_some, same_eq (show ea.length ≤ _ by have := b2.len; omega) (fun e he => by have := b2.olen e he; omega), Option.bind_some]
    exact fin _ (decide_eq_decide.2 ⟨fun h => ⟨c1, c2, c3, h⟩, fun h => h.2.2.2⟩)
   ·rw [if_neg (by simpa using c3)]
    exact fin _ (by simp [c3])
  ·rw [if_neg (by simpa using c2)]
   exact fin _ (by simp [c2])
 ·rw [if_neg (by simpa using c1)]
  exact fin _ (by simp [c1])
end
end Go.Proofs.YtpfgdjfiimknlaaGreat
