/-
  DERIVED. GIVEN WITH THE SEED: THE CARDS: each row of YthcohhpmpdijoaaDoorRows.lean that lists a variable, with what it lists TIED to the program's text (the seventh form; the later family's looks); each row that meets fmt, with fmt's text TOLD by the authors' own Lean function (tested against real Go, not proved from fmt's source: count such statements apart). THE CARD IS WHAT COUNTS. Prove the row's statement (the work); the ties are given (YthcohhpmpdijoaaDoorTie.lean); close each card by the builder's one call (the guide's Derived/Test/ToyasCard.lean, 'card_holds'). Laid BY PROGRAM, IN A SANDBOX (cutbox-door.mjs). By AI agents, Wed Nov 11 2026. No macro, syntax, notation, axiom, sorry.
-/
import Derived.Test.YthcohhpmpdijoaaDoorRows
import GoSem.ClaimSeven
namespace Go.Proofs.YthcohhpmpdijoaaDoor
namespace Rows

/-- THE TIED CARD OF 'elasticstorelaw36.AdversaryText'. -/
def adversaryTextCard : Claim7 := { stood := { row := adversaryTextRow, standIns := [], harness := (true, "99a037601a6c0c9fddd68af27d5c1968b59244d69a6e0caced632f70837005b0"), looks := true }, kinds := [], alts := [], laidByText := true, laidKinds := [.data, .data, .data, .data, .sentinel, .sentinel, .data, .pinned], laidTests := true, laidLooks := .later }
def AdversaryTextCardSaid : Prop := Claim7.holds Tryd.pinned (.plain (OpenSpec.ofChange adversaryTextSpec)) adversaryTextCard

/-- THE SECOND FORM's CARD OF 'elasticstorelaw36.AdversaryText'. -/
def adversaryTextUptoCard : Claim7 := { stood := { row := adversaryTextUptoRow, standIns := [], harness := (true, "99a037601a6c0c9fddd68af27d5c1968b59244d69a6e0caced632f70837005b0"), looks := true }, kinds := [], alts := [], laidByText := true, laidKinds := [.data, .data, .data, .data, .sentinel, .sentinel, .data, .pinned], laidTests := true, laidLooks := .later }
def AdversaryTextUptoCardSaid : Prop := Claim7.holds Tryd.pinned (.plain (OpenSpec.upto adversaryTextSpec)) adversaryTextUptoCard
end Rows
end Go.Proofs.YthcohhpmpdijoaaDoor
