/-
  DERIVED. GIVEN WITH THE SEED: THE CARDS: each row of YthcohhpmpdijoaaGreatDoorRows.lean that lists a variable, with what it lists TIED to the program's text (the seventh form; the later family's looks); each row that meets fmt, with fmt's text TOLD by the authors' own Lean function (tested against real Go, not proved from fmt's source: count such statements apart). THE CARD IS WHAT COUNTS. Prove the row's statement (the work); the ties are given (YthcohhpmpdijoaaGreatDoorTie.lean); close each card by the builder's one call (the guide's Derived/Test/ToyasCard.lean, 'card_holds'). Laid BY PROGRAM, IN A SANDBOX (cutbox-door.mjs). By AI agents, Wed Nov 11 2026. No macro, syntax, notation, axiom, sorry.
-/
import Derived.Test.YthcohhpmpdijoaaGreatDoorRows
import GoSem.ClaimSeven
namespace Go.Proofs.YthcohhpmpdijoaaGreatDoor
namespace Rows

/-- THE TIED CARD OF 'elasticstorelaw36.AdversaryRaw'. -/
def adversaryRawCard : Claim7 := { stood := { row := adversaryRawRow, standIns := [], harness := (true, "35353eea666f82868b48a6b1b9703c98a76bae94ce2dc82210fdad916f13ae1c"), looks := true }, kinds := [], alts := [], laidByText := true, laidKinds := [.data, .data, .data, .data, .sentinel, .sentinel, .data, .pinned], laidTests := true, laidLooks := .later }
def AdversaryRawCardSaid : Prop := Claim7.holds Tryz.pinned (.plain (OpenSpec.ofChange adversaryRawSpec)) adversaryRawCard

/-- THE TIED CARD OF 'elasticstorelaw36.AdversaryPrefers'. -/
def adversaryPrefersCard : Claim7 := { stood := { row := adversaryPrefersRow, standIns := [], harness := (true, "35353eea666f82868b48a6b1b9703c98a76bae94ce2dc82210fdad916f13ae1c"), looks := true }, kinds := [], alts := [], laidByText := true, laidKinds := [.data, .data, .data, .data, .sentinel, .sentinel, .data, .pinned], laidTests := true, laidLooks := .later }
def AdversaryPrefersCardSaid : Prop := Claim7.holds Tryz.pinned (.plain (OpenSpec.ofChange adversaryPrefersSpec)) adversaryPrefersCard

/-- THE SECOND FORM's CARD OF 'elasticstorelaw36.AdversaryRaw'. -/
def adversaryRawUptoCard : Claim7 := { stood := { row := adversaryRawUptoRow, standIns := [], harness := (true, "35353eea666f82868b48a6b1b9703c98a76bae94ce2dc82210fdad916f13ae1c"), looks := true }, kinds := [], alts := [], laidByText := true, laidKinds := [.data, .data, .data, .data, .sentinel, .sentinel, .data, .pinned], laidTests := true, laidLooks := .later }
def AdversaryRawUptoCardSaid : Prop := Claim7.holds Tryz.pinned (.plain (OpenSpec.upto adversaryRawSpec)) adversaryRawUptoCard

/-- THE SECOND FORM's CARD OF 'elasticstorelaw36.AdversaryPrefers'. -/
def adversaryPrefersUptoCard : Claim7 := { stood := { row := adversaryPrefersUptoRow, standIns := [], harness := (true, "35353eea666f82868b48a6b1b9703c98a76bae94ce2dc82210fdad916f13ae1c"), looks := true }, kinds := [], alts := [], laidByText := true, laidKinds := [.data, .data, .data, .data, .sentinel, .sentinel, .data, .pinned], laidTests := true, laidLooks := .later }
def AdversaryPrefersUptoCardSaid : Prop := Claim7.holds Tryz.pinned (.plain (OpenSpec.upto adversaryPrefersSpec)) adversaryPrefersUptoCard
end Rows
end Go.Proofs.YthcohhpmpdijoaaGreatDoor
