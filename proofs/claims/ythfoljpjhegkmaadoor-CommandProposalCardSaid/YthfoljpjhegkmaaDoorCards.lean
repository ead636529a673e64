/-
  DERIVED. GIVEN WITH THE SEED: THE CARDS: each row of YthfoljpjhegkmaaDoorRows.lean that lists a variable, with what it lists TIED to the program's text (the seventh form; the later family's looks); each row that meets fmt, with fmt's text TOLD by the authors' own Lean function (tested against real Go, not proved from fmt's source: count such statements apart). THE CARD IS WHAT COUNTS. Prove the row's statement (the work); the ties are given (YthfoljpjhegkmaaDoorTie.lean); close each card by the builder's one call (the guide's Derived/Test/ToyasCard.lean, 'card_holds'). Laid BY PROGRAM, IN A SANDBOX (cutbox-door.mjs). By AI agents, Wed Nov 11 2026. No macro, syntax, notation, axiom, sorry.
-/
import Derived.Test.YthfoljpjhegkmaaDoorRows
import GoSem.ClaimSeven
namespace Go.Proofs.YthfoljpjhegkmaaDoor
namespace Rows

/-- THE TIED CARD OF 'elasticstorelaw08.CommandParse'. -/
def commandParseCard : Claim7 := { stood := { row := commandParseRow, standIns := [], harness := (true, "58be2c9ebddf49e02b6d417d92b95a12714b12f6f48de324fb84d4bb0241d6ed"), looks := false }, kinds := [], alts := [], laidByText := true, laidKinds := [.data, .data, .data, .data, .pinned], laidTests := true, laidLooks := .later }
def CommandParseCardSaid : Prop := Claim7.holds Tryd.pinned (.plain (OpenSpec.ofChange commandParseSpec)) commandParseCard

/-- THE TIED CARD OF 'elasticstorelaw08.CommandFormat'. -/
def commandFormatCard : Claim7 := { stood := { row := commandFormatRow, standIns := [], harness := (true, "58be2c9ebddf49e02b6d417d92b95a12714b12f6f48de324fb84d4bb0241d6ed"), looks := false }, kinds := [], alts := [], laidByText := true, laidKinds := [.data, .data, .data, .data, .pinned], laidTests := true, laidLooks := .later }
def CommandFormatCardSaid : Prop := Claim7.holds Tryd.pinned (.plain (OpenSpec.ofChange commandFormatSpec)) commandFormatCard

/-- THE TIED CARD OF 'elasticstorelaw08.CommandCompile'. -/
def commandCompileCard : Claim7 := { stood := { row := commandCompileRow, standIns := [], harness := (true, "58be2c9ebddf49e02b6d417d92b95a12714b12f6f48de324fb84d4bb0241d6ed"), looks := false }, kinds := [], alts := [], laidByText := true, laidKinds := [.data, .data, .data, .data, .pinned], laidTests := true, laidLooks := .later }
def CommandCompileCardSaid : Prop := Claim7.holds Tryd.pinned (.plain (OpenSpec.ofChange commandCompileSpec)) commandCompileCard

/-- THE TIED CARD OF 'elasticstorelaw08.CommandProposal'. -/
def commandProposalCard : Claim7 := { stood := { row := commandProposalRow, standIns := [], harness := (true, "58be2c9ebddf49e02b6d417d92b95a12714b12f6f48de324fb84d4bb0241d6ed"), looks := false }, kinds := [], alts := [], laidByText := true, laidKinds := [.data, .data, .data, .data, .pinned], laidTests := true, laidLooks := .later }
def CommandProposalCardSaid : Prop := Claim7.holds Tryd.pinned (.plain (OpenSpec.ofChange commandProposalSpec)) commandProposalCard

/-- THE TIED CARD OF 'elasticstorelaw08.CommandLines'. -/
def commandLinesCard : Claim7 := { stood := { row := commandLinesRow, standIns := [], harness := (true, "58be2c9ebddf49e02b6d417d92b95a12714b12f6f48de324fb84d4bb0241d6ed"), looks := false }, kinds := [], alts := [], laidByText := true, laidKinds := [.data, .data, .data, .data, .pinned], laidTests := true, laidLooks := .later }
def CommandLinesCardSaid : Prop := Claim7.holds Tryd.pinned (.plain (OpenSpec.ofChange commandLinesSpec)) commandLinesCard

/-- THE SECOND FORM's CARD OF 'elasticstorelaw08.CommandParse'. -/
def commandParseUptoCard : Claim7 := { stood := { row := commandParseUptoRow, standIns := [], harness := (true, "58be2c9ebddf49e02b6d417d92b95a12714b12f6f48de324fb84d4bb0241d6ed"), looks := false }, kinds := [], alts := [], laidByText := true, laidKinds := [.data, .data, .data, .data, .pinned], laidTests := true, laidLooks := .later }
def CommandParseUptoCardSaid : Prop := Claim7.holds Tryd.pinned (.plain (OpenSpec.upto commandParseSpec)) commandParseUptoCard

/-- THE SECOND FORM's CARD OF 'elasticstorelaw08.CommandFormat'. -/
def commandFormatUptoCard : Claim7 := { stood := { row := commandFormatUptoRow, standIns := [], harness := (true, "58be2c9ebddf49e02b6d417d92b95a12714b12f6f48de324fb84d4bb0241d6ed"), looks := false }, kinds := [], alts := [], laidByText := true, laidKinds := [.data, .data, .data, .data, .pinned], laidTests := true, laidLooks := .later }
def CommandFormatUptoCardSaid : Prop := Claim7.holds Tryd.pinned (.plain (OpenSpec.upto commandFormatSpec)) commandFormatUptoCard

/-- THE SECOND FORM's CARD OF 'elasticstorelaw08.CommandCompile'. -/
def commandCompileUptoCard : Claim7 := { stood := { row := commandCompileUptoRow, standIns := [], harness := (true, "58be2c9ebddf49e02b6d417d92b95a12714b12f6f48de324fb84d4bb0241d6ed"), looks := false }, kinds := [], alts := [], laidByText := true, laidKinds := [.data, .data, .data, .data, .pinned], laidTests := true, laidLooks := .later }
def CommandCompileUptoCardSaid : Prop := Claim7.holds Tryd.pinned (.plain (OpenSpec.upto commandCompileSpec)) commandCompileUptoCard

/-- THE SECOND FORM's CARD OF 'elasticstorelaw08.CommandProposal'. -/
def commandProposalUptoCard : Claim7 := { stood := { row := commandProposalUptoRow, standIns := [], harness := (true, "58be2c9ebddf49e02b6d417d92b95a12714b12f6f48de324fb84d4bb0241d6ed"), looks := false }, kinds := [], alts := [], laidByText := true, laidKinds := [.data, .data, .data, .data, .pinned], laidTests := true, laidLooks := .later }
def CommandProposalUptoCardSaid : Prop := Claim7.holds Tryd.pinned (.plain (OpenSpec.upto commandProposalSpec)) commandProposalUptoCard

/-- THE SECOND FORM's CARD OF 'elasticstorelaw08.CommandLines'. -/
def commandLinesUptoCard : Claim7 := { stood := { row := commandLinesUptoRow, standIns := [], harness := (true, "58be2c9ebddf49e02b6d417d92b95a12714b12f6f48de324fb84d4bb0241d6ed"), looks := false }, kinds := [], alts := [], laidByText := true, laidKinds := [.data, .data, .data, .data, .pinned], laidTests := true, laidLooks := .later }
def CommandLinesUptoCardSaid : Prop := Claim7.holds Tryd.pinned (.plain (OpenSpec.upto commandLinesSpec)) commandLinesUptoCard
end Rows
end Go.Proofs.YthfoljpjhegkmaaDoor
