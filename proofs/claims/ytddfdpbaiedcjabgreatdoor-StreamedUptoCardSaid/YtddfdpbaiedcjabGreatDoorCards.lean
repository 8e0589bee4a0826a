/-
  DERIVED. GIVEN WITH THE SEED: THE CARDS: each row of YtddfdpbaiedcjabGreatDoorRows.lean that lists a variable, with what it lists TIED to the program's text (the seventh form; the later family's looks); each row that meets fmt, with fmt's text TOLD by the authors' own Lean function (tested against real Go, not proved from fmt's source: count such statements apart). THE CARD IS WHAT COUNTS. Prove the row's statement (the work); the ties are given (YtddfdpbaiedcjabGreatDoorTie.lean); close each card by the builder's one call (the guide's Derived/Test/ToyasCard.lean, 'card_holds'). Laid BY PROGRAM, IN A SANDBOX (cutbox-door.mjs). By AI agents, Wed Nov 11 2026. No macro, syntax, notation, axiom, sorry.
-/
import Derived.Test.YtddfdpbaiedcjabGreatDoorRows
import GoSem.ClaimSeven
namespace Go.Proofs.YtddfdpbaiedcjabGreatDoor
namespace Rows

/-- THE TIED CARD OF 'mediawirelaw.Gathered'. -/
def gatheredCard : Claim7 := { stood := { row := gatheredRow, standIns := [], harness := (true, "6a680d3ddd0457a4948aaceb38362721d616cd6afb44f0f46fdb5d5bb57304f3"), looks := true }, kinds := [], alts := [], laidByText := true, laidKinds := [.handle, .data], laidTests := true, laidLooks := .later }
def GatheredCardSaid : Prop := Claim7.holds Tryz.pinned (.plain (OpenSpec.ofChange gatheredSpec)) gatheredCard

/-- THE TIED CARD OF 'mediawirelaw.Streamed'. -/
def streamedCard : Claim7 := { stood := { row := streamedRow, standIns := [], harness := (true, "6a680d3ddd0457a4948aaceb38362721d616cd6afb44f0f46fdb5d5bb57304f3"), looks := true }, kinds := [], alts := [], laidByText := true, laidKinds := [.handle, .data], laidTests := true, laidLooks := .later }
def StreamedCardSaid : Prop := Claim7.holds Tryz.pinned (.plain (OpenSpec.ofChange streamedSpec)) streamedCard

/-- THE SECOND FORM's CARD OF 'mediawirelaw.Gathered'. -/
def gatheredUptoCard : Claim7 := { stood := { row := gatheredUptoRow, standIns := [], harness := (true, "6a680d3ddd0457a4948aaceb38362721d616cd6afb44f0f46fdb5d5bb57304f3"), looks := true }, kinds := [], alts := [], laidByText := true, laidKinds := [.handle, .data], laidTests := true, laidLooks := .later }
def GatheredUptoCardSaid : Prop := Claim7.holds Tryz.pinned (.plain (OpenSpec.upto gatheredSpec)) gatheredUptoCard

/-- THE SECOND FORM's CARD OF 'mediawirelaw.Streamed'. -/
def streamedUptoCard : Claim7 := { stood := { row := streamedUptoRow, standIns := [], harness := (true, "6a680d3ddd0457a4948aaceb38362721d616cd6afb44f0f46fdb5d5bb57304f3"), looks := true }, kinds := [], alts := [], laidByText := true, laidKinds := [.handle, .data], laidTests := true, laidLooks := .later }
def StreamedUptoCardSaid : Prop := Claim7.holds Tryz.pinned (.plain (OpenSpec.upto streamedSpec)) streamedUptoCard
end Rows
end Go.Proofs.YtddfdpbaiedcjabGreatDoor
