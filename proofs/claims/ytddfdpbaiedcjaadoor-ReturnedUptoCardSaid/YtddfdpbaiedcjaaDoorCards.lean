/-
  DERIVED. GIVEN WITH THE SEED: THE CARDS: each row of YtddfdpbaiedcjaaDoorRows.lean that lists a variable, with what it lists TIED to the program's text (the seventh form; the later family's looks); each row that meets fmt, with fmt's text TOLD by the authors' own Lean function (tested against real Go, not proved from fmt's source: count such statements apart). THE CARD IS WHAT COUNTS. Prove the row's statement (the work); the ties are given (YtddfdpbaiedcjaaDoorTie.lean); close each card by the builder's one call (the guide's Derived/Test/ToyasCard.lean, 'card_holds'). Laid BY PROGRAM, IN A SANDBOX (cutbox-door.mjs). By AI agents, Wed Nov 11 2026. No macro, syntax, notation, axiom, sorry.
-/
import Derived.Test.YtddfdpbaiedcjaaDoorRows
import GoSem.ClaimSeven
namespace Go.Proofs.YtddfdpbaiedcjaaDoor
namespace Rows

/-- THE TIED CARD OF 'mediawirekeep.Returned'. -/
def returnedCard : Claim7 := { stood := { row := returnedRow, standIns := [], harness := (true, "b221019a1548f113a4879687a526089f834d0329098598544a1c9ca750fb9f67"), looks := true }, kinds := [], alts := [], laidByText := true, laidKinds := [.handle, .data], laidTests := true, laidLooks := .later }
def ReturnedCardSaid : Prop := Claim7.holds Tryd.pinned (.plain (OpenSpec.ofChange returnedSpec)) returnedCard

/-- THE SECOND FORM's CARD OF 'mediawirekeep.Returned'. -/
def returnedUptoCard : Claim7 := { stood := { row := returnedUptoRow, standIns := [], harness := (true, "b221019a1548f113a4879687a526089f834d0329098598544a1c9ca750fb9f67"), looks := true }, kinds := [], alts := [], laidByText := true, laidKinds := [.handle, .data], laidTests := true, laidLooks := .later }
def ReturnedUptoCardSaid : Prop := Claim7.holds Tryd.pinned (.plain (OpenSpec.upto returnedSpec)) returnedUptoCard
end Rows
end Go.Proofs.YtddfdpbaiedcjaaDoor
