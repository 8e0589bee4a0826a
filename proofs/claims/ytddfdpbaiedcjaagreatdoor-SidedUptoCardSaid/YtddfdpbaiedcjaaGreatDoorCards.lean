/-
  DERIVED. GIVEN WITH THE SEED: THE CARDS: each row of YtddfdpbaiedcjaaGreatDoorRows.lean that lists a variable, with what it lists TIED to the program's text (the seventh form; the later family's looks); each row that meets fmt, with fmt's text TOLD by the authors' own Lean function (tested against real Go, not proved from fmt's source: count such statements apart). THE CARD IS WHAT COUNTS. Prove the row's statement (the work); the ties are given (YtddfdpbaiedcjaaGreatDoorTie.lean); close each card by the builder's one call (the guide's Derived/Test/ToyasCard.lean, 'card_holds'). Laid BY PROGRAM, IN A SANDBOX (cutbox-door.mjs). By AI agents, Wed Nov 11 2026. No macro, syntax, notation, axiom, sorry.
-/
import Derived.Test.YtddfdpbaiedcjaaGreatDoorRows
import GoSem.ClaimSeven
namespace Go.Proofs.YtddfdpbaiedcjaaGreatDoor
namespace Rows

/-- THE TIED CARD OF 'mediawirelaw.Sided'. -/
def sidedCard : Claim7 := { stood := { row := sidedRow, standIns := [], harness := (true, "0c2cb3d17095d38efd54eb302b431aa38d55e76f788a4069905e7efa1347901c"), looks := true }, kinds := [], alts := [], goes := true, laidByText := true, laidKinds := [.handle, .data], laidTests := true, laidLooks := .later }
def SidedCardSaid : Prop := Claim7.holds Tryz.pinned (.plain (OpenSpec.ofChange sidedSpec)) sidedCard

/-- THE TIED CARD OF 'mediawirelaw.All'. -/
def allCard : Claim7 := { stood := { row := allRow, standIns := [], harness := (true, "0c2cb3d17095d38efd54eb302b431aa38d55e76f788a4069905e7efa1347901c"), looks := true }, kinds := [], alts := [], goes := true, laidByText := true, laidKinds := [.handle, .data], laidTests := true, laidLooks := .later }
def AllCardSaid : Prop := Claim7.holds Tryz.pinned (.plain (OpenSpec.ofChange allSpec)) allCard

/-- THE TIED CARD OF 'mediawirekeep.Carried'. -/
def carriedCard : Claim7 := { stood := { row := carriedRow, standIns := [], harness := (true, "0c2cb3d17095d38efd54eb302b431aa38d55e76f788a4069905e7efa1347901c"), looks := true }, kinds := [], alts := [], goes := true, laidByText := true, laidKinds := [.handle, .data], laidTests := true, laidLooks := .later }
def CarriedCardSaid : Prop := Claim7.holds Tryz.pinned (.plain (OpenSpec.ofChange carriedSpec)) carriedCard

/-- THE TIED CARD OF 'mediawirekeep.Live'. -/
def liveCard : Claim7 := { stood := { row := liveRow, standIns := [], harness := (true, "0c2cb3d17095d38efd54eb302b431aa38d55e76f788a4069905e7efa1347901c"), looks := true }, kinds := [], alts := [], goes := true, laidByText := true, laidKinds := [.handle, .data], laidTests := true, laidLooks := .later }
def LiveCardSaid : Prop := Claim7.holds Tryz.pinned (.plain (OpenSpec.ofChange liveSpec)) liveCard

/-- THE TIED CARD OF 'mediawirekeep.Given'. -/
def givenCard : Claim7 := { stood := { row := givenRow, standIns := [], harness := (true, "0c2cb3d17095d38efd54eb302b431aa38d55e76f788a4069905e7efa1347901c"), looks := true }, kinds := [], alts := [], goes := true, laidByText := true, laidKinds := [.handle, .data], laidTests := true, laidLooks := .later }
def GivenCardSaid : Prop := Claim7.holds Tryz.pinned (.plain (OpenSpec.ofChange givenSpec)) givenCard

/-- THE TIED CARD OF 'mediawirekeep.Once'. -/
def onceCard : Claim7 := { stood := { row := onceRow, standIns := [], harness := (true, "0c2cb3d17095d38efd54eb302b431aa38d55e76f788a4069905e7efa1347901c"), looks := true }, kinds := [], alts := [], goes := true, laidByText := true, laidKinds := [.handle, .data], laidTests := true, laidLooks := .later }
def OnceCardSaid : Prop := Claim7.holds Tryz.pinned (.plain (OpenSpec.ofChange onceSpec)) onceCard

/-- THE TIED CARD OF 'mediawirekeep.Urgent'. -/
def urgentCard : Claim7 := { stood := { row := urgentRow, standIns := [], harness := (true, "0c2cb3d17095d38efd54eb302b431aa38d55e76f788a4069905e7efa1347901c"), looks := true }, kinds := [], alts := [], goes := true, laidByText := true, laidKinds := [.handle, .data], laidTests := true, laidLooks := .later }
def UrgentCardSaid : Prop := Claim7.holds Tryz.pinned (.plain (OpenSpec.ofChange urgentSpec)) urgentCard

/-- THE TIED CARD OF 'mediawirekeep.Talked'. -/
def talkedCard : Claim7 := { stood := { row := talkedRow, standIns := [], harness := (true, "0c2cb3d17095d38efd54eb302b431aa38d55e76f788a4069905e7efa1347901c"), looks := true }, kinds := [], alts := [], goes := true, laidByText := true, laidKinds := [.handle, .data], laidTests := true, laidLooks := .later }
def TalkedCardSaid : Prop := Claim7.holds Tryz.pinned (.plain (OpenSpec.ofChange talkedSpec)) talkedCard

/-- THE TIED CARD OF 'mediawirelaw.Coded'. -/
def codedCard : Claim7 := { stood := { row := codedRow, standIns := [], harness := (true, "0c2cb3d17095d38efd54eb302b431aa38d55e76f788a4069905e7efa1347901c"), looks := true }, kinds := [], alts := [], goes := true, laidByText := true, laidKinds := [.handle, .data], laidTests := true, laidLooks := .later }
def CodedCardSaid : Prop := Claim7.holds Tryz.pinned (.plain (OpenSpec.ofChange codedSpec)) codedCard

/-- THE SECOND FORM's CARD OF 'mediawirelaw.Sided'. -/
def sidedUptoCard : Claim7 := { stood := { row := sidedUptoRow, standIns := [], harness := (true, "0c2cb3d17095d38efd54eb302b431aa38d55e76f788a4069905e7efa1347901c"), looks := true }, kinds := [], alts := [], goes := true, laidByText := true, laidKinds := [.handle, .data], laidTests := true, laidLooks := .later }
def SidedUptoCardSaid : Prop := Claim7.holds Tryz.pinned (.plain (OpenSpec.upto sidedSpec)) sidedUptoCard

/-- THE SECOND FORM's CARD OF 'mediawirelaw.All'. -/
def allUptoCard : Claim7 := { stood := { row := allUptoRow, standIns := [], harness := (true, "0c2cb3d17095d38efd54eb302b431aa38d55e76f788a4069905e7efa1347901c"), looks := true }, kinds := [], alts := [], goes := true, laidByText := true, laidKinds := [.handle, .data], laidTests := true, laidLooks := .later }
def AllUptoCardSaid : Prop := Claim7.holds Tryz.pinned (.plain (OpenSpec.upto allSpec)) allUptoCard

/-- THE SECOND FORM's CARD OF 'mediawirekeep.Carried'. -/
def carriedUptoCard : Claim7 := { stood := { row := carriedUptoRow, standIns := [], harness := (true, "0c2cb3d17095d38efd54eb302b431aa38d55e76f788a4069905e7efa1347901c"), looks := true }, kinds := [], alts := [], goes := true, laidByText := true, laidKinds := [.handle, .data], laidTests := true, laidLooks := .later }
def CarriedUptoCardSaid : Prop := Claim7.holds Tryz.pinned (.plain (OpenSpec.upto carriedSpec)) carriedUptoCard

/-- THE SECOND FORM's CARD OF 'mediawirekeep.Live'. -/
def liveUptoCard : Claim7 := { stood := { row := liveUptoRow, standIns := [], harness := (true, "0c2cb3d17095d38efd54eb302b431aa38d55e76f788a4069905e7efa1347901c"), looks := true }, kinds := [], alts := [], goes := true, laidByText := true, laidKinds := [.handle, .data], laidTests := true, laidLooks := .later }
def LiveUptoCardSaid : Prop := Claim7.holds Tryz.pinned (.plain (OpenSpec.upto liveSpec)) liveUptoCard

/-- THE SECOND FORM's CARD OF 'mediawirekeep.Given'. -/
def givenUptoCard : Claim7 := { stood := { row := givenUptoRow, standIns := [], harness := (true, "0c2cb3d17095d38efd54eb302b431aa38d55e76f788a4069905e7efa1347901c"), looks := true }, kinds := [], alts := [], goes := true, laidByText := true, laidKinds := [.handle, .data], laidTests := true, laidLooks := .later }
def GivenUptoCardSaid : Prop := Claim7.holds Tryz.pinned (.plain (OpenSpec.upto givenSpec)) givenUptoCard

/-- THE SECOND FORM's CARD OF 'mediawirekeep.Once'. -/
def onceUptoCard : Claim7 := { stood := { row := onceUptoRow, standIns := [], harness := (true, "0c2cb3d17095d38efd54eb302b431aa38d55e76f788a4069905e7efa1347901c"), looks := true }, kinds := [], alts := [], goes := true, laidByText := true, laidKinds := [.handle, .data], laidTests := true, laidLooks := .later }
def OnceUptoCardSaid : Prop := Claim7.holds Tryz.pinned (.plain (OpenSpec.upto onceSpec)) onceUptoCard

/-- THE SECOND FORM's CARD OF 'mediawirekeep.Urgent'. -/
def urgentUptoCard : Claim7 := { stood := { row := urgentUptoRow, standIns := [], harness := (true, "0c2cb3d17095d38efd54eb302b431aa38d55e76f788a4069905e7efa1347901c"), looks := true }, kinds := [], alts := [], goes := true, laidByText := true, laidKinds := [.handle, .data], laidTests := true, laidLooks := .later }
def UrgentUptoCardSaid : Prop := Claim7.holds Tryz.pinned (.plain (OpenSpec.upto urgentSpec)) urgentUptoCard

/-- THE SECOND FORM's CARD OF 'mediawirekeep.Talked'. -/
def talkedUptoCard : Claim7 := { stood := { row := talkedUptoRow, standIns := [], harness := (true, "0c2cb3d17095d38efd54eb302b431aa38d55e76f788a4069905e7efa1347901c"), looks := true }, kinds := [], alts := [], goes := true, laidByText := true, laidKinds := [.handle, .data], laidTests := true, laidLooks := .later }
def TalkedUptoCardSaid : Prop := Claim7.holds Tryz.pinned (.plain (OpenSpec.upto talkedSpec)) talkedUptoCard

/-- THE SECOND FORM's CARD OF 'mediawirelaw.Coded'. -/
def codedUptoCard : Claim7 := { stood := { row := codedUptoRow, standIns := [], harness := (true, "0c2cb3d17095d38efd54eb302b431aa38d55e76f788a4069905e7efa1347901c"), looks := true }, kinds := [], alts := [], goes := true, laidByText := true, laidKinds := [.handle, .data], laidTests := true, laidLooks := .later }
def CodedUptoCardSaid : Prop := Claim7.holds Tryz.pinned (.plain (OpenSpec.upto codedSpec)) codedUptoCard
end Rows
end Go.Proofs.YtddfdpbaiedcjaaGreatDoor
