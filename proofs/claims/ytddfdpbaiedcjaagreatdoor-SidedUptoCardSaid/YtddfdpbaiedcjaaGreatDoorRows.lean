/-
  NARROWER THAN 'FOR EVERY INPUT', by the rows' own cells (each row's printed sentence says how): Sided: laid · All: laid · Carried: laid · Live: laid · Given: laid · Once: laid · Urgent: laid · Talked: laid · Coded: laid.
  DERIVED. THE GIVEN ROWS OF THIS SEAT. 9 by the template 'for every input the law returns true; each argument reads behind the call as it read before'; 0 by the template 'total and deterministic' (their statements: YtddfdpbaiedcjaaGreatDoorTotals.lean).
  GIVEN WITH THE SEED: the statements are not yours to turn. If you find one false, say at which input.
  Laid BY PROGRAM, IN A SANDBOX (cutbox-rows.mjs): the forced cells as the released guide's own fill.sh prints them over the translation 1f13eabdecf7da2c… (all of the seat's roots in one cut). By AI agents, Wed Nov 11 2026. No macro, syntax, notation, axiom, sorry.
-/
import Derived.Test.YtddfdpbaiedcjaaGreatDoorChecked
import GoSem.Claim
import GoSem.ClaimJoined
import GoSem.ClaimMapViews
import Derived.JoinedTies
import Derived.KernelRfl
namespace Go.Proofs.YtddfdpbaiedcjaaGreatDoor
/- THE CELL 'sum', in the pinned program and in every row, IS THE sha256 OF THE DUMP (.gsa) THAT YtddfdpbaiedcjaaGreatDoorProg.lean LOADS. Nothing in Lean hashes anything: it is a label: what it is worth is what the hold of that sum in a sandbox is worth. -/
noncomputable def Tryz.pinned : Pinned := { name := "ytddfdpbaiedcjaagreatdoor", sum := "1f13eabdecf7da2c55c2816f4b455b1b249069fbdaddf6866663a0ce07a47d61", checked := Tryz.checked }
namespace Rows
def none {H : Type} : Left H := { results := [], args := [] }

/- WHAT THE LISTED PACKAGE-LEVEL VARIABLES READ AS WHEN THE CALL BEGINS. Each datum BY PROGRAM (the guide's laid-datum.mjs) off the statement by which the dump's own 'gosem.cut.vars' lays the variable. In a bare row this is a premise. The card (YtddfdpbaiedcjaaGreatDoorCards.lean) ties it to the program's text. -/
def laid_errors_errorType {H : Type} : DataW H := .iface "internal/reflectlite.rtype" (.agg [.ptr (.lit (.string [101, 114, 114, 111, 114]))])
def laid_mediawire_wire_table {H : Type} : DataW H := .agg [.lit (.int .u32 0), .lit (.int .u32 498536548), .lit (.int .u32 997073096), .lit (.int .u32 651767980), .lit (.int .u32 1994146192), .lit (.int .u32 1802195444), .lit (.int .u32 1303535960), .lit (.int .u32 1342533948), .lit (.int .u32 3988292384), .lit (.int .u32 4027552580), .lit (.int .u32 3604390888), .lit (.int .u32 3412177804), .lit (.int .u32 2607071920), .lit (.int .u32 2262029012), .lit (.int .u32 2685067896), .lit (.int .u32 3183342108)]

/-- 'mediawirelaw.Sided': WHATEVER THE INPUT: true; the input reads as it did. -/
def sidedSpec : ChangeSpec := { name := "sided", fn := fun _ => fun
  | [d] => { results := [.lit (.bool true)], args := [d] }
  | _ => none }
def sidedRow : OpenClaim := { program := "ytddfdpbaiedcjaagreatdoor", sum := "1f13eabdecf7da2c55c2816f4b455b1b249069fbdaddf6866663a0ce07a47d61", func := "mediawire/mediawirelaw.Sided", spec := "sided", inPlace := ["internal/reflectlite.ValueOf", "(internal/reflectlite.Value).Type", "(internal/reflectlite.Value).IsNil", "internal/reflectlite.TypeOf", "(internal/reflectlite.Value).Elem", "(internal/reflectlite.Value).Set", "slices.overlaps[mediawire/api.Range]"], unfollowed := true, recurses := true, named := ["errors.errorType", "mediawire/wire.table"], leaving := true, apart := false, laid := [("errors.errorType", laid_errors_errorType), ("mediawire/wire.table", laid_mediawire_wire_table)] }
def SidedSaid : Prop := sidedRow.holds Tryz.pinned (OpenSpec.ofChange sidedSpec)

/-- ITS FALSE NEIGHBOUR: 'it returns false'. Refute it at one input. -/
def sidedWrong : ChangeSpec := { name := "sided", fn := fun _ => fun
  | [d] => { results := [.lit (.bool false)], args := [d] }
  | _ => none }
def SidedWrongFalsely : Prop := sidedRow.holds Tryz.pinned (OpenSpec.ofChange sidedWrong)

/-- 'mediawirelaw.All': WHATEVER THE INPUT: true; the input reads as it did. -/
def allSpec : ChangeSpec := { name := "all", fn := fun _ => fun
  | [d] => { results := [.lit (.bool true)], args := [d] }
  | _ => none }
def allRow : OpenClaim := { program := "ytddfdpbaiedcjaagreatdoor", sum := "1f13eabdecf7da2c55c2816f4b455b1b249069fbdaddf6866663a0ce07a47d61", func := "mediawire/mediawirelaw.All", spec := "all", inPlace := ["internal/reflectlite.ValueOf", "(internal/reflectlite.Value).Type", "(internal/reflectlite.Value).IsNil", "internal/reflectlite.TypeOf", "(internal/reflectlite.Value).Elem", "(internal/reflectlite.Value).Set", "slices.overlaps[mediawire/api.Range]"], unfollowed := true, recurses := true, named := ["errors.errorType", "mediawire/wire.table"], leaving := true, apart := false, laid := [("errors.errorType", laid_errors_errorType), ("mediawire/wire.table", laid_mediawire_wire_table)] }
def AllSaid : Prop := allRow.holds Tryz.pinned (OpenSpec.ofChange allSpec)

/-- ITS FALSE NEIGHBOUR: 'it returns false'. Refute it at one input. -/
def allWrong : ChangeSpec := { name := "all", fn := fun _ => fun
  | [d] => { results := [.lit (.bool false)], args := [d] }
  | _ => none }
def AllWrongFalsely : Prop := allRow.holds Tryz.pinned (OpenSpec.ofChange allWrong)

/-- 'mediawirekeep.Carried': WHATEVER THE INPUT: true; the input reads as it did. -/
def carriedSpec : ChangeSpec := { name := "carried", fn := fun _ => fun
  | [d1, d2, d3, d4] => { results := [.lit (.bool true)], args := [d1, d2, d3, d4] }
  | _ => none }
def carriedRow : OpenClaim := { program := "ytddfdpbaiedcjaagreatdoor", sum := "1f13eabdecf7da2c55c2816f4b455b1b249069fbdaddf6866663a0ce07a47d61", func := "mediawire/mediawirekeep.Carried", spec := "carried", inPlace := ["internal/reflectlite.ValueOf", "(internal/reflectlite.Value).Type", "(internal/reflectlite.Value).IsNil", "internal/reflectlite.TypeOf", "(internal/reflectlite.Value).Elem", "(internal/reflectlite.Value).Set", "slices.overlaps[mediawire/api.Range]"], unfollowed := true, recurses := true, named := ["errors.errorType", "mediawire/wire.table"], leaving := true, apart := false, laid := [("errors.errorType", laid_errors_errorType), ("mediawire/wire.table", laid_mediawire_wire_table)] }
def CarriedSaid : Prop := carriedRow.holds Tryz.pinned (OpenSpec.ofChange carriedSpec)

/-- ITS FALSE NEIGHBOUR: 'it returns false'. Refute it at one input. -/
def carriedWrong : ChangeSpec := { name := "carried", fn := fun _ => fun
  | [d1, d2, d3, d4] => { results := [.lit (.bool false)], args := [d1, d2, d3, d4] }
  | _ => none }
def CarriedWrongFalsely : Prop := carriedRow.holds Tryz.pinned (OpenSpec.ofChange carriedWrong)

/-- 'mediawirekeep.Live': WHATEVER THE INPUT: true; the input reads as it did. -/
def liveSpec : ChangeSpec := { name := "live", fn := fun _ => fun
  | [d1, d2, d3, d4] => { results := [.lit (.bool true)], args := [d1, d2, d3, d4] }
  | _ => none }
def liveRow : OpenClaim := { program := "ytddfdpbaiedcjaagreatdoor", sum := "1f13eabdecf7da2c55c2816f4b455b1b249069fbdaddf6866663a0ce07a47d61", func := "mediawire/mediawirekeep.Live", spec := "live", inPlace := ["internal/reflectlite.ValueOf", "(internal/reflectlite.Value).Type", "(internal/reflectlite.Value).IsNil", "internal/reflectlite.TypeOf", "(internal/reflectlite.Value).Elem", "(internal/reflectlite.Value).Set", "slices.overlaps[mediawire/api.Range]"], unfollowed := true, recurses := true, named := ["errors.errorType", "mediawire/wire.table"], leaving := true, apart := false, laid := [("errors.errorType", laid_errors_errorType), ("mediawire/wire.table", laid_mediawire_wire_table)] }
def LiveSaid : Prop := liveRow.holds Tryz.pinned (OpenSpec.ofChange liveSpec)

/-- ITS FALSE NEIGHBOUR: 'it returns false'. Refute it at one input. -/
def liveWrong : ChangeSpec := { name := "live", fn := fun _ => fun
  | [d1, d2, d3, d4] => { results := [.lit (.bool false)], args := [d1, d2, d3, d4] }
  | _ => none }
def LiveWrongFalsely : Prop := liveRow.holds Tryz.pinned (OpenSpec.ofChange liveWrong)

/-- 'mediawirekeep.Given': WHATEVER THE INPUT: true; the input reads as it did. -/
def givenSpec : ChangeSpec := { name := "given", fn := fun _ => fun
  | [d1, d2, d3, d4] => { results := [.lit (.bool true)], args := [d1, d2, d3, d4] }
  | _ => none }
def givenRow : OpenClaim := { program := "ytddfdpbaiedcjaagreatdoor", sum := "1f13eabdecf7da2c55c2816f4b455b1b249069fbdaddf6866663a0ce07a47d61", func := "mediawire/mediawirekeep.Given", spec := "given", inPlace := ["internal/reflectlite.ValueOf", "(internal/reflectlite.Value).Type", "(internal/reflectlite.Value).IsNil", "internal/reflectlite.TypeOf", "(internal/reflectlite.Value).Elem", "(internal/reflectlite.Value).Set", "slices.overlaps[mediawire/api.Range]"], unfollowed := true, recurses := true, named := ["errors.errorType", "mediawire/wire.table"], leaving := true, apart := false, laid := [("errors.errorType", laid_errors_errorType), ("mediawire/wire.table", laid_mediawire_wire_table)] }
def GivenSaid : Prop := givenRow.holds Tryz.pinned (OpenSpec.ofChange givenSpec)

/-- ITS FALSE NEIGHBOUR: 'it returns false'. Refute it at one input. -/
def givenWrong : ChangeSpec := { name := "given", fn := fun _ => fun
  | [d1, d2, d3, d4] => { results := [.lit (.bool false)], args := [d1, d2, d3, d4] }
  | _ => none }
def GivenWrongFalsely : Prop := givenRow.holds Tryz.pinned (OpenSpec.ofChange givenWrong)

/-- 'mediawirekeep.Once': WHATEVER THE INPUT: true; the input reads as it did. -/
def onceSpec : ChangeSpec := { name := "once", fn := fun _ => fun
  | [d1, d2, d3, d4] => { results := [.lit (.bool true)], args := [d1, d2, d3, d4] }
  | _ => none }
def onceRow : OpenClaim := { program := "ytddfdpbaiedcjaagreatdoor", sum := "1f13eabdecf7da2c55c2816f4b455b1b249069fbdaddf6866663a0ce07a47d61", func := "mediawire/mediawirekeep.Once", spec := "once", inPlace := ["internal/reflectlite.ValueOf", "(internal/reflectlite.Value).Type", "(internal/reflectlite.Value).IsNil", "internal/reflectlite.TypeOf", "(internal/reflectlite.Value).Elem", "(internal/reflectlite.Value).Set", "slices.overlaps[mediawire/api.Range]"], unfollowed := true, recurses := true, named := ["errors.errorType", "mediawire/wire.table"], leaving := true, apart := false, laid := [("errors.errorType", laid_errors_errorType), ("mediawire/wire.table", laid_mediawire_wire_table)] }
def OnceSaid : Prop := onceRow.holds Tryz.pinned (OpenSpec.ofChange onceSpec)

/-- ITS FALSE NEIGHBOUR: 'it returns false'. Refute it at one input. -/
def onceWrong : ChangeSpec := { name := "once", fn := fun _ => fun
  | [d1, d2, d3, d4] => { results := [.lit (.bool false)], args := [d1, d2, d3, d4] }
  | _ => none }
def OnceWrongFalsely : Prop := onceRow.holds Tryz.pinned (OpenSpec.ofChange onceWrong)

/-- 'mediawirekeep.Urgent': WHATEVER THE INPUT: true; the input reads as it did. -/
def urgentSpec : ChangeSpec := { name := "urgent", fn := fun _ => fun
  | [d1, d2, d3] => { results := [.lit (.bool true)], args := [d1, d2, d3] }
  | _ => none }
def urgentRow : OpenClaim := { program := "ytddfdpbaiedcjaagreatdoor", sum := "1f13eabdecf7da2c55c2816f4b455b1b249069fbdaddf6866663a0ce07a47d61", func := "mediawire/mediawirekeep.Urgent", spec := "urgent", inPlace := ["internal/reflectlite.ValueOf", "(internal/reflectlite.Value).Type", "(internal/reflectlite.Value).IsNil", "internal/reflectlite.TypeOf", "(internal/reflectlite.Value).Elem", "(internal/reflectlite.Value).Set", "slices.overlaps[mediawire/api.Range]"], unfollowed := true, recurses := true, named := ["errors.errorType", "mediawire/wire.table"], leaving := true, apart := false, laid := [("errors.errorType", laid_errors_errorType), ("mediawire/wire.table", laid_mediawire_wire_table)] }
def UrgentSaid : Prop := urgentRow.holds Tryz.pinned (OpenSpec.ofChange urgentSpec)

/-- ITS FALSE NEIGHBOUR: 'it returns false'. Refute it at one input. -/
def urgentWrong : ChangeSpec := { name := "urgent", fn := fun _ => fun
  | [d1, d2, d3] => { results := [.lit (.bool false)], args := [d1, d2, d3] }
  | _ => none }
def UrgentWrongFalsely : Prop := urgentRow.holds Tryz.pinned (OpenSpec.ofChange urgentWrong)

/-- 'mediawirekeep.Talked': WHATEVER THE INPUT: true; the input reads as it did. -/
def talkedSpec : ChangeSpec := { name := "talked", fn := fun _ => fun
  | [d1, d2, d3, d4, d5] => { results := [.lit (.bool true)], args := [d1, d2, d3, d4, d5] }
  | _ => none }
def talkedRow : OpenClaim := { program := "ytddfdpbaiedcjaagreatdoor", sum := "1f13eabdecf7da2c55c2816f4b455b1b249069fbdaddf6866663a0ce07a47d61", func := "mediawire/mediawirekeep.Talked", spec := "talked", inPlace := ["internal/reflectlite.ValueOf", "(internal/reflectlite.Value).Type", "(internal/reflectlite.Value).IsNil", "internal/reflectlite.TypeOf", "(internal/reflectlite.Value).Elem", "(internal/reflectlite.Value).Set", "slices.overlaps[mediawire/api.Range]"], unfollowed := true, recurses := true, named := ["errors.errorType", "mediawire/wire.table"], leaving := true, apart := false, laid := [("errors.errorType", laid_errors_errorType), ("mediawire/wire.table", laid_mediawire_wire_table)] }
def TalkedSaid : Prop := talkedRow.holds Tryz.pinned (OpenSpec.ofChange talkedSpec)

/-- ITS FALSE NEIGHBOUR: 'it returns false'. Refute it at one input. -/
def talkedWrong : ChangeSpec := { name := "talked", fn := fun _ => fun
  | [d1, d2, d3, d4, d5] => { results := [.lit (.bool false)], args := [d1, d2, d3, d4, d5] }
  | _ => none }
def TalkedWrongFalsely : Prop := talkedRow.holds Tryz.pinned (OpenSpec.ofChange talkedWrong)

/-- 'mediawirelaw.Coded': WHATEVER THE INPUT: true; the input reads as it did. -/
def codedSpec : ChangeSpec := { name := "coded", fn := fun _ => fun
  | [d] => { results := [.lit (.bool true)], args := [d] }
  | _ => none }
def codedRow : OpenClaim := { program := "ytddfdpbaiedcjaagreatdoor", sum := "1f13eabdecf7da2c55c2816f4b455b1b249069fbdaddf6866663a0ce07a47d61", func := "mediawire/mediawirelaw.Coded", spec := "coded", inPlace := ["internal/reflectlite.ValueOf", "(internal/reflectlite.Value).Type", "(internal/reflectlite.Value).IsNil", "internal/reflectlite.TypeOf", "(internal/reflectlite.Value).Elem", "(internal/reflectlite.Value).Set", "slices.overlaps[mediawire/api.Range]"], unfollowed := true, recurses := true, named := ["errors.errorType", "mediawire/wire.table"], leaving := true, apart := false, laid := [("errors.errorType", laid_errors_errorType), ("mediawire/wire.table", laid_mediawire_wire_table)] }
def CodedSaid : Prop := codedRow.holds Tryz.pinned (OpenSpec.ofChange codedSpec)

/-- ITS FALSE NEIGHBOUR: 'it returns false'. Refute it at one input. -/
def codedWrong : ChangeSpec := { name := "coded", fn := fun _ => fun
  | [d] => { results := [.lit (.bool false)], args := [d] }
  | _ => none }
def CodedWrongFalsely : Prop := codedRow.holds Tryz.pinned (OpenSpec.ofChange codedWrong)

/- THE SECOND FORM. 'bulk': how many values and letters a reading holds, each counted each time it is reached (what is shared counts as often as it is met; a slice's spare places count too). A statement '..UptoSaid' is the law's where the arguments, and the package variables that the reading takes, are together of bulk at most 1048576: NARROWER than '..Said'. Prove '..Said' where nothing that the law and all that it calls make is longer than what came in: it says more and counts as full. Else prove '..UptoSaid'. A law counts once. -/
mutual
def uptoBulk {H : Type} : DataW H → Nat
  | .lit (.string bytes) => bytes.length + 1
  | .lit _ => 1
  | .nil => 1
  | .ptr d => uptoBulk d + 1
  | .slice elems spare => uptoBulkAll elems + uptoBulkAll spare + 1
  | .agg parts => uptoBulkAll parts + 1
  | .iface _ d => uptoBulk d + 1
  | .map entries => uptoBulkEntries entries + 1
  | .held _ => 1
def uptoBulkAll {H : Type} : List (DataW H) → Nat
  | [] => 0
  | d :: r => uptoBulk d + uptoBulkAll r
def uptoBulkEntries {H : Type} : List (Lit × DataW H) → Nat
  | [] => 0
  | x :: r => uptoBulkEntry x + uptoBulkEntries r
def uptoBulkEntry {H : Type} : Lit × DataW H → Nat
  | (.string bytes, d) => bytes.length + uptoBulk d + 1
  | (_, d) => uptoBulk d + 1
 end
def uptoSmall : (H : Type) → List (DataW H) → Bool := fun _ ds => decide (uptoBulkAll ds ≤ 1048576)
def OpenSpec.upto (s : _root_.Go.ChangeSpec) : _root_.Go.OpenSpec := { _root_.Go.OpenSpec.ofChange s with cond := some uptoSmall }

/-- 'mediawirelaw.Sided', WHERE WHAT IT READS IS OF BULK AT MOST 1048576: true; the input reads as it did. -/
def sidedUptoRow : OpenClaim := { program := "ytddfdpbaiedcjaagreatdoor", sum := "1f13eabdecf7da2c55c2816f4b455b1b249069fbdaddf6866663a0ce07a47d61", func := "mediawire/mediawirelaw.Sided", spec := "sided", inPlace := ["internal/reflectlite.ValueOf", "(internal/reflectlite.Value).Type", "(internal/reflectlite.Value).IsNil", "internal/reflectlite.TypeOf", "(internal/reflectlite.Value).Elem", "(internal/reflectlite.Value).Set", "slices.overlaps[mediawire/api.Range]"], unfollowed := true, recurses := true, named := ["errors.errorType", "mediawire/wire.table"], leaving := true, apart := false, laid := [("errors.errorType", laid_errors_errorType), ("mediawire/wire.table", laid_mediawire_wire_table)], narrowed := true }
def SidedUptoSaid : Prop := sidedUptoRow.holds Tryz.pinned (OpenSpec.upto sidedSpec)

/-- 'mediawirelaw.All', WHERE WHAT IT READS IS OF BULK AT MOST 1048576: true; the input reads as it did. -/
def allUptoRow : OpenClaim := { program := "ytddfdpbaiedcjaagreatdoor", sum := "1f13eabdecf7da2c55c2816f4b455b1b249069fbdaddf6866663a0ce07a47d61", func := "mediawire/mediawirelaw.All", spec := "all", inPlace := ["internal/reflectlite.ValueOf", "(internal/reflectlite.Value).Type", "(internal/reflectlite.Value).IsNil", "internal/reflectlite.TypeOf", "(internal/reflectlite.Value).Elem", "(internal/reflectlite.Value).Set", "slices.overlaps[mediawire/api.Range]"], unfollowed := true, recurses := true, named := ["errors.errorType", "mediawire/wire.table"], leaving := true, apart := false, laid := [("errors.errorType", laid_errors_errorType), ("mediawire/wire.table", laid_mediawire_wire_table)], narrowed := true }
def AllUptoSaid : Prop := allUptoRow.holds Tryz.pinned (OpenSpec.upto allSpec)

/-- 'mediawirekeep.Carried', WHERE WHAT IT READS IS OF BULK AT MOST 1048576: true; the input reads as it did. -/
def carriedUptoRow : OpenClaim := { program := "ytddfdpbaiedcjaagreatdoor", sum := "1f13eabdecf7da2c55c2816f4b455b1b249069fbdaddf6866663a0ce07a47d61", func := "mediawire/mediawirekeep.Carried", spec := "carried", inPlace := ["internal/reflectlite.ValueOf", "(internal/reflectlite.Value).Type", "(internal/reflectlite.Value).IsNil", "internal/reflectlite.TypeOf", "(internal/reflectlite.Value).Elem", "(internal/reflectlite.Value).Set", "slices.overlaps[mediawire/api.Range]"], unfollowed := true, recurses := true, named := ["errors.errorType", "mediawire/wire.table"], leaving := true, apart := false, laid := [("errors.errorType", laid_errors_errorType), ("mediawire/wire.table", laid_mediawire_wire_table)], narrowed := true }
def CarriedUptoSaid : Prop := carriedUptoRow.holds Tryz.pinned (OpenSpec.upto carriedSpec)

/-- 'mediawirekeep.Live', WHERE WHAT IT READS IS OF BULK AT MOST 1048576: true; the input reads as it did. -/
def liveUptoRow : OpenClaim := { program := "ytddfdpbaiedcjaagreatdoor", sum := "1f13eabdecf7da2c55c2816f4b455b1b249069fbdaddf6866663a0ce07a47d61", func := "mediawire/mediawirekeep.Live", spec := "live", inPlace := ["internal/reflectlite.ValueOf", "(internal/reflectlite.Value).Type", "(internal/reflectlite.Value).IsNil", "internal/reflectlite.TypeOf", "(internal/reflectlite.Value).Elem", "(internal/reflectlite.Value).Set", "slices.overlaps[mediawire/api.Range]"], unfollowed := true, recurses := true, named := ["errors.errorType", "mediawire/wire.table"], leaving := true, apart := false, laid := [("errors.errorType", laid_errors_errorType), ("mediawire/wire.table", laid_mediawire_wire_table)], narrowed := true }
def LiveUptoSaid : Prop := liveUptoRow.holds Tryz.pinned (OpenSpec.upto liveSpec)

/-- 'mediawirekeep.Given', WHERE WHAT IT READS IS OF BULK AT MOST 1048576: true; the input reads as it did. -/
def givenUptoRow : OpenClaim := { program := "ytddfdpbaiedcjaagreatdoor", sum := "1f13eabdecf7da2c55c2816f4b455b1b249069fbdaddf6866663a0ce07a47d61", func := "mediawire/mediawirekeep.Given", spec := "given", inPlace := ["internal/reflectlite.ValueOf", "(internal/reflectlite.Value).Type", "(internal/reflectlite.Value).IsNil", "internal/reflectlite.TypeOf", "(internal/reflectlite.Value).Elem", "(internal/reflectlite.Value).Set", "slices.overlaps[mediawire/api.Range]"], unfollowed := true, recurses := true, named := ["errors.errorType", "mediawire/wire.table"], leaving := true, apart := false, laid := [("errors.errorType", laid_errors_errorType), ("mediawire/wire.table", laid_mediawire_wire_table)], narrowed := true }
def GivenUptoSaid : Prop := givenUptoRow.holds Tryz.pinned (OpenSpec.upto givenSpec)

/-- 'mediawirekeep.Once', WHERE WHAT IT READS IS OF BULK AT MOST 1048576: true; the input reads as it did. -/
def onceUptoRow : OpenClaim := { program := "ytddfdpbaiedcjaagreatdoor", sum := "1f13eabdecf7da2c55c2816f4b455b1b249069fbdaddf6866663a0ce07a47d61", func := "mediawire/mediawirekeep.Once", spec := "once", inPlace := ["internal/reflectlite.ValueOf", "(internal/reflectlite.Value).Type", "(internal/reflectlite.Value).IsNil", "internal/reflectlite.TypeOf", "(internal/reflectlite.Value).Elem", "(internal/reflectlite.Value).Set", "slices.overlaps[mediawire/api.Range]"], unfollowed := true, recurses := true, named := ["errors.errorType", "mediawire/wire.table"], leaving := true, apart := false, laid := [("errors.errorType", laid_errors_errorType), ("mediawire/wire.table", laid_mediawire_wire_table)], narrowed := true }
def OnceUptoSaid : Prop := onceUptoRow.holds Tryz.pinned (OpenSpec.upto onceSpec)

/-- 'mediawirekeep.Urgent', WHERE WHAT IT READS IS OF BULK AT MOST 1048576: true; the input reads as it did. -/
def urgentUptoRow : OpenClaim := { program := "ytddfdpbaiedcjaagreatdoor", sum := "1f13eabdecf7da2c55c2816f4b455b1b249069fbdaddf6866663a0ce07a47d61", func := "mediawire/mediawirekeep.Urgent", spec := "urgent", inPlace := ["internal/reflectlite.ValueOf", "(internal/reflectlite.Value).Type", "(internal/reflectlite.Value).IsNil", "internal/reflectlite.TypeOf", "(internal/reflectlite.Value).Elem", "(internal/reflectlite.Value).Set", "slices.overlaps[mediawire/api.Range]"], unfollowed := true, recurses := true, named := ["errors.errorType", "mediawire/wire.table"], leaving := true, apart := false, laid := [("errors.errorType", laid_errors_errorType), ("mediawire/wire.table", laid_mediawire_wire_table)], narrowed := true }
def UrgentUptoSaid : Prop := urgentUptoRow.holds Tryz.pinned (OpenSpec.upto urgentSpec)

/-- 'mediawirekeep.Talked', WHERE WHAT IT READS IS OF BULK AT MOST 1048576: true; the input reads as it did. -/
def talkedUptoRow : OpenClaim := { program := "ytddfdpbaiedcjaagreatdoor", sum := "1f13eabdecf7da2c55c2816f4b455b1b249069fbdaddf6866663a0ce07a47d61", func := "mediawire/mediawirekeep.Talked", spec := "talked", inPlace := ["internal/reflectlite.ValueOf", "(internal/reflectlite.Value).Type", "(internal/reflectlite.Value).IsNil", "internal/reflectlite.TypeOf", "(internal/reflectlite.Value).Elem", "(internal/reflectlite.Value).Set", "slices.overlaps[mediawire/api.Range]"], unfollowed := true, recurses := true, named := ["errors.errorType", "mediawire/wire.table"], leaving := true, apart := false, laid := [("errors.errorType", laid_errors_errorType), ("mediawire/wire.table", laid_mediawire_wire_table)], narrowed := true }
def TalkedUptoSaid : Prop := talkedUptoRow.holds Tryz.pinned (OpenSpec.upto talkedSpec)

/-- 'mediawirelaw.Coded', WHERE WHAT IT READS IS OF BULK AT MOST 1048576: true; the input reads as it did. -/
def codedUptoRow : OpenClaim := { program := "ytddfdpbaiedcjaagreatdoor", sum := "1f13eabdecf7da2c55c2816f4b455b1b249069fbdaddf6866663a0ce07a47d61", func := "mediawire/mediawirelaw.Coded", spec := "coded", inPlace := ["internal/reflectlite.ValueOf", "(internal/reflectlite.Value).Type", "(internal/reflectlite.Value).IsNil", "internal/reflectlite.TypeOf", "(internal/reflectlite.Value).Elem", "(internal/reflectlite.Value).Set", "slices.overlaps[mediawire/api.Range]"], unfollowed := true, recurses := true, named := ["errors.errorType", "mediawire/wire.table"], leaving := true, apart := false, laid := [("errors.errorType", laid_errors_errorType), ("mediawire/wire.table", laid_mediawire_wire_table)], narrowed := true }
def CodedUptoSaid : Prop := codedUptoRow.holds Tryz.pinned (OpenSpec.upto codedSpec)

end Rows
end Go.Proofs.YtddfdpbaiedcjaaGreatDoor
