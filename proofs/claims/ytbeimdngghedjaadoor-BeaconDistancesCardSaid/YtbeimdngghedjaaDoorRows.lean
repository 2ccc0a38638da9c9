/-
  NARROWER THAN 'FOR EVERY INPUT', by the rows' own cells (each row's printed sentence says how): BeaconBases: laid · BeaconSlater: laid · BeaconRenamed: laid · BeaconDouble: laid · BeaconBasis: laid · BeaconMore: laid · BeaconBound: laid · BeaconLocates: laid · BeaconCodes: laid · BeaconLocated: laid · BeaconDistances: laid · BeaconTwins: laid.
  DERIVED. THE GIVEN ROWS OF THIS SEAT. 12 by the template 'for every input the law returns true; each argument reads behind the call as it read before'; 0 by the template 'total and deterministic' (their statements: YtbeimdngghedjaaDoorTotals.lean).
  GIVEN WITH THE SEED: the statements are not yours to turn. If you find one false, say at which input.
  Laid BY PROGRAM, IN A SANDBOX (cutbox-rows.mjs): the forced cells as the released guide's own fill.sh prints them over the translation 46cb10bc4881353d… (all of the seat's roots in one cut). By AI agents, Wed Nov 11 2026. No macro, syntax, notation, axiom, sorry.
-/
import Derived.Test.YtbeimdngghedjaaDoorChecked
import GoSem.Claim
import GoSem.ClaimJoined
import GoSem.ClaimMapViews
import Derived.JoinedTies
import Derived.KernelRfl
namespace Go.Proofs.YtbeimdngghedjaaDoor
/- THE CELL 'sum', in the pinned program and in every row, IS THE sha256 OF THE DUMP (.gsa) THAT YtbeimdngghedjaaDoorProg.lean LOADS. Nothing in Lean hashes anything: it is a label: what it is worth is what the hold of that sum in a sandbox is worth. -/
noncomputable def Tryd.pinned : Pinned := { name := "ytbeimdngghedjaadoor", sum := "46cb10bc4881353d96f8a072ab49e91385b68d93b8d38145010f397b756e729d", checked := Tryd.checked }
namespace Rows
def none {H : Type} : Left H := { results := [], args := [] }

/- WHAT THE LISTED PACKAGE-LEVEL VARIABLES READ AS WHEN THE CALL BEGINS. Each datum BY PROGRAM (the guide's laid-datum.mjs) off the statement by which the dump's own 'gosem.cut.vars' lays the variable. In a bare row this is a premise. The card (YtbeimdngghedjaaDoorCards.lean) ties it to the program's text. -/
def laid_woggle_beacon_none {H : Type} : DataW H := .agg [.lit (.int .i64 (-1)), .lit (.int .i64 (-1))]

/-- 'wogglelaw07.BeaconBases': WHATEVER THE INPUT: true; the input reads as it did. -/
def beaconBasesSpec : ChangeSpec := { name := "beaconBases", fn := fun _ => fun
  | [d] => { results := [.lit (.bool true)], args := [d] }
  | _ => none }
def beaconBasesRow : OpenClaim := { program := "ytbeimdngghedjaadoor", sum := "46cb10bc4881353d96f8a072ab49e91385b68d93b8d38145010f397b756e729d", func := "woggle/wogglelaw07.BeaconBases", spec := "beaconBases", unfollowed := true, recurses := true, named := ["woggle/beacon.none"], apart := false, laid := [("woggle/beacon.none", laid_woggle_beacon_none)] }
def BeaconBasesSaid : Prop := beaconBasesRow.holds Tryd.pinned (OpenSpec.ofChange beaconBasesSpec)

/-- ITS FALSE NEIGHBOUR: 'it returns false'. Refute it at one input. -/
def beaconBasesWrong : ChangeSpec := { name := "beaconBases", fn := fun _ => fun
  | [d] => { results := [.lit (.bool false)], args := [d] }
  | _ => none }
def BeaconBasesWrongFalsely : Prop := beaconBasesRow.holds Tryd.pinned (OpenSpec.ofChange beaconBasesWrong)

/-- 'wogglelaw07.BeaconSlater': WHATEVER THE INPUT: true; the input reads as it did. -/
def beaconSlaterSpec : ChangeSpec := { name := "beaconSlater", fn := fun _ => fun
  | [d1, d2] => { results := [.lit (.bool true)], args := [d1, d2] }
  | _ => none }
def beaconSlaterRow : OpenClaim := { program := "ytbeimdngghedjaadoor", sum := "46cb10bc4881353d96f8a072ab49e91385b68d93b8d38145010f397b756e729d", func := "woggle/wogglelaw07.BeaconSlater", spec := "beaconSlater", unfollowed := true, recurses := true, named := ["woggle/beacon.none"], apart := false, laid := [("woggle/beacon.none", laid_woggle_beacon_none)] }
def BeaconSlaterSaid : Prop := beaconSlaterRow.holds Tryd.pinned (OpenSpec.ofChange beaconSlaterSpec)

/-- ITS FALSE NEIGHBOUR: 'it returns false'. Refute it at one input. -/
def beaconSlaterWrong : ChangeSpec := { name := "beaconSlater", fn := fun _ => fun
  | [d1, d2] => { results := [.lit (.bool false)], args := [d1, d2] }
  | _ => none }
def BeaconSlaterWrongFalsely : Prop := beaconSlaterRow.holds Tryd.pinned (OpenSpec.ofChange beaconSlaterWrong)

/-- 'wogglelaw07.BeaconRenamed': WHATEVER THE INPUT: true; the input reads as it did. -/
def beaconRenamedSpec : ChangeSpec := { name := "beaconRenamed", fn := fun _ => fun
  | [d1, d2] => { results := [.lit (.bool true)], args := [d1, d2] }
  | _ => none }
def beaconRenamedRow : OpenClaim := { program := "ytbeimdngghedjaadoor", sum := "46cb10bc4881353d96f8a072ab49e91385b68d93b8d38145010f397b756e729d", func := "woggle/wogglelaw07.BeaconRenamed", spec := "beaconRenamed", unfollowed := true, recurses := true, named := ["woggle/beacon.none"], apart := false, laid := [("woggle/beacon.none", laid_woggle_beacon_none)] }
def BeaconRenamedSaid : Prop := beaconRenamedRow.holds Tryd.pinned (OpenSpec.ofChange beaconRenamedSpec)

/-- ITS FALSE NEIGHBOUR: 'it returns false'. Refute it at one input. -/
def beaconRenamedWrong : ChangeSpec := { name := "beaconRenamed", fn := fun _ => fun
  | [d1, d2] => { results := [.lit (.bool false)], args := [d1, d2] }
  | _ => none }
def BeaconRenamedWrongFalsely : Prop := beaconRenamedRow.holds Tryd.pinned (OpenSpec.ofChange beaconRenamedWrong)

/-- 'wogglelaw07.BeaconDouble': WHATEVER THE INPUT: true; the input reads as it did. -/
def beaconDoubleSpec : ChangeSpec := { name := "beaconDouble", fn := fun _ => fun
  | [d] => { results := [.lit (.bool true)], args := [d] }
  | _ => none }
def beaconDoubleRow : OpenClaim := { program := "ytbeimdngghedjaadoor", sum := "46cb10bc4881353d96f8a072ab49e91385b68d93b8d38145010f397b756e729d", func := "woggle/wogglelaw07.BeaconDouble", spec := "beaconDouble", unfollowed := true, recurses := true, named := ["woggle/beacon.none"], apart := false, laid := [("woggle/beacon.none", laid_woggle_beacon_none)] }
def BeaconDoubleSaid : Prop := beaconDoubleRow.holds Tryd.pinned (OpenSpec.ofChange beaconDoubleSpec)

/-- ITS FALSE NEIGHBOUR: 'it returns false'. Refute it at one input. -/
def beaconDoubleWrong : ChangeSpec := { name := "beaconDouble", fn := fun _ => fun
  | [d] => { results := [.lit (.bool false)], args := [d] }
  | _ => none }
def BeaconDoubleWrongFalsely : Prop := beaconDoubleRow.holds Tryd.pinned (OpenSpec.ofChange beaconDoubleWrong)

/-- 'wogglelaw07.BeaconBasis': WHATEVER THE INPUT: true; the input reads as it did. -/
def beaconBasisSpec : ChangeSpec := { name := "beaconBasis", fn := fun _ => fun
  | [d1, d2] => { results := [.lit (.bool true)], args := [d1, d2] }
  | _ => none }
def beaconBasisRow : OpenClaim := { program := "ytbeimdngghedjaadoor", sum := "46cb10bc4881353d96f8a072ab49e91385b68d93b8d38145010f397b756e729d", func := "woggle/wogglelaw07.BeaconBasis", spec := "beaconBasis", unfollowed := true, recurses := true, named := ["woggle/beacon.none"], apart := false, laid := [("woggle/beacon.none", laid_woggle_beacon_none)] }
def BeaconBasisSaid : Prop := beaconBasisRow.holds Tryd.pinned (OpenSpec.ofChange beaconBasisSpec)

/-- ITS FALSE NEIGHBOUR: 'it returns false'. Refute it at one input. -/
def beaconBasisWrong : ChangeSpec := { name := "beaconBasis", fn := fun _ => fun
  | [d1, d2] => { results := [.lit (.bool false)], args := [d1, d2] }
  | _ => none }
def BeaconBasisWrongFalsely : Prop := beaconBasisRow.holds Tryd.pinned (OpenSpec.ofChange beaconBasisWrong)

/-- 'wogglelaw07.BeaconMore': WHATEVER THE INPUT: true; the input reads as it did. -/
def beaconMoreSpec : ChangeSpec := { name := "beaconMore", fn := fun _ => fun
  | [d1, d2, d3] => { results := [.lit (.bool true)], args := [d1, d2, d3] }
  | _ => none }
def beaconMoreRow : OpenClaim := { program := "ytbeimdngghedjaadoor", sum := "46cb10bc4881353d96f8a072ab49e91385b68d93b8d38145010f397b756e729d", func := "woggle/wogglelaw07.BeaconMore", spec := "beaconMore", unfollowed := true, recurses := true, named := ["woggle/beacon.none"], apart := false, laid := [("woggle/beacon.none", laid_woggle_beacon_none)] }
def BeaconMoreSaid : Prop := beaconMoreRow.holds Tryd.pinned (OpenSpec.ofChange beaconMoreSpec)

/-- ITS FALSE NEIGHBOUR: 'it returns false'. Refute it at one input. -/
def beaconMoreWrong : ChangeSpec := { name := "beaconMore", fn := fun _ => fun
  | [d1, d2, d3] => { results := [.lit (.bool false)], args := [d1, d2, d3] }
  | _ => none }
def BeaconMoreWrongFalsely : Prop := beaconMoreRow.holds Tryd.pinned (OpenSpec.ofChange beaconMoreWrong)

/-- 'wogglelaw07.BeaconBound': WHATEVER THE INPUT: true; the input reads as it did. -/
def beaconBoundSpec : ChangeSpec := { name := "beaconBound", fn := fun _ => fun
  | [d1, d2] => { results := [.lit (.bool true)], args := [d1, d2] }
  | _ => none }
def beaconBoundRow : OpenClaim := { program := "ytbeimdngghedjaadoor", sum := "46cb10bc4881353d96f8a072ab49e91385b68d93b8d38145010f397b756e729d", func := "woggle/wogglelaw07.BeaconBound", spec := "beaconBound", unfollowed := true, recurses := true, named := ["woggle/beacon.none"], apart := false, laid := [("woggle/beacon.none", laid_woggle_beacon_none)] }
def BeaconBoundSaid : Prop := beaconBoundRow.holds Tryd.pinned (OpenSpec.ofChange beaconBoundSpec)

/-- ITS FALSE NEIGHBOUR: 'it returns false'. Refute it at one input. -/
def beaconBoundWrong : ChangeSpec := { name := "beaconBound", fn := fun _ => fun
  | [d1, d2] => { results := [.lit (.bool false)], args := [d1, d2] }
  | _ => none }
def BeaconBoundWrongFalsely : Prop := beaconBoundRow.holds Tryd.pinned (OpenSpec.ofChange beaconBoundWrong)

/-- 'wogglelaw07.BeaconLocates': WHATEVER THE INPUT: true; the input reads as it did. -/
def beaconLocatesSpec : ChangeSpec := { name := "beaconLocates", fn := fun _ => fun
  | [d1, d2, d3] => { results := [.lit (.bool true)], args := [d1, d2, d3] }
  | _ => none }
def beaconLocatesRow : OpenClaim := { program := "ytbeimdngghedjaadoor", sum := "46cb10bc4881353d96f8a072ab49e91385b68d93b8d38145010f397b756e729d", func := "woggle/wogglelaw07.BeaconLocates", spec := "beaconLocates", unfollowed := true, recurses := true, named := ["woggle/beacon.none"], apart := false, laid := [("woggle/beacon.none", laid_woggle_beacon_none)] }
def BeaconLocatesSaid : Prop := beaconLocatesRow.holds Tryd.pinned (OpenSpec.ofChange beaconLocatesSpec)

/-- ITS FALSE NEIGHBOUR: 'it returns false'. Refute it at one input. -/
def beaconLocatesWrong : ChangeSpec := { name := "beaconLocates", fn := fun _ => fun
  | [d1, d2, d3] => { results := [.lit (.bool false)], args := [d1, d2, d3] }
  | _ => none }
def BeaconLocatesWrongFalsely : Prop := beaconLocatesRow.holds Tryd.pinned (OpenSpec.ofChange beaconLocatesWrong)

/-- 'wogglelaw07.BeaconCodes': WHATEVER THE INPUT: true; the input reads as it did. -/
def beaconCodesSpec : ChangeSpec := { name := "beaconCodes", fn := fun _ => fun
  | [d1, d2] => { results := [.lit (.bool true)], args := [d1, d2] }
  | _ => none }
def beaconCodesRow : OpenClaim := { program := "ytbeimdngghedjaadoor", sum := "46cb10bc4881353d96f8a072ab49e91385b68d93b8d38145010f397b756e729d", func := "woggle/wogglelaw07.BeaconCodes", spec := "beaconCodes", unfollowed := true, recurses := true, named := ["woggle/beacon.none"], apart := false, laid := [("woggle/beacon.none", laid_woggle_beacon_none)] }
def BeaconCodesSaid : Prop := beaconCodesRow.holds Tryd.pinned (OpenSpec.ofChange beaconCodesSpec)

/-- ITS FALSE NEIGHBOUR: 'it returns false'. Refute it at one input. -/
def beaconCodesWrong : ChangeSpec := { name := "beaconCodes", fn := fun _ => fun
  | [d1, d2] => { results := [.lit (.bool false)], args := [d1, d2] }
  | _ => none }
def BeaconCodesWrongFalsely : Prop := beaconCodesRow.holds Tryd.pinned (OpenSpec.ofChange beaconCodesWrong)

/-- 'wogglelaw07.BeaconLocated': WHATEVER THE INPUT: true; the input reads as it did. -/
def beaconLocatedSpec : ChangeSpec := { name := "beaconLocated", fn := fun _ => fun
  | [d1, d2] => { results := [.lit (.bool true)], args := [d1, d2] }
  | _ => none }
def beaconLocatedRow : OpenClaim := { program := "ytbeimdngghedjaadoor", sum := "46cb10bc4881353d96f8a072ab49e91385b68d93b8d38145010f397b756e729d", func := "woggle/wogglelaw07.BeaconLocated", spec := "beaconLocated", unfollowed := true, recurses := true, named := ["woggle/beacon.none"], apart := false, laid := [("woggle/beacon.none", laid_woggle_beacon_none)] }
def BeaconLocatedSaid : Prop := beaconLocatedRow.holds Tryd.pinned (OpenSpec.ofChange beaconLocatedSpec)

/-- ITS FALSE NEIGHBOUR: 'it returns false'. Refute it at one input. -/
def beaconLocatedWrong : ChangeSpec := { name := "beaconLocated", fn := fun _ => fun
  | [d1, d2] => { results := [.lit (.bool false)], args := [d1, d2] }
  | _ => none }
def BeaconLocatedWrongFalsely : Prop := beaconLocatedRow.holds Tryd.pinned (OpenSpec.ofChange beaconLocatedWrong)

/-- 'wogglelaw07.BeaconDistances': WHATEVER THE INPUT: true; the input reads as it did. -/
def beaconDistancesSpec : ChangeSpec := { name := "beaconDistances", fn := fun _ => fun
  | [d] => { results := [.lit (.bool true)], args := [d] }
  | _ => none }
def beaconDistancesRow : OpenClaim := { program := "ytbeimdngghedjaadoor", sum := "46cb10bc4881353d96f8a072ab49e91385b68d93b8d38145010f397b756e729d", func := "woggle/wogglelaw07.BeaconDistances", spec := "beaconDistances", unfollowed := true, recurses := true, named := ["woggle/beacon.none"], apart := false, laid := [("woggle/beacon.none", laid_woggle_beacon_none)] }
def BeaconDistancesSaid : Prop := beaconDistancesRow.holds Tryd.pinned (OpenSpec.ofChange beaconDistancesSpec)

/-- ITS FALSE NEIGHBOUR: 'it returns false'. Refute it at one input. -/
def beaconDistancesWrong : ChangeSpec := { name := "beaconDistances", fn := fun _ => fun
  | [d] => { results := [.lit (.bool false)], args := [d] }
  | _ => none }
def BeaconDistancesWrongFalsely : Prop := beaconDistancesRow.holds Tryd.pinned (OpenSpec.ofChange beaconDistancesWrong)

/-- 'wogglelaw07.BeaconTwins': WHATEVER THE INPUT: true; the input reads as it did. -/
def beaconTwinsSpec : ChangeSpec := { name := "beaconTwins", fn := fun _ => fun
  | [d1, d2] => { results := [.lit (.bool true)], args := [d1, d2] }
  | _ => none }
def beaconTwinsRow : OpenClaim := { program := "ytbeimdngghedjaadoor", sum := "46cb10bc4881353d96f8a072ab49e91385b68d93b8d38145010f397b756e729d", func := "woggle/wogglelaw07.BeaconTwins", spec := "beaconTwins", unfollowed := true, recurses := true, named := ["woggle/beacon.none"], apart := false, laid := [("woggle/beacon.none", laid_woggle_beacon_none)] }
def BeaconTwinsSaid : Prop := beaconTwinsRow.holds Tryd.pinned (OpenSpec.ofChange beaconTwinsSpec)

/-- ITS FALSE NEIGHBOUR: 'it returns false'. Refute it at one input. -/
def beaconTwinsWrong : ChangeSpec := { name := "beaconTwins", fn := fun _ => fun
  | [d1, d2] => { results := [.lit (.bool false)], args := [d1, d2] }
  | _ => none }
def BeaconTwinsWrongFalsely : Prop := beaconTwinsRow.holds Tryd.pinned (OpenSpec.ofChange beaconTwinsWrong)

/- THE SECOND FORM. 'bulk': how many values and letters a reading holds, each counted each time it is reached (what is shared counts as often as it is met; a slice's spare places count too). A statement '..UptoSaid' is the law's where the arguments, and the package variables that the reading takes, are together of bulk at most 1048576: NARROWER than '..Said'. Prove '..Said' where nothing that the law and all that it calls make is longer than what came in: it says more and counts as full. Else prove '..UptoSaid'. A law counts once. -/
mutual
def uptoBulk {H : Type} : DataW H → Nat
  | .lit (.string bytes) => bytes.length + 1
  | .lit _ => 1
  | .nil => 1
  | .ptr d => uptoBulk d + 1
  | .slice elems spare => uptoBulkAll elems + uptoBulkAll spare + 1
  | .agg parts => uptoBulkAll parts + 1
  | .iface _ d => uptoBulk d + 1
  | .map entries => uptoBulkEntries entries + 1
  | .held _ => 1
def uptoBulkAll {H : Type} : List (DataW H) → Nat
  | [] => 0
  | d :: r => uptoBulk d + uptoBulkAll r
def uptoBulkEntries {H : Type} : List (Lit × DataW H) → Nat
  | [] => 0
  | x :: r => uptoBulkEntry x + uptoBulkEntries r
def uptoBulkEntry {H : Type} : Lit × DataW H → Nat
  | (.string bytes, d) => bytes.length + uptoBulk d + 1
  | (_, d) => uptoBulk d + 1
 end
def uptoSmall : (H : Type) → List (DataW H) → Bool := fun _ ds => decide (uptoBulkAll ds ≤ 1048576)
def OpenSpec.upto (s : _root_.Go.ChangeSpec) : _root_.Go.OpenSpec := { _root_.Go.OpenSpec.ofChange s with cond := some uptoSmall }

/-- 'wogglelaw07.BeaconBases', WHERE WHAT IT READS IS OF BULK AT MOST 1048576: true; the input reads as it did. -/
def beaconBasesUptoRow : OpenClaim := { program := "ytbeimdngghedjaadoor", sum := "46cb10bc4881353d96f8a072ab49e91385b68d93b8d38145010f397b756e729d", func := "woggle/wogglelaw07.BeaconBases", spec := "beaconBases", unfollowed := true, recurses := true, named := ["woggle/beacon.none"], apart := false, laid := [("woggle/beacon.none", laid_woggle_beacon_none)], narrowed := true }
def BeaconBasesUptoSaid : Prop := beaconBasesUptoRow.holds Tryd.pinned (OpenSpec.upto beaconBasesSpec)

/-- 'wogglelaw07.BeaconSlater', WHERE WHAT IT READS IS OF BULK AT MOST 1048576: true; the input reads as it did. -/
def beaconSlaterUptoRow : OpenClaim := { program := "ytbeimdngghedjaadoor", sum := "46cb10bc4881353d96f8a072ab49e91385b68d93b8d38145010f397b756e729d", func := "woggle/wogglelaw07.BeaconSlater", spec := "beaconSlater", unfollowed := true, recurses := true, named := ["woggle/beacon.none"], apart := false, laid := [("woggle/beacon.none", laid_woggle_beacon_none)], narrowed := true }
def BeaconSlaterUptoSaid : Prop := beaconSlaterUptoRow.holds Tryd.pinned (OpenSpec.upto beaconSlaterSpec)

/-- 'wogglelaw07.BeaconRenamed', WHERE WHAT IT READS IS OF BULK AT MOST 1048576: true; the input reads as it did. -/
def beaconRenamedUptoRow : OpenClaim := { program := "ytbeimdngghedjaadoor", sum := "46cb10bc4881353d96f8a072ab49e91385b68d93b8d38145010f397b756e729d", func := "woggle/wogglelaw07.BeaconRenamed", spec := "beaconRenamed", unfollowed := true, recurses := true, named := ["woggle/beacon.none"], apart := false, laid := [("woggle/beacon.none", laid_woggle_beacon_none)], narrowed := true }
def BeaconRenamedUptoSaid : Prop := beaconRenamedUptoRow.holds Tryd.pinned (OpenSpec.upto beaconRenamedSpec)

/-- 'wogglelaw07.BeaconDouble', WHERE WHAT IT READS IS OF BULK AT MOST 1048576: true; the input reads as it did. -/
def beaconDoubleUptoRow : OpenClaim := { program := "ytbeimdngghedjaadoor", sum := "46cb10bc4881353d96f8a072ab49e91385b68d93b8d38145010f397b756e729d", func := "woggle/wogglelaw07.BeaconDouble", spec := "beaconDouble", unfollowed := true, recurses := true, named := ["woggle/beacon.none"], apart := false, laid := [("woggle/beacon.none", laid_woggle_beacon_none)], narrowed := true }
def BeaconDoubleUptoSaid : Prop := beaconDoubleUptoRow.holds Tryd.pinned (OpenSpec.upto beaconDoubleSpec)

/-- 'wogglelaw07.BeaconBasis', WHERE WHAT IT READS IS OF BULK AT MOST 1048576: true; the input reads as it did. -/
def beaconBasisUptoRow : OpenClaim := { program := "ytbeimdngghedjaadoor", sum := "46cb10bc4881353d96f8a072ab49e91385b68d93b8d38145010f397b756e729d", func := "woggle/wogglelaw07.BeaconBasis", spec := "beaconBasis", unfollowed := true, recurses := true, named := ["woggle/beacon.none"], apart := false, laid := [("woggle/beacon.none", laid_woggle_beacon_none)], narrowed := true }
def BeaconBasisUptoSaid : Prop := beaconBasisUptoRow.holds Tryd.pinned (OpenSpec.upto beaconBasisSpec)

/-- 'wogglelaw07.BeaconMore', WHERE WHAT IT READS IS OF BULK AT MOST 1048576: true; the input reads as it did. -/
def beaconMoreUptoRow : OpenClaim := { program := "ytbeimdngghedjaadoor", sum := "46cb10bc4881353d96f8a072ab49e91385b68d93b8d38145010f397b756e729d", func := "woggle/wogglelaw07.BeaconMore", spec := "beaconMore", unfollowed := true, recurses := true, named := ["woggle/beacon.none"], apart := false, laid := [("woggle/beacon.none", laid_woggle_beacon_none)], narrowed := true }
def BeaconMoreUptoSaid : Prop := beaconMoreUptoRow.holds Tryd.pinned (OpenSpec.upto beaconMoreSpec)

/-- 'wogglelaw07.BeaconBound', WHERE WHAT IT READS IS OF BULK AT MOST 1048576: true; the input reads as it did. -/
def beaconBoundUptoRow : OpenClaim := { program := "ytbeimdngghedjaadoor", sum := "46cb10bc4881353d96f8a072ab49e91385b68d93b8d38145010f397b756e729d", func := "woggle/wogglelaw07.BeaconBound", spec := "beaconBound", unfollowed := true, recurses := true, named := ["woggle/beacon.none"], apart := false, laid := [("woggle/beacon.none", laid_woggle_beacon_none)], narrowed := true }
def BeaconBoundUptoSaid : Prop := beaconBoundUptoRow.holds Tryd.pinned (OpenSpec.upto beaconBoundSpec)

/-- 'wogglelaw07.BeaconLocates', WHERE WHAT IT READS IS OF BULK AT MOST 1048576: true; the input reads as it did. -/
def beaconLocatesUptoRow : OpenClaim := { program := "ytbeimdngghedjaadoor", sum := "46cb10bc4881353d96f8a072ab49e91385b68d93b8d38145010f397b756e729d", func := "woggle/wogglelaw07.BeaconLocates", spec := "beaconLocates", unfollowed := true, recurses := true, named := ["woggle/beacon.none"], apart := false, laid := [("woggle/beacon.none", laid_woggle_beacon_none)], narrowed := true }
def BeaconLocatesUptoSaid : Prop := beaconLocatesUptoRow.holds Tryd.pinned (OpenSpec.upto beaconLocatesSpec)

/-- 'wogglelaw07.BeaconCodes', WHERE WHAT IT READS IS OF BULK AT MOST 1048576: true; the input reads as it did. -/
def beaconCodesUptoRow : OpenClaim := { program := "ytbeimdngghedjaadoor", sum := "46cb10bc4881353d96f8a072ab49e91385b68d93b8d38145010f397b756e729d", func := "woggle/wogglelaw07.BeaconCodes", spec := "beaconCodes", unfollowed := true, recurses := true, named := ["woggle/beacon.none"], apart := false, laid := [("woggle/beacon.none", laid_woggle_beacon_none)], narrowed := true }
def BeaconCodesUptoSaid : Prop := beaconCodesUptoRow.holds Tryd.pinned (OpenSpec.upto beaconCodesSpec)

/-- 'wogglelaw07.BeaconLocated', WHERE WHAT IT READS IS OF BULK AT MOST 1048576: true; the input reads as it did. -/
def beaconLocatedUptoRow : OpenClaim := { program := "ytbeimdngghedjaadoor", sum := "46cb10bc4881353d96f8a072ab49e91385b68d93b8d38145010f397b756e729d", func := "woggle/wogglelaw07.BeaconLocated", spec := "beaconLocated", unfollowed := true, recurses := true, named := ["woggle/beacon.none"], apart := false, laid := [("woggle/beacon.none", laid_woggle_beacon_none)], narrowed := true }
def BeaconLocatedUptoSaid : Prop := beaconLocatedUptoRow.holds Tryd.pinned (OpenSpec.upto beaconLocatedSpec)

/-- 'wogglelaw07.BeaconDistances', WHERE WHAT IT READS IS OF BULK AT MOST 1048576: true; the input reads as it did. -/
def beaconDistancesUptoRow : OpenClaim := { program := "ytbeimdngghedjaadoor", sum := "46cb10bc4881353d96f8a072ab49e91385b68d93b8d38145010f397b756e729d", func := "woggle/wogglelaw07.BeaconDistances", spec := "beaconDistances", unfollowed := true, recurses := true, named := ["woggle/beacon.none"], apart := false, laid := [("woggle/beacon.none", laid_woggle_beacon_none)], narrowed := true }
def BeaconDistancesUptoSaid : Prop := beaconDistancesUptoRow.holds Tryd.pinned (OpenSpec.upto beaconDistancesSpec)

/-- 'wogglelaw07.BeaconTwins', WHERE WHAT IT READS IS OF BULK AT MOST 1048576: true; the input reads as it did. -/
def beaconTwinsUptoRow : OpenClaim := { program := "ytbeimdngghedjaadoor", sum := "46cb10bc4881353d96f8a072ab49e91385b68d93b8d38145010f397b756e729d", func := "woggle/wogglelaw07.BeaconTwins", spec := "beaconTwins", unfollowed := true, recurses := true, named := ["woggle/beacon.none"], apart := false, laid := [("woggle/beacon.none", laid_woggle_beacon_none)], narrowed := true }
def BeaconTwinsUptoSaid : Prop := beaconTwinsUptoRow.holds Tryd.pinned (OpenSpec.upto beaconTwinsSpec)

end Rows
end Go.Proofs.YtbeimdngghedjaaDoor
