/-
  DERIVED. GIVEN WITH THE SEED: THE CARDS: each row of YtbeimdngghedjaaDoorRows.lean that lists a variable, with what it lists TIED to the program's text (the seventh form; the later family's looks); each row that meets fmt, with fmt's text TOLD by the authors' own Lean function (tested against real Go, not proved from fmt's source: count such statements apart). THE CARD IS WHAT COUNTS. Prove the row's statement (the work); the ties are given (YtbeimdngghedjaaDoorTie.lean); close each card by the builder's one call (the guide's Derived/Test/ToyasCard.lean, 'card_holds'). Laid BY PROGRAM, IN A SANDBOX (cutbox-door.mjs). By AI agents, Wed Nov 11 2026. No macro, syntax, notation, axiom, sorry.
-/
import Derived.Test.YtbeimdngghedjaaDoorRows
import GoSem.ClaimSeven
namespace Go.Proofs.YtbeimdngghedjaaDoor
namespace Rows

/-- THE TIED CARD OF 'wogglelaw07.BeaconBases'. -/
def beaconBasesCard : Claim7 := { stood := { row := beaconBasesRow, standIns := [], harness := (true, "fa9c7bc0788aee13516c6e46a6afebb7f5758b95f807df224d19495f40a5707d"), looks := false }, kinds := [], alts := [], laidByText := true, laidKinds := [.data], laidTests := true, laidLooks := .later }
def BeaconBasesCardSaid : Prop := Claim7.holds Tryd.pinned (.plain (OpenSpec.ofChange beaconBasesSpec)) beaconBasesCard

/-- THE TIED CARD OF 'wogglelaw07.BeaconSlater'. -/
def beaconSlaterCard : Claim7 := { stood := { row := beaconSlaterRow, standIns := [], harness := (true, "fa9c7bc0788aee13516c6e46a6afebb7f5758b95f807df224d19495f40a5707d"), looks := false }, kinds := [], alts := [], laidByText := true, laidKinds := [.data], laidTests := true, laidLooks := .later }
def BeaconSlaterCardSaid : Prop := Claim7.holds Tryd.pinned (.plain (OpenSpec.ofChange beaconSlaterSpec)) beaconSlaterCard

/-- THE TIED CARD OF 'wogglelaw07.BeaconRenamed'. -/
def beaconRenamedCard : Claim7 := { stood := { row := beaconRenamedRow, standIns := [], harness := (true, "fa9c7bc0788aee13516c6e46a6afebb7f5758b95f807df224d19495f40a5707d"), looks := false }, kinds := [], alts := [], laidByText := true, laidKinds := [.data], laidTests := true, laidLooks := .later }
def BeaconRenamedCardSaid : Prop := Claim7.holds Tryd.pinned (.plain (OpenSpec.ofChange beaconRenamedSpec)) beaconRenamedCard

/-- THE TIED CARD OF 'wogglelaw07.BeaconDouble'. -/
def beaconDoubleCard : Claim7 := { stood := { row := beaconDoubleRow, standIns := [], harness := (true, "fa9c7bc0788aee13516c6e46a6afebb7f5758b95f807df224d19495f40a5707d"), looks := false }, kinds := [], alts := [], laidByText := true, laidKinds := [.data], laidTests := true, laidLooks := .later }
def BeaconDoubleCardSaid : Prop := Claim7.holds Tryd.pinned (.plain (OpenSpec.ofChange beaconDoubleSpec)) beaconDoubleCard

/-- THE TIED CARD OF 'wogglelaw07.BeaconBasis'. -/
def beaconBasisCard : Claim7 := { stood := { row := beaconBasisRow, standIns := [], harness := (true, "fa9c7bc0788aee13516c6e46a6afebb7f5758b95f807df224d19495f40a5707d"), looks := false }, kinds := [], alts := [], laidByText := true, laidKinds := [.data], laidTests := true, laidLooks := .later }
def BeaconBasisCardSaid : Prop := Claim7.holds Tryd.pinned (.plain (OpenSpec.ofChange beaconBasisSpec)) beaconBasisCard

/-- THE TIED CARD OF 'wogglelaw07.BeaconMore'. -/
def beaconMoreCard : Claim7 := { stood := { row := beaconMoreRow, standIns := [], harness := (true, "fa9c7bc0788aee13516c6e46a6afebb7f5758b95f807df224d19495f40a5707d"), looks := false }, kinds := [], alts := [], laidByText := true, laidKinds := [.data], laidTests := true, laidLooks := .later }
def BeaconMoreCardSaid : Prop := Claim7.holds Tryd.pinned (.plain (OpenSpec.ofChange beaconMoreSpec)) beaconMoreCard

/-- THE TIED CARD OF 'wogglelaw07.BeaconBound'. -/
def beaconBoundCard : Claim7 := { stood := { row := beaconBoundRow, standIns := [], harness := (true, "fa9c7bc0788aee13516c6e46a6afebb7f5758b95f807df224d19495f40a5707d"), looks := false }, kinds := [], alts := [], laidByText := true, laidKinds := [.data], laidTests := true, laidLooks := .later }
def BeaconBoundCardSaid : Prop := Claim7.holds Tryd.pinned (.plain (OpenSpec.ofChange beaconBoundSpec)) beaconBoundCard

/-- THE TIED CARD OF 'wogglelaw07.BeaconLocates'. -/
def beaconLocatesCard : Claim7 := { stood := { row := beaconLocatesRow, standIns := [], harness := (true, "fa9c7bc0788aee13516c6e46a6afebb7f5758b95f807df224d19495f40a5707d"), looks := false }, kinds := [], alts := [], laidByText := true, laidKinds := [.data], laidTests := true, laidLooks := .later }
def BeaconLocatesCardSaid : Prop := Claim7.holds Tryd.pinned (.plain (OpenSpec.ofChange beaconLocatesSpec)) beaconLocatesCard

/-- THE TIED CARD OF 'wogglelaw07.BeaconCodes'. -/
def beaconCodesCard : Claim7 := { stood := { row := beaconCodesRow, standIns := [], harness := (true, "fa9c7bc0788aee13516c6e46a6afebb7f5758b95f807df224d19495f40a5707d"), looks := false }, kinds := [], alts := [], laidByText := true, laidKinds := [.data], laidTests := true, laidLooks := .later }
def BeaconCodesCardSaid : Prop := Claim7.holds Tryd.pinned (.plain (OpenSpec.ofChange beaconCodesSpec)) beaconCodesCard

/-- THE TIED CARD OF 'wogglelaw07.BeaconLocated'. -/
def beaconLocatedCard : Claim7 := { stood := { row := beaconLocatedRow, standIns := [], harness := (true, "fa9c7bc0788aee13516c6e46a6afebb7f5758b95f807df224d19495f40a5707d"), looks := false }, kinds := [], alts := [], laidByText := true, laidKinds := [.data], laidTests := true, laidLooks := .later }
def BeaconLocatedCardSaid : Prop := Claim7.holds Tryd.pinned (.plain (OpenSpec.ofChange beaconLocatedSpec)) beaconLocatedCard

/-- THE TIED CARD OF 'wogglelaw07.BeaconDistances'. -/
def beaconDistancesCard : Claim7 := { stood := { row := beaconDistancesRow, standIns := [], harness := (true, "fa9c7bc0788aee13516c6e46a6afebb7f5758b95f807df224d19495f40a5707d"), looks := false }, kinds := [], alts := [], laidByText := true, laidKinds := [.data], laidTests := true, laidLooks := .later }
def BeaconDistancesCardSaid : Prop := Claim7.holds Tryd.pinned (.plain (OpenSpec.ofChange beaconDistancesSpec)) beaconDistancesCard

/-- THE TIED CARD OF 'wogglelaw07.BeaconTwins'. -/
def beaconTwinsCard : Claim7 := { stood := { row := beaconTwinsRow, standIns := [], harness := (true, "fa9c7bc0788aee13516c6e46a6afebb7f5758b95f807df224d19495f40a5707d"), looks := false }, kinds := [], alts := [], laidByText := true, laidKinds := [.data], laidTests := true, laidLooks := .later }
def BeaconTwinsCardSaid : Prop := Claim7.holds Tryd.pinned (.plain (OpenSpec.ofChange beaconTwinsSpec)) beaconTwinsCard

/-- THE SECOND FORM's CARD OF 'wogglelaw07.BeaconBases'. -/
def beaconBasesUptoCard : Claim7 := { stood := { row := beaconBasesUptoRow, standIns := [], harness := (true, "fa9c7bc0788aee13516c6e46a6afebb7f5758b95f807df224d19495f40a5707d"), looks := false }, kinds := [], alts := [], laidByText := true, laidKinds := [.data], laidTests := true, laidLooks := .later }
def BeaconBasesUptoCardSaid : Prop := Claim7.holds Tryd.pinned (.plain (OpenSpec.upto beaconBasesSpec)) beaconBasesUptoCard

/-- THE SECOND FORM's CARD OF 'wogglelaw07.BeaconSlater'. -/
def beaconSlaterUptoCard : Claim7 := { stood := { row := beaconSlaterUptoRow, standIns := [], harness := (true, "fa9c7bc0788aee13516c6e46a6afebb7f5758b95f807df224d19495f40a5707d"), looks := false }, kinds := [], alts := [], laidByText := true, laidKinds := [.data], laidTests := true, laidLooks := .later }
def BeaconSlaterUptoCardSaid : Prop := Claim7.holds Tryd.pinned (.plain (OpenSpec.upto beaconSlaterSpec)) beaconSlaterUptoCard

/-- THE SECOND FORM's CARD OF 'wogglelaw07.BeaconRenamed'. -/
def beaconRenamedUptoCard : Claim7 := { stood := { row := beaconRenamedUptoRow, standIns := [], harness := (true, "fa9c7bc0788aee13516c6e46a6afebb7f5758b95f807df224d19495f40a5707d"), looks := false }, kinds := [], alts := [], laidByText := true, laidKinds := [.data], laidTests := true, laidLooks := .later }
def BeaconRenamedUptoCardSaid : Prop := Claim7.holds Tryd.pinned (.plain (OpenSpec.upto beaconRenamedSpec)) beaconRenamedUptoCard

/-- THE SECOND FORM's CARD OF 'wogglelaw07.BeaconDouble'. -/
def beaconDoubleUptoCard : Claim7 := { stood := { row := beaconDoubleUptoRow, standIns := [], harness := (true, "fa9c7bc0788aee13516c6e46a6afebb7f5758b95f807df224d19495f40a5707d"), looks := false }, kinds := [], alts := [], laidByText := true, laidKinds := [.data], laidTests := true, laidLooks := .later }
def BeaconDoubleUptoCardSaid : Prop := Claim7.holds Tryd.pinned (.plain (OpenSpec.upto beaconDoubleSpec)) beaconDoubleUptoCard

/-- THE SECOND FORM's CARD OF 'wogglelaw07.BeaconBasis'. -/
def beaconBasisUptoCard : Claim7 := { stood := { row := beaconBasisUptoRow, standIns := [], harness := (true, "fa9c7bc0788aee13516c6e46a6afebb7f5758b95f807df224d19495f40a5707d"), looks := false }, kinds := [], alts := [], laidByText := true, laidKinds := [.data], laidTests := true, laidLooks := .later }
def BeaconBasisUptoCardSaid : Prop := Claim7.holds Tryd.pinned (.plain (OpenSpec.upto beaconBasisSpec)) beaconBasisUptoCard

/-- THE SECOND FORM's CARD OF 'wogglelaw07.BeaconMore'. -/
def beaconMoreUptoCard : Claim7 := { stood := { row := beaconMoreUptoRow, standIns := [], harness := (true, "fa9c7bc0788aee13516c6e46a6afebb7f5758b95f807df224d19495f40a5707d"), looks := false }, kinds := [], alts := [], laidByText := true, laidKinds := [.data], laidTests := true, laidLooks := .later }
def BeaconMoreUptoCardSaid : Prop := Claim7.holds Tryd.pinned (.plain (OpenSpec.upto beaconMoreSpec)) beaconMoreUptoCard

/-- THE SECOND FORM's CARD OF 'wogglelaw07.BeaconBound'. -/
def beaconBoundUptoCard : Claim7 := { stood := { row := beaconBoundUptoRow, standIns := [], harness := (true, "fa9c7bc0788aee13516c6e46a6afebb7f5758b95f807df224d19495f40a5707d"), looks := false }, kinds := [], alts := [], laidByText := true, laidKinds := [.data], laidTests := true, laidLooks := .later }
def BeaconBoundUptoCardSaid : Prop := Claim7.holds Tryd.pinned (.plain (OpenSpec.upto beaconBoundSpec)) beaconBoundUptoCard

/-- THE SECOND FORM's CARD OF 'wogglelaw07.BeaconLocates'. -/
def beaconLocatesUptoCard : Claim7 := { stood := { row := beaconLocatesUptoRow, standIns := [], harness := (true, "fa9c7bc0788aee13516c6e46a6afebb7f5758b95f807df224d19495f40a5707d"), looks := false }, kinds := [], alts := [], laidByText := true, laidKinds := [.data], laidTests := true, laidLooks := .later }
def BeaconLocatesUptoCardSaid : Prop := Claim7.holds Tryd.pinned (.plain (OpenSpec.upto beaconLocatesSpec)) beaconLocatesUptoCard

/-- THE SECOND FORM's CARD OF 'wogglelaw07.BeaconCodes'. -/
def beaconCodesUptoCard : Claim7 := { stood := { row := beaconCodesUptoRow, standIns := [], harness := (true, "fa9c7bc0788aee13516c6e46a6afebb7f5758b95f807df224d19495f40a5707d"), looks := false }, kinds := [], alts := [], laidByText := true, laidKinds := [.data], laidTests := true, laidLooks := .later }
def BeaconCodesUptoCardSaid : Prop := Claim7.holds Tryd.pinned (.plain (OpenSpec.upto beaconCodesSpec)) beaconCodesUptoCard

/-- THE SECOND FORM's CARD OF 'wogglelaw07.BeaconLocated'. -/
def beaconLocatedUptoCard : Claim7 := { stood := { row := beaconLocatedUptoRow, standIns := [], harness := (true, "fa9c7bc0788aee13516c6e46a6afebb7f5758b95f807df224d19495f40a5707d"), looks := false }, kinds := [], alts := [], laidByText := true, laidKinds := [.data], laidTests := true, laidLooks := .later }
def BeaconLocatedUptoCardSaid : Prop := Claim7.holds Tryd.pinned (.plain (OpenSpec.upto beaconLocatedSpec)) beaconLocatedUptoCard

/-- THE SECOND FORM's CARD OF 'wogglelaw07.BeaconDistances'. -/
def beaconDistancesUptoCard : Claim7 := { stood := { row := beaconDistancesUptoRow, standIns := [], harness := (true, "fa9c7bc0788aee13516c6e46a6afebb7f5758b95f807df224d19495f40a5707d"), looks := false }, kinds := [], alts := [], laidByText := true, laidKinds := [.data], laidTests := true, laidLooks := .later }
def BeaconDistancesUptoCardSaid : Prop := Claim7.holds Tryd.pinned (.plain (OpenSpec.upto beaconDistancesSpec)) beaconDistancesUptoCard

/-- THE SECOND FORM's CARD OF 'wogglelaw07.BeaconTwins'. -/
def beaconTwinsUptoCard : Claim7 := { stood := { row := beaconTwinsUptoRow, standIns := [], harness := (true, "fa9c7bc0788aee13516c6e46a6afebb7f5758b95f807df224d19495f40a5707d"), looks := false }, kinds := [], alts := [], laidByText := true, laidKinds := [.data], laidTests := true, laidLooks := .later }
def BeaconTwinsUptoCardSaid : Prop := Claim7.holds Tryd.pinned (.plain (OpenSpec.upto beaconTwinsSpec)) beaconTwinsUptoCard
end Rows
end Go.Proofs.YtbeimdngghedjaaDoor
