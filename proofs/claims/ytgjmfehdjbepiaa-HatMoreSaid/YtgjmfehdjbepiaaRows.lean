/-
  No cell of these rows narrows 'for every input' (looked for: loops, veiled, ifaces, maps, wideKeys, modest, calm, conditions, laid).
  DERIVED. THE GIVEN ROWS OF THIS SEAT. 14 by the template 'for every input the law returns true; each argument reads behind the call as it read before'; 0 by the template 'total and deterministic' (their statements: YtgjmfehdjbepiaaTotals.lean).
  GIVEN WITH THE SEED: the statements are not yours to turn. If you find one false, say at which input.
  Laid BY PROGRAM, IN A SANDBOX (cutbox-rows.mjs): the forced cells as the released guide's own fill.sh prints them over the translation 08bad7e74ee39319… (all of the seat's roots in one cut). By AI agents, Wed Nov 11 2026. No macro, syntax, notation, axiom, sorry.
-/
import Derived.Test.YtgjmfehdjbepiaaChecked
import GoSem.Claim
import GoSem.ClaimJoined
import GoSem.ClaimMapViews
import Derived.JoinedTies
import Derived.KernelRfl
namespace Go.Proofs.Ytgjmfehdjbepiaa
/- THE CELL 'sum', in the pinned program and in every row, IS THE sha256 OF THE DUMP (.gsa) THAT YtgjmfehdjbepiaaProg.lean LOADS. Nothing in Lean hashes anything: it is a label: what it is worth is what the hold of that sum in a sandbox is worth. -/
noncomputable def Try.pinned : Pinned := { name := "ytgjmfehdjbepiaa", sum := "08bad7e74ee39319ebdaeb8f65dc5f127def74c90681db66fc2ccd6e471da85d", checked := Try.checked }
namespace Rows
def none {H : Type} : Left H := { results := [], args := [] }

/-- 'wogglelaw09.HatFinds': WHATEVER THE INPUT: true; the input reads as it did. -/
def hatFindsSpec : ChangeSpec := { name := "hatFinds", fn := fun _ => fun
  | [d] => { results := [.lit (.bool true)], args := [d] }
  | _ => none }
def hatFindsRow : OpenClaim := { program := "ytgjmfehdjbepiaa", sum := "08bad7e74ee39319ebdaeb8f65dc5f127def74c90681db66fc2ccd6e471da85d", func := "woggle/wogglelaw09.HatFinds", spec := "hatFinds", unfollowed := true, recurses := true, apart := false }
def HatFindsSaid : Prop := hatFindsRow.holds Try.pinned (OpenSpec.ofChange hatFindsSpec)

/-- ITS FALSE NEIGHBOUR: 'it returns false'. Refute it at one input. -/
def hatFindsWrong : ChangeSpec := { name := "hatFinds", fn := fun _ => fun
  | [d] => { results := [.lit (.bool false)], args := [d] }
  | _ => none }
def HatFindsWrongFalsely : Prop := hatFindsRow.holds Try.pinned (OpenSpec.ofChange hatFindsWrong)

/-- 'wogglelaw09.HatEberts': WHATEVER THE INPUT: true; the input reads as it did. -/
def hatEbertsSpec : ChangeSpec := { name := "hatEberts", fn := fun _ => fun
  | [d] => { results := [.lit (.bool true)], args := [d] }
  | _ => none }
def hatEbertsRow : OpenClaim := { program := "ytgjmfehdjbepiaa", sum := "08bad7e74ee39319ebdaeb8f65dc5f127def74c90681db66fc2ccd6e471da85d", func := "woggle/wogglelaw09.HatEberts", spec := "hatEberts", unfollowed := true, recurses := true, apart := false }
def HatEbertsSaid : Prop := hatEbertsRow.holds Try.pinned (OpenSpec.ofChange hatEbertsSpec)

/-- ITS FALSE NEIGHBOUR: 'it returns false'. Refute it at one input. -/
def hatEbertsWrong : ChangeSpec := { name := "hatEberts", fn := fun _ => fun
  | [d] => { results := [.lit (.bool false)], args := [d] }
  | _ => none }
def HatEbertsWrongFalsely : Prop := hatEbertsRow.holds Try.pinned (OpenSpec.ofChange hatEbertsWrong)

/-- 'wogglelaw09.HatLines': WHATEVER THE INPUT: true; the input reads as it did. -/
def hatLinesSpec : ChangeSpec := { name := "hatLines", fn := fun _ => fun
  | [d1, d2] => { results := [.lit (.bool true)], args := [d1, d2] }
  | _ => none }
def hatLinesRow : OpenClaim := { program := "ytgjmfehdjbepiaa", sum := "08bad7e74ee39319ebdaeb8f65dc5f127def74c90681db66fc2ccd6e471da85d", func := "woggle/wogglelaw09.HatLines", spec := "hatLines", unfollowed := true, recurses := true, apart := false }
def HatLinesSaid : Prop := hatLinesRow.holds Try.pinned (OpenSpec.ofChange hatLinesSpec)

/-- ITS FALSE NEIGHBOUR: 'it returns false'. Refute it at one input. -/
def hatLinesWrong : ChangeSpec := { name := "hatLines", fn := fun _ => fun
  | [d1, d2] => { results := [.lit (.bool false)], args := [d1, d2] }
  | _ => none }
def HatLinesWrongFalsely : Prop := hatLinesRow.holds Try.pinned (OpenSpec.ofChange hatLinesWrong)

/-- 'wogglelaw09.HatLine': WHATEVER THE INPUT: true; the input reads as it did. -/
def hatLineSpec : ChangeSpec := { name := "hatLine", fn := fun _ => fun
  | [d1, d2] => { results := [.lit (.bool true)], args := [d1, d2] }
  | _ => none }
def hatLineRow : OpenClaim := { program := "ytgjmfehdjbepiaa", sum := "08bad7e74ee39319ebdaeb8f65dc5f127def74c90681db66fc2ccd6e471da85d", func := "woggle/wogglelaw09.HatLine", spec := "hatLine", unfollowed := true, recurses := true, apart := false }
def HatLineSaid : Prop := hatLineRow.holds Try.pinned (OpenSpec.ofChange hatLineSpec)

/-- ITS FALSE NEIGHBOUR: 'it returns false'. Refute it at one input. -/
def hatLineWrong : ChangeSpec := { name := "hatLine", fn := fun _ => fun
  | [d1, d2] => { results := [.lit (.bool false)], args := [d1, d2] }
  | _ => none }
def HatLineWrongFalsely : Prop := hatLineRow.holds Try.pinned (OpenSpec.ofChange hatLineWrong)

/-- 'wogglelaw09.HatSums': WHATEVER THE INPUT: true; the input reads as it did. -/
def hatSumsSpec : ChangeSpec := { name := "hatSums", fn := fun _ => fun
  | [d] => { results := [.lit (.bool true)], args := [d] }
  | _ => none }
def hatSumsRow : OpenClaim := { program := "ytgjmfehdjbepiaa", sum := "08bad7e74ee39319ebdaeb8f65dc5f127def74c90681db66fc2ccd6e471da85d", func := "woggle/wogglelaw09.HatSums", spec := "hatSums", unfollowed := true, recurses := true, apart := false }
def HatSumsSaid : Prop := hatSumsRow.holds Try.pinned (OpenSpec.ofChange hatSumsSpec)

/-- ITS FALSE NEIGHBOUR: 'it returns false'. Refute it at one input. -/
def hatSumsWrong : ChangeSpec := { name := "hatSums", fn := fun _ => fun
  | [d] => { results := [.lit (.bool false)], args := [d] }
  | _ => none }
def HatSumsWrongFalsely : Prop := hatSumsRow.holds Try.pinned (OpenSpec.ofChange hatSumsWrong)

/-- 'wogglelaw09.HatCovers': WHATEVER THE INPUT: true; the input reads as it did. -/
def hatCoversSpec : ChangeSpec := { name := "hatCovers", fn := fun _ => fun
  | [d1, d2] => { results := [.lit (.bool true)], args := [d1, d2] }
  | _ => none }
def hatCoversRow : OpenClaim := { program := "ytgjmfehdjbepiaa", sum := "08bad7e74ee39319ebdaeb8f65dc5f127def74c90681db66fc2ccd6e471da85d", func := "woggle/wogglelaw09.HatCovers", spec := "hatCovers", unfollowed := true, recurses := true, apart := false }
def HatCoversSaid : Prop := hatCoversRow.holds Try.pinned (OpenSpec.ofChange hatCoversSpec)

/-- ITS FALSE NEIGHBOUR: 'it returns false'. Refute it at one input. -/
def hatCoversWrong : ChangeSpec := { name := "hatCovers", fn := fun _ => fun
  | [d1, d2] => { results := [.lit (.bool false)], args := [d1, d2] }
  | _ => none }
def HatCoversWrongFalsely : Prop := hatCoversRow.holds Try.pinned (OpenSpec.ofChange hatCoversWrong)

/-- 'wogglelaw09.HatEbert': WHATEVER THE INPUT: true; the input reads as it did. -/
def hatEbertSpec : ChangeSpec := { name := "hatEbert", fn := fun _ => fun
  | [d] => { results := [.lit (.bool true)], args := [d] }
  | _ => none }
def hatEbertRow : OpenClaim := { program := "ytgjmfehdjbepiaa", sum := "08bad7e74ee39319ebdaeb8f65dc5f127def74c90681db66fc2ccd6e471da85d", func := "woggle/wogglelaw09.HatEbert", spec := "hatEbert", unfollowed := true, recurses := true, apart := false }
def HatEbertSaid : Prop := hatEbertRow.holds Try.pinned (OpenSpec.ofChange hatEbertSpec)

/-- ITS FALSE NEIGHBOUR: 'it returns false'. Refute it at one input. -/
def hatEbertWrong : ChangeSpec := { name := "hatEbert", fn := fun _ => fun
  | [d] => { results := [.lit (.bool false)], args := [d] }
  | _ => none }
def HatEbertWrongFalsely : Prop := hatEbertRow.holds Try.pinned (OpenSpec.ofChange hatEbertWrong)

/-- 'wogglelaw09.HatGuesses': WHATEVER THE INPUT: true; the input reads as it did. -/
def hatGuessesSpec : ChangeSpec := { name := "hatGuesses", fn := fun _ => fun
  | [d1, d2, d3] => { results := [.lit (.bool true)], args := [d1, d2, d3] }
  | _ => none }
def hatGuessesRow : OpenClaim := { program := "ytgjmfehdjbepiaa", sum := "08bad7e74ee39319ebdaeb8f65dc5f127def74c90681db66fc2ccd6e471da85d", func := "woggle/wogglelaw09.HatGuesses", spec := "hatGuesses", unfollowed := true, recurses := true, apart := false }
def HatGuessesSaid : Prop := hatGuessesRow.holds Try.pinned (OpenSpec.ofChange hatGuessesSpec)

/-- ITS FALSE NEIGHBOUR: 'it returns false'. Refute it at one input. -/
def hatGuessesWrong : ChangeSpec := { name := "hatGuesses", fn := fun _ => fun
  | [d1, d2, d3] => { results := [.lit (.bool false)], args := [d1, d2, d3] }
  | _ => none }
def HatGuessesWrongFalsely : Prop := hatGuessesRow.holds Try.pinned (OpenSpec.ofChange hatGuessesWrong)

/-- 'wogglelaw09.HatFound': WHATEVER THE INPUT: true; the input reads as it did. -/
def hatFoundSpec : ChangeSpec := { name := "hatFound", fn := fun _ => fun
  | [d1, d2] => { results := [.lit (.bool true)], args := [d1, d2] }
  | _ => none }
def hatFoundRow : OpenClaim := { program := "ytgjmfehdjbepiaa", sum := "08bad7e74ee39319ebdaeb8f65dc5f127def74c90681db66fc2ccd6e471da85d", func := "woggle/wogglelaw09.HatFound", spec := "hatFound", unfollowed := true, recurses := true, apart := false }
def HatFoundSaid : Prop := hatFoundRow.holds Try.pinned (OpenSpec.ofChange hatFoundSpec)

/-- ITS FALSE NEIGHBOUR: 'it returns false'. Refute it at one input. -/
def hatFoundWrong : ChangeSpec := { name := "hatFound", fn := fun _ => fun
  | [d1, d2] => { results := [.lit (.bool false)], args := [d1, d2] }
  | _ => none }
def HatFoundWrongFalsely : Prop := hatFoundRow.holds Try.pinned (OpenSpec.ofChange hatFoundWrong)

/-- 'wogglelaw09.HatMore': WHATEVER THE INPUT: true; the input reads as it did. -/
def hatMoreSpec : ChangeSpec := { name := "hatMore", fn := fun _ => fun
  | [d1, d2] => { results := [.lit (.bool true)], args := [d1, d2] }
  | _ => none }
def hatMoreRow : OpenClaim := { program := "ytgjmfehdjbepiaa", sum := "08bad7e74ee39319ebdaeb8f65dc5f127def74c90681db66fc2ccd6e471da85d", func := "woggle/wogglelaw09.HatMore", spec := "hatMore", unfollowed := true, recurses := true, apart := false }
def HatMoreSaid : Prop := hatMoreRow.holds Try.pinned (OpenSpec.ofChange hatMoreSpec)

/-- ITS FALSE NEIGHBOUR: 'it returns false'. Refute it at one input. -/
def hatMoreWrong : ChangeSpec := { name := "hatMore", fn := fun _ => fun
  | [d1, d2] => { results := [.lit (.bool false)], args := [d1, d2] }
  | _ => none }
def HatMoreWrongFalsely : Prop := hatMoreRow.holds Try.pinned (OpenSpec.ofChange hatMoreWrong)

/-- 'wogglelaw09.HatColours': WHATEVER THE INPUT: true; the input reads as it did. -/
def hatColoursSpec : ChangeSpec := { name := "hatColours", fn := fun _ => fun
  | [d1, d2] => { results := [.lit (.bool true)], args := [d1, d2] }
  | _ => none }
def hatColoursRow : OpenClaim := { program := "ytgjmfehdjbepiaa", sum := "08bad7e74ee39319ebdaeb8f65dc5f127def74c90681db66fc2ccd6e471da85d", func := "woggle/wogglelaw09.HatColours", spec := "hatColours", unfollowed := true, recurses := true, apart := false }
def HatColoursSaid : Prop := hatColoursRow.holds Try.pinned (OpenSpec.ofChange hatColoursSpec)

/-- ITS FALSE NEIGHBOUR: 'it returns false'. Refute it at one input. -/
def hatColoursWrong : ChangeSpec := { name := "hatColours", fn := fun _ => fun
  | [d1, d2] => { results := [.lit (.bool false)], args := [d1, d2] }
  | _ => none }
def HatColoursWrongFalsely : Prop := hatColoursRow.holds Try.pinned (OpenSpec.ofChange hatColoursWrong)

/-- 'wogglelaw09.HatLoses': WHATEVER THE INPUT: true; the input reads as it did. -/
def hatLosesSpec : ChangeSpec := { name := "hatLoses", fn := fun _ => fun
  | [d1, d2] => { results := [.lit (.bool true)], args := [d1, d2] }
  | _ => none }
def hatLosesRow : OpenClaim := { program := "ytgjmfehdjbepiaa", sum := "08bad7e74ee39319ebdaeb8f65dc5f127def74c90681db66fc2ccd6e471da85d", func := "woggle/wogglelaw09.HatLoses", spec := "hatLoses", unfollowed := true, recurses := true, apart := false }
def HatLosesSaid : Prop := hatLosesRow.holds Try.pinned (OpenSpec.ofChange hatLosesSpec)

/-- ITS FALSE NEIGHBOUR: 'it returns false'. Refute it at one input. -/
def hatLosesWrong : ChangeSpec := { name := "hatLoses", fn := fun _ => fun
  | [d1, d2] => { results := [.lit (.bool false)], args := [d1, d2] }
  | _ => none }
def HatLosesWrongFalsely : Prop := hatLosesRow.holds Try.pinned (OpenSpec.ofChange hatLosesWrong)

/-- 'wogglelaw09.HatAverage': WHATEVER THE INPUT: true; the input reads as it did. -/
def hatAverageSpec : ChangeSpec := { name := "hatAverage", fn := fun _ => fun
  | [d] => { results := [.lit (.bool true)], args := [d] }
  | _ => none }
def hatAverageRow : OpenClaim := { program := "ytgjmfehdjbepiaa", sum := "08bad7e74ee39319ebdaeb8f65dc5f127def74c90681db66fc2ccd6e471da85d", func := "woggle/wogglelaw09.HatAverage", spec := "hatAverage", unfollowed := true, recurses := true, apart := false }
def HatAverageSaid : Prop := hatAverageRow.holds Try.pinned (OpenSpec.ofChange hatAverageSpec)

/-- ITS FALSE NEIGHBOUR: 'it returns false'. Refute it at one input. -/
def hatAverageWrong : ChangeSpec := { name := "hatAverage", fn := fun _ => fun
  | [d] => { results := [.lit (.bool false)], args := [d] }
  | _ => none }
def HatAverageWrongFalsely : Prop := hatAverageRow.holds Try.pinned (OpenSpec.ofChange hatAverageWrong)

/-- 'wogglelaw09.HatAll': WHATEVER THE INPUT: true; the input reads as it did. -/
def hatAllSpec : ChangeSpec := { name := "hatAll", fn := fun _ => fun
  | [d1, d2] => { results := [.lit (.bool true)], args := [d1, d2] }
  | _ => none }
def hatAllRow : OpenClaim := { program := "ytgjmfehdjbepiaa", sum := "08bad7e74ee39319ebdaeb8f65dc5f127def74c90681db66fc2ccd6e471da85d", func := "woggle/wogglelaw09.HatAll", spec := "hatAll", unfollowed := true, recurses := true, apart := false }
def HatAllSaid : Prop := hatAllRow.holds Try.pinned (OpenSpec.ofChange hatAllSpec)

/-- ITS FALSE NEIGHBOUR: 'it returns false'. Refute it at one input. -/
def hatAllWrong : ChangeSpec := { name := "hatAll", fn := fun _ => fun
  | [d1, d2] => { results := [.lit (.bool false)], args := [d1, d2] }
  | _ => none }
def HatAllWrongFalsely : Prop := hatAllRow.holds Try.pinned (OpenSpec.ofChange hatAllWrong)

/- THE SECOND FORM. 'bulk': how many values and letters a reading holds, each counted each time it is reached (what is shared counts as often as it is met; a slice's spare places count too). A statement '..UptoSaid' is the law's where the arguments, and the package variables that the reading takes, are together of bulk at most 1048576: NARROWER than '..Said'. Prove '..Said' where nothing that the law and all that it calls make is longer than what came in: it says more and counts as full. Else prove '..UptoSaid'. A law counts once. -/
mutual
def uptoBulk {H : Type} : DataW H → Nat
  | .lit (.string bytes) => bytes.length + 1
  | .lit _ => 1
  | .nil => 1
  | .ptr d => uptoBulk d + 1
  | .slice elems spare => uptoBulkAll elems + uptoBulkAll spare + 1
  | .agg parts => uptoBulkAll parts + 1
  | .iface _ d => uptoBulk d + 1
  | .map entries => uptoBulkEntries entries + 1
  | .held _ => 1
def uptoBulkAll {H : Type} : List (DataW H) → Nat
  | [] => 0
  | d :: r => uptoBulk d + uptoBulkAll r
def uptoBulkEntries {H : Type} : List (Lit × DataW H) → Nat
  | [] => 0
  | x :: r => uptoBulkEntry x + uptoBulkEntries r
def uptoBulkEntry {H : Type} : Lit × DataW H → Nat
  | (.string bytes, d) => bytes.length + uptoBulk d + 1
  | (_, d) => uptoBulk d + 1
 end
def uptoSmall : (H : Type) → List (DataW H) → Bool := fun _ ds => decide (uptoBulkAll ds ≤ 1048576)
def OpenSpec.upto (s : _root_.Go.ChangeSpec) : _root_.Go.OpenSpec := { _root_.Go.OpenSpec.ofChange s with cond := some uptoSmall }

/-- 'wogglelaw09.HatFinds', WHERE WHAT IT READS IS OF BULK AT MOST 1048576: true; the input reads as it did. -/
def hatFindsUptoRow : OpenClaim := { program := "ytgjmfehdjbepiaa", sum := "08bad7e74ee39319ebdaeb8f65dc5f127def74c90681db66fc2ccd6e471da85d", func := "woggle/wogglelaw09.HatFinds", spec := "hatFinds", unfollowed := true, recurses := true, apart := false, narrowed := true }
def HatFindsUptoSaid : Prop := hatFindsUptoRow.holds Try.pinned (OpenSpec.upto hatFindsSpec)

/-- 'wogglelaw09.HatEberts', WHERE WHAT IT READS IS OF BULK AT MOST 1048576: true; the input reads as it did. -/
def hatEbertsUptoRow : OpenClaim := { program := "ytgjmfehdjbepiaa", sum := "08bad7e74ee39319ebdaeb8f65dc5f127def74c90681db66fc2ccd6e471da85d", func := "woggle/wogglelaw09.HatEberts", spec := "hatEberts", unfollowed := true, recurses := true, apart := false, narrowed := true }
def HatEbertsUptoSaid : Prop := hatEbertsUptoRow.holds Try.pinned (OpenSpec.upto hatEbertsSpec)

/-- 'wogglelaw09.HatLines', WHERE WHAT IT READS IS OF BULK AT MOST 1048576: true; the input reads as it did. -/
def hatLinesUptoRow : OpenClaim := { program := "ytgjmfehdjbepiaa", sum := "08bad7e74ee39319ebdaeb8f65dc5f127def74c90681db66fc2ccd6e471da85d", func := "woggle/wogglelaw09.HatLines", spec := "hatLines", unfollowed := true, recurses := true, apart := false, narrowed := true }
def HatLinesUptoSaid : Prop := hatLinesUptoRow.holds Try.pinned (OpenSpec.upto hatLinesSpec)

/-- 'wogglelaw09.HatLine', WHERE WHAT IT READS IS OF BULK AT MOST 1048576: true; the input reads as it did. -/
def hatLineUptoRow : OpenClaim := { program := "ytgjmfehdjbepiaa", sum := "08bad7e74ee39319ebdaeb8f65dc5f127def74c90681db66fc2ccd6e471da85d", func := "woggle/wogglelaw09.HatLine", spec := "hatLine", unfollowed := true, recurses := true, apart := false, narrowed := true }
def HatLineUptoSaid : Prop := hatLineUptoRow.holds Try.pinned (OpenSpec.upto hatLineSpec)

/-- 'wogglelaw09.HatSums', WHERE WHAT IT READS IS OF BULK AT MOST 1048576: true; the input reads as it did. -/
def hatSumsUptoRow : OpenClaim := { program := "ytgjmfehdjbepiaa", sum := "08bad7e74ee39319ebdaeb8f65dc5f127def74c90681db66fc2ccd6e471da85d", func := "woggle/wogglelaw09.HatSums", spec := "hatSums", unfollowed := true, recurses := true, apart := false, narrowed := true }
def HatSumsUptoSaid : Prop := hatSumsUptoRow.holds Try.pinned (OpenSpec.upto hatSumsSpec)

/-- 'wogglelaw09.HatCovers', WHERE WHAT IT READS IS OF BULK AT MOST 1048576: true; the input reads as it did. -/
def hatCoversUptoRow : OpenClaim := { program := "ytgjmfehdjbepiaa", sum := "08bad7e74ee39319ebdaeb8f65dc5f127def74c90681db66fc2ccd6e471da85d", func := "woggle/wogglelaw09.HatCovers", spec := "hatCovers", unfollowed := true, recurses := true, apart := false, narrowed := true }
def HatCoversUptoSaid : Prop := hatCoversUptoRow.holds Try.pinned (OpenSpec.upto hatCoversSpec)

/-- 'wogglelaw09.HatEbert', WHERE WHAT IT READS IS OF BULK AT MOST 1048576: true; the input reads as it did. -/
def hatEbertUptoRow : OpenClaim := { program := "ytgjmfehdjbepiaa", sum := "08bad7e74ee39319ebdaeb8f65dc5f127def74c90681db66fc2ccd6e471da85d", func := "woggle/wogglelaw09.HatEbert", spec := "hatEbert", unfollowed := true, recurses := true, apart := false, narrowed := true }
def HatEbertUptoSaid : Prop := hatEbertUptoRow.holds Try.pinned (OpenSpec.upto hatEbertSpec)

/-- 'wogglelaw09.HatGuesses', WHERE WHAT IT READS IS OF BULK AT MOST 1048576: true; the input reads as it did. -/
def hatGuessesUptoRow : OpenClaim := { program := "ytgjmfehdjbepiaa", sum := "08bad7e74ee39319ebdaeb8f65dc5f127def74c90681db66fc2ccd6e471da85d", func := "woggle/wogglelaw09.HatGuesses", spec := "hatGuesses", unfollowed := true, recurses := true, apart := false, narrowed := true }
def HatGuessesUptoSaid : Prop := hatGuessesUptoRow.holds Try.pinned (OpenSpec.upto hatGuessesSpec)

/-- 'wogglelaw09.HatFound', WHERE WHAT IT READS IS OF BULK AT MOST 1048576: true; the input reads as it did. -/
def hatFoundUptoRow : OpenClaim := { program := "ytgjmfehdjbepiaa", sum := "08bad7e74ee39319ebdaeb8f65dc5f127def74c90681db66fc2ccd6e471da85d", func := "woggle/wogglelaw09.HatFound", spec := "hatFound", unfollowed := true, recurses := true, apart := false, narrowed := true }
def HatFoundUptoSaid : Prop := hatFoundUptoRow.holds Try.pinned (OpenSpec.upto hatFoundSpec)

/-- 'wogglelaw09.HatMore', WHERE WHAT IT READS IS OF BULK AT MOST 1048576: true; the input reads as it did. -/
def hatMoreUptoRow : OpenClaim := { program := "ytgjmfehdjbepiaa", sum := "08bad7e74ee39319ebdaeb8f65dc5f127def74c90681db66fc2ccd6e471da85d", func := "woggle/wogglelaw09.HatMore", spec := "hatMore", unfollowed := true, recurses := true, apart := false, narrowed := true }
def HatMoreUptoSaid : Prop := hatMoreUptoRow.holds Try.pinned (OpenSpec.upto hatMoreSpec)

/-- 'wogglelaw09.HatColours', WHERE WHAT IT READS IS OF BULK AT MOST 1048576: true; the input reads as it did. -/
def hatColoursUptoRow : OpenClaim := { program := "ytgjmfehdjbepiaa", sum := "08bad7e74ee39319ebdaeb8f65dc5f127def74c90681db66fc2ccd6e471da85d", func := "woggle/wogglelaw09.HatColours", spec := "hatColours", unfollowed := true, recurses := true, apart := false, narrowed := true }
def HatColoursUptoSaid : Prop := hatColoursUptoRow.holds Try.pinned (OpenSpec.upto hatColoursSpec)

/-- 'wogglelaw09.HatLoses', WHERE WHAT IT READS IS OF BULK AT MOST 1048576: true; the input reads as it did. -/
def hatLosesUptoRow : OpenClaim := { program := "ytgjmfehdjbepiaa", sum := "08bad7e74ee39319ebdaeb8f65dc5f127def74c90681db66fc2ccd6e471da85d", func := "woggle/wogglelaw09.HatLoses", spec := "hatLoses", unfollowed := true, recurses := true, apart := false, narrowed := true }
def HatLosesUptoSaid : Prop := hatLosesUptoRow.holds Try.pinned (OpenSpec.upto hatLosesSpec)

/-- 'wogglelaw09.HatAverage', WHERE WHAT IT READS IS OF BULK AT MOST 1048576: true; the input reads as it did. -/
def hatAverageUptoRow : OpenClaim := { program := "ytgjmfehdjbepiaa", sum := "08bad7e74ee39319ebdaeb8f65dc5f127def74c90681db66fc2ccd6e471da85d", func := "woggle/wogglelaw09.HatAverage", spec := "hatAverage", unfollowed := true, recurses := true, apart := false, narrowed := true }
def HatAverageUptoSaid : Prop := hatAverageUptoRow.holds Try.pinned (OpenSpec.upto hatAverageSpec)

/-- 'wogglelaw09.HatAll', WHERE WHAT IT READS IS OF BULK AT MOST 1048576: true; the input reads as it did. -/
def hatAllUptoRow : OpenClaim := { program := "ytgjmfehdjbepiaa", sum := "08bad7e74ee39319ebdaeb8f65dc5f127def74c90681db66fc2ccd6e471da85d", func := "woggle/wogglelaw09.HatAll", spec := "hatAll", unfollowed := true, recurses := true, apart := false, narrowed := true }
def HatAllUptoSaid : Prop := hatAllUptoRow.holds Try.pinned (OpenSpec.upto hatAllSpec)

end Rows
end Go.Proofs.Ytgjmfehdjbepiaa
