/-
  No cell of these rows narrows 'for every input' (looked for: loops, veiled, ifaces, maps, wideKeys, modest, calm, conditions, laid).
  DERIVED. THE GIVEN ROWS OF THIS SEAT. 14 by the template 'for every input the law returns true; each argument reads behind the call as it read before'; 0 by the template 'total and deterministic' (their statements: YtcphmeeighhdjaaTotals.lean).
  GIVEN WITH THE SEED: the statements are not yours to turn. If you find one false, say at which input.
  Laid BY PROGRAM, IN A SANDBOX (cutbox-rows.mjs): the forced cells as the released guide's own fill.sh prints them over the translation 9fec68e2f9c068f3… (all of the seat's roots in one cut). By AI agents, Wed Nov 11 2026. No macro, syntax, notation, axiom, sorry.
-/
import Derived.Test.YtcphmeeighhdjaaChecked
import GoSem.Claim
import GoSem.ClaimJoined
import GoSem.ClaimMapViews
import Derived.JoinedTies
import Derived.KernelRfl
namespace Go.Proofs.Ytcphmeeighhdjaa
/- THE CELL 'sum', in the pinned program and in every row, IS THE sha256 OF THE DUMP (.gsa) THAT YtcphmeeighhdjaaProg.lean LOADS. Nothing in Lean hashes anything: it is a label: what it is worth is what the hold of that sum in a sandbox is worth. -/
noncomputable def Try.pinned : Pinned := { name := "ytcphmeeighhdjaa", sum := "9fec68e2f9c068f33e17bf1afc146dad19451ea14ad969c87a6706f45317524f", checked := Try.checked }
namespace Rows
def none {H : Type} : Left H := { results := [], args := [] }

/-- 'wogglelaw02.TrackFitches': WHATEVER THE INPUT: true; the input reads as it did. -/
def trackFitchesSpec : ChangeSpec := { name := "trackFitches", fn := fun _ => fun
  | [d1, d2, d3] => { results := [.lit (.bool true)], args := [d1, d2, d3] }
  | _ => none }
def trackFitchesRow : OpenClaim := { program := "ytcphmeeighhdjaa", sum := "9fec68e2f9c068f33e17bf1afc146dad19451ea14ad969c87a6706f45317524f", func := "woggle/wogglelaw02.TrackFitches", spec := "trackFitches", unfollowed := true, recurses := true, apart := false }
def TrackFitchesSaid : Prop := trackFitchesRow.holds Try.pinned (OpenSpec.ofChange trackFitchesSpec)

/-- ITS FALSE NEIGHBOUR: 'it returns false'. Refute it at one input. -/
def trackFitchesWrong : ChangeSpec := { name := "trackFitches", fn := fun _ => fun
  | [d1, d2, d3] => { results := [.lit (.bool false)], args := [d1, d2, d3] }
  | _ => none }
def TrackFitchesWrongFalsely : Prop := trackFitchesRow.holds Try.pinned (OpenSpec.ofChange trackFitchesWrong)

/-- 'wogglelaw02.TrackLabels': WHATEVER THE INPUT: true; the input reads as it did. -/
def trackLabelsSpec : ChangeSpec := { name := "trackLabels", fn := fun _ => fun
  | [d1, d2, d3] => { results := [.lit (.bool true)], args := [d1, d2, d3] }
  | _ => none }
def trackLabelsRow : OpenClaim := { program := "ytcphmeeighhdjaa", sum := "9fec68e2f9c068f33e17bf1afc146dad19451ea14ad969c87a6706f45317524f", func := "woggle/wogglelaw02.TrackLabels", spec := "trackLabels", unfollowed := true, recurses := true, apart := false }
def TrackLabelsSaid : Prop := trackLabelsRow.holds Try.pinned (OpenSpec.ofChange trackLabelsSpec)

/-- ITS FALSE NEIGHBOUR: 'it returns false'. Refute it at one input. -/
def trackLabelsWrong : ChangeSpec := { name := "trackLabels", fn := fun _ => fun
  | [d1, d2, d3] => { results := [.lit (.bool false)], args := [d1, d2, d3] }
  | _ => none }
def TrackLabelsWrongFalsely : Prop := trackLabelsRow.holds Try.pinned (OpenSpec.ofChange trackLabelsWrong)

/-- 'wogglelaw02.TrackTrees': WHATEVER THE INPUT: true; the input reads as it did. -/
def trackTreesSpec : ChangeSpec := { name := "trackTrees", fn := fun _ => fun
  | [d] => { results := [.lit (.bool true)], args := [d] }
  | _ => none }
def trackTreesRow : OpenClaim := { program := "ytcphmeeighhdjaa", sum := "9fec68e2f9c068f33e17bf1afc146dad19451ea14ad969c87a6706f45317524f", func := "woggle/wogglelaw02.TrackTrees", spec := "trackTrees", unfollowed := true, recurses := true, apart := false }
def TrackTreesSaid : Prop := trackTreesRow.holds Try.pinned (OpenSpec.ofChange trackTreesSpec)

/-- ITS FALSE NEIGHBOUR: 'it returns false'. Refute it at one input. -/
def trackTreesWrong : ChangeSpec := { name := "trackTrees", fn := fun _ => fun
  | [d] => { results := [.lit (.bool false)], args := [d] }
  | _ => none }
def TrackTreesWrongFalsely : Prop := trackTreesRow.holds Try.pinned (OpenSpec.ofChange trackTreesWrong)

/-- 'wogglelaw02.TrackLeasts': WHATEVER THE INPUT: true; the input reads as it did. -/
def trackLeastsSpec : ChangeSpec := { name := "trackLeasts", fn := fun _ => fun
  | [d1, d2, d3] => { results := [.lit (.bool true)], args := [d1, d2, d3] }
  | _ => none }
def trackLeastsRow : OpenClaim := { program := "ytcphmeeighhdjaa", sum := "9fec68e2f9c068f33e17bf1afc146dad19451ea14ad969c87a6706f45317524f", func := "woggle/wogglelaw02.TrackLeasts", spec := "trackLeasts", unfollowed := true, recurses := true, apart := false }
def TrackLeastsSaid : Prop := trackLeastsRow.holds Try.pinned (OpenSpec.ofChange trackLeastsSpec)

/-- ITS FALSE NEIGHBOUR: 'it returns false'. Refute it at one input. -/
def trackLeastsWrong : ChangeSpec := { name := "trackLeasts", fn := fun _ => fun
  | [d1, d2, d3] => { results := [.lit (.bool false)], args := [d1, d2, d3] }
  | _ => none }
def TrackLeastsWrongFalsely : Prop := trackLeastsRow.holds Try.pinned (OpenSpec.ofChange trackLeastsWrong)

/-- 'wogglelaw02.TrackFitch': WHATEVER THE INPUT: true; the input reads as it did. -/
def trackFitchSpec : ChangeSpec := { name := "trackFitch", fn := fun _ => fun
  | [d] => { results := [.lit (.bool true)], args := [d] }
  | _ => none }
def trackFitchRow : OpenClaim := { program := "ytcphmeeighhdjaa", sum := "9fec68e2f9c068f33e17bf1afc146dad19451ea14ad969c87a6706f45317524f", func := "woggle/wogglelaw02.TrackFitch", spec := "trackFitch", unfollowed := true, recurses := true, apart := false }
def TrackFitchSaid : Prop := trackFitchRow.holds Try.pinned (OpenSpec.ofChange trackFitchSpec)

/-- ITS FALSE NEIGHBOUR: 'it returns false'. Refute it at one input. -/
def trackFitchWrong : ChangeSpec := { name := "trackFitch", fn := fun _ => fun
  | [d] => { results := [.lit (.bool false)], args := [d] }
  | _ => none }
def TrackFitchWrongFalsely : Prop := trackFitchRow.holds Try.pinned (OpenSpec.ofChange trackFitchWrong)

/-- 'wogglelaw02.TrackRoot': WHATEVER THE INPUT: true; the input reads as it did. -/
def trackRootSpec : ChangeSpec := { name := "trackRoot", fn := fun _ => fun
  | [d] => { results := [.lit (.bool true)], args := [d] }
  | _ => none }
def trackRootRow : OpenClaim := { program := "ytcphmeeighhdjaa", sum := "9fec68e2f9c068f33e17bf1afc146dad19451ea14ad969c87a6706f45317524f", func := "woggle/wogglelaw02.TrackRoot", spec := "trackRoot", unfollowed := true, recurses := true, apart := false }
def TrackRootSaid : Prop := trackRootRow.holds Try.pinned (OpenSpec.ofChange trackRootSpec)

/-- ITS FALSE NEIGHBOUR: 'it returns false'. Refute it at one input. -/
def trackRootWrong : ChangeSpec := { name := "trackRoot", fn := fun _ => fun
  | [d] => { results := [.lit (.bool false)], args := [d] }
  | _ => none }
def TrackRootWrongFalsely : Prop := trackRootRow.holds Try.pinned (OpenSpec.ofChange trackRootWrong)

/-- 'wogglelaw02.TrackBounds': WHATEVER THE INPUT: true; the input reads as it did. -/
def trackBoundsSpec : ChangeSpec := { name := "trackBounds", fn := fun _ => fun
  | [d] => { results := [.lit (.bool true)], args := [d] }
  | _ => none }
def trackBoundsRow : OpenClaim := { program := "ytcphmeeighhdjaa", sum := "9fec68e2f9c068f33e17bf1afc146dad19451ea14ad969c87a6706f45317524f", func := "woggle/wogglelaw02.TrackBounds", spec := "trackBounds", unfollowed := true, recurses := true, apart := false }
def TrackBoundsSaid : Prop := trackBoundsRow.holds Try.pinned (OpenSpec.ofChange trackBoundsSpec)

/-- ITS FALSE NEIGHBOUR: 'it returns false'. Refute it at one input. -/
def trackBoundsWrong : ChangeSpec := { name := "trackBounds", fn := fun _ => fun
  | [d] => { results := [.lit (.bool false)], args := [d] }
  | _ => none }
def TrackBoundsWrongFalsely : Prop := trackBoundsRow.holds Try.pinned (OpenSpec.ofChange trackBoundsWrong)

/-- 'wogglelaw02.TrackRenamed': WHATEVER THE INPUT: true; the input reads as it did. -/
def trackRenamedSpec : ChangeSpec := { name := "trackRenamed", fn := fun _ => fun
  | [d1, d2] => { results := [.lit (.bool true)], args := [d1, d2] }
  | _ => none }
def trackRenamedRow : OpenClaim := { program := "ytcphmeeighhdjaa", sum := "9fec68e2f9c068f33e17bf1afc146dad19451ea14ad969c87a6706f45317524f", func := "woggle/wogglelaw02.TrackRenamed", spec := "trackRenamed", unfollowed := true, recurses := true, apart := false }
def TrackRenamedSaid : Prop := trackRenamedRow.holds Try.pinned (OpenSpec.ofChange trackRenamedSpec)

/-- ITS FALSE NEIGHBOUR: 'it returns false'. Refute it at one input. -/
def trackRenamedWrong : ChangeSpec := { name := "trackRenamed", fn := fun _ => fun
  | [d1, d2] => { results := [.lit (.bool false)], args := [d1, d2] }
  | _ => none }
def TrackRenamedWrongFalsely : Prop := trackRenamedRow.holds Try.pinned (OpenSpec.ofChange trackRenamedWrong)

/-- 'wogglelaw02.TrackCosts': WHATEVER THE INPUT: true; the input reads as it did. -/
def trackCostsSpec : ChangeSpec := { name := "trackCosts", fn := fun _ => fun
  | [d1, d2, d3] => { results := [.lit (.bool true)], args := [d1, d2, d3] }
  | _ => none }
def trackCostsRow : OpenClaim := { program := "ytcphmeeighhdjaa", sum := "9fec68e2f9c068f33e17bf1afc146dad19451ea14ad969c87a6706f45317524f", func := "woggle/wogglelaw02.TrackCosts", spec := "trackCosts", unfollowed := true, recurses := true, apart := false }
def TrackCostsSaid : Prop := trackCostsRow.holds Try.pinned (OpenSpec.ofChange trackCostsSpec)

/-- ITS FALSE NEIGHBOUR: 'it returns false'. Refute it at one input. -/
def trackCostsWrong : ChangeSpec := { name := "trackCosts", fn := fun _ => fun
  | [d1, d2, d3] => { results := [.lit (.bool false)], args := [d1, d2, d3] }
  | _ => none }
def TrackCostsWrongFalsely : Prop := trackCostsRow.holds Try.pinned (OpenSpec.ofChange trackCostsWrong)

/-- 'wogglelaw02.TrackLengths': WHATEVER THE INPUT: true; the input reads as it did. -/
def trackLengthsSpec : ChangeSpec := { name := "trackLengths", fn := fun _ => fun
  | [d1, d2] => { results := [.lit (.bool true)], args := [d1, d2] }
  | _ => none }
def trackLengthsRow : OpenClaim := { program := "ytcphmeeighhdjaa", sum := "9fec68e2f9c068f33e17bf1afc146dad19451ea14ad969c87a6706f45317524f", func := "woggle/wogglelaw02.TrackLengths", spec := "trackLengths", unfollowed := true, recurses := true, apart := false }
def TrackLengthsSaid : Prop := trackLengthsRow.holds Try.pinned (OpenSpec.ofChange trackLengthsSpec)

/-- ITS FALSE NEIGHBOUR: 'it returns false'. Refute it at one input. -/
def trackLengthsWrong : ChangeSpec := { name := "trackLengths", fn := fun _ => fun
  | [d1, d2] => { results := [.lit (.bool false)], args := [d1, d2] }
  | _ => none }
def TrackLengthsWrongFalsely : Prop := trackLengthsRow.holds Try.pinned (OpenSpec.ofChange trackLengthsWrong)

/-- 'wogglelaw02.TrackSankoff': WHATEVER THE INPUT: true; the input reads as it did. -/
def trackSankoffSpec : ChangeSpec := { name := "trackSankoff", fn := fun _ => fun
  | [d1, d2] => { results := [.lit (.bool true)], args := [d1, d2] }
  | _ => none }
def trackSankoffRow : OpenClaim := { program := "ytcphmeeighhdjaa", sum := "9fec68e2f9c068f33e17bf1afc146dad19451ea14ad969c87a6706f45317524f", func := "woggle/wogglelaw02.TrackSankoff", spec := "trackSankoff", unfollowed := true, recurses := true, apart := false }
def TrackSankoffSaid : Prop := trackSankoffRow.holds Try.pinned (OpenSpec.ofChange trackSankoffSpec)

/-- ITS FALSE NEIGHBOUR: 'it returns false'. Refute it at one input. -/
def trackSankoffWrong : ChangeSpec := { name := "trackSankoff", fn := fun _ => fun
  | [d1, d2] => { results := [.lit (.bool false)], args := [d1, d2] }
  | _ => none }
def TrackSankoffWrongFalsely : Prop := trackSankoffRow.holds Try.pinned (OpenSpec.ofChange trackSankoffWrong)

/-- 'wogglelaw02.TrackGametes': WHATEVER THE INPUT: true; the input reads as it did. -/
def trackGametesSpec : ChangeSpec := { name := "trackGametes", fn := fun _ => fun
  | [d1, d2] => { results := [.lit (.bool true)], args := [d1, d2] }
  | _ => none }
def trackGametesRow : OpenClaim := { program := "ytcphmeeighhdjaa", sum := "9fec68e2f9c068f33e17bf1afc146dad19451ea14ad969c87a6706f45317524f", func := "woggle/wogglelaw02.TrackGametes", spec := "trackGametes", unfollowed := true, recurses := true, apart := false }
def TrackGametesSaid : Prop := trackGametesRow.holds Try.pinned (OpenSpec.ofChange trackGametesSpec)

/-- ITS FALSE NEIGHBOUR: 'it returns false'. Refute it at one input. -/
def trackGametesWrong : ChangeSpec := { name := "trackGametes", fn := fun _ => fun
  | [d1, d2] => { results := [.lit (.bool false)], args := [d1, d2] }
  | _ => none }
def TrackGametesWrongFalsely : Prop := trackGametesRow.holds Try.pinned (OpenSpec.ofChange trackGametesWrong)

/-- 'wogglelaw02.TrackBests': WHATEVER THE INPUT: true; the input reads as it did. -/
def trackBestsSpec : ChangeSpec := { name := "trackBests", fn := fun _ => fun
  | [d] => { results := [.lit (.bool true)], args := [d] }
  | _ => none }
def trackBestsRow : OpenClaim := { program := "ytcphmeeighhdjaa", sum := "9fec68e2f9c068f33e17bf1afc146dad19451ea14ad969c87a6706f45317524f", func := "woggle/wogglelaw02.TrackBests", spec := "trackBests", unfollowed := true, recurses := true, apart := false }
def TrackBestsSaid : Prop := trackBestsRow.holds Try.pinned (OpenSpec.ofChange trackBestsSpec)

/-- ITS FALSE NEIGHBOUR: 'it returns false'. Refute it at one input. -/
def trackBestsWrong : ChangeSpec := { name := "trackBests", fn := fun _ => fun
  | [d] => { results := [.lit (.bool false)], args := [d] }
  | _ => none }
def TrackBestsWrongFalsely : Prop := trackBestsRow.holds Try.pinned (OpenSpec.ofChange trackBestsWrong)

/-- 'wogglelaw02.TrackTables': WHATEVER THE INPUT: true; the input reads as it did. -/
def trackTablesSpec : ChangeSpec := { name := "trackTables", fn := fun _ => fun
  | [d1, d2, d3] => { results := [.lit (.bool true)], args := [d1, d2, d3] }
  | _ => none }
def trackTablesRow : OpenClaim := { program := "ytcphmeeighhdjaa", sum := "9fec68e2f9c068f33e17bf1afc146dad19451ea14ad969c87a6706f45317524f", func := "woggle/wogglelaw02.TrackTables", spec := "trackTables", unfollowed := true, recurses := true, apart := false }
def TrackTablesSaid : Prop := trackTablesRow.holds Try.pinned (OpenSpec.ofChange trackTablesSpec)

/-- ITS FALSE NEIGHBOUR: 'it returns false'. Refute it at one input. -/
def trackTablesWrong : ChangeSpec := { name := "trackTables", fn := fun _ => fun
  | [d1, d2, d3] => { results := [.lit (.bool false)], args := [d1, d2, d3] }
  | _ => none }
def TrackTablesWrongFalsely : Prop := trackTablesRow.holds Try.pinned (OpenSpec.ofChange trackTablesWrong)

/- THE SECOND FORM. 'bulk': how many values and letters a reading holds, each counted each time it is reached (what is shared counts as often as it is met; a slice's spare places count too). A statement '..UptoSaid' is the law's where the arguments, and the package variables that the reading takes, are together of bulk at most 1048576: NARROWER than '..Said'. Prove '..Said' where nothing that the law and all that it calls make is longer than what came in: it says more and counts as full. Else prove '..UptoSaid'. A law counts once. -/
mutual
def uptoBulk {H : Type} : DataW H → Nat
  | .lit (.string bytes) => bytes.length + 1
  | .lit _ => 1
  | .nil => 1
  | .ptr d => uptoBulk d + 1
  | .slice elems spare => uptoBulkAll elems + uptoBulkAll spare + 1
  | .agg parts => uptoBulkAll parts + 1
  | .iface _ d => uptoBulk d + 1
  | .map entries => uptoBulkEntries entries + 1
  | .held _ => 1
def uptoBulkAll {H : Type} : List (DataW H) → Nat
  | [] => 0
  | d :: r => uptoBulk d + uptoBulkAll r
def uptoBulkEntries {H : Type} : List (Lit × DataW H) → Nat
  | [] => 0
  | x :: r => uptoBulkEntry x + uptoBulkEntries r
def uptoBulkEntry {H : Type} : Lit × DataW H → Nat
  | (.string bytes, d) => bytes.length + uptoBulk d + 1
  | (_, d) => uptoBulk d + 1
 end
def uptoSmall : (H : Type) → List (DataW H) → Bool := fun _ ds => decide (uptoBulkAll ds ≤ 1048576)
def OpenSpec.upto (s : _root_.Go.ChangeSpec) : _root_.Go.OpenSpec := { _root_.Go.OpenSpec.ofChange s with cond := some uptoSmall }

/-- 'wogglelaw02.TrackFitches', WHERE WHAT IT READS IS OF BULK AT MOST 1048576: true; the input reads as it did. -/
def trackFitchesUptoRow : OpenClaim := { program := "ytcphmeeighhdjaa", sum := "9fec68e2f9c068f33e17bf1afc146dad19451ea14ad969c87a6706f45317524f", func := "woggle/wogglelaw02.TrackFitches", spec := "trackFitches", unfollowed := true, recurses := true, apart := false, narrowed := true }
def TrackFitchesUptoSaid : Prop := trackFitchesUptoRow.holds Try.pinned (OpenSpec.upto trackFitchesSpec)

/-- 'wogglelaw02.TrackLabels', WHERE WHAT IT READS IS OF BULK AT MOST 1048576: true; the input reads as it did. -/
def trackLabelsUptoRow : OpenClaim := { program := "ytcphmeeighhdjaa", sum := "9fec68e2f9c068f33e17bf1afc146dad19451ea14ad969c87a6706f45317524f", func := "woggle/wogglelaw02.TrackLabels", spec := "trackLabels", unfollowed := true, recurses := true, apart := false, narrowed := true }
def TrackLabelsUptoSaid : Prop := trackLabelsUptoRow.holds Try.pinned (OpenSpec.upto trackLabelsSpec)

/-- 'wogglelaw02.TrackTrees', WHERE WHAT IT READS IS OF BULK AT MOST 1048576: true; the input reads as it did. -/
def trackTreesUptoRow : OpenClaim := { program := "ytcphmeeighhdjaa", sum := "9fec68e2f9c068f33e17bf1afc146dad19451ea14ad969c87a6706f45317524f", func := "woggle/wogglelaw02.TrackTrees", spec := "trackTrees", unfollowed := true, recurses := true, apart := false, narrowed := true }
def TrackTreesUptoSaid : Prop := trackTreesUptoRow.holds Try.pinned (OpenSpec.upto trackTreesSpec)

/-- 'wogglelaw02.TrackLeasts', WHERE WHAT IT READS IS OF BULK AT MOST 1048576: true; the input reads as it did. -/
def trackLeastsUptoRow : OpenClaim := { program := "ytcphmeeighhdjaa", sum := "9fec68e2f9c068f33e17bf1afc146dad19451ea14ad969c87a6706f45317524f", func := "woggle/wogglelaw02.TrackLeasts", spec := "trackLeasts", unfollowed := true, recurses := true, apart := false, narrowed := true }
def TrackLeastsUptoSaid : Prop := trackLeastsUptoRow.holds Try.pinned (OpenSpec.upto trackLeastsSpec)

/-- 'wogglelaw02.TrackFitch', WHERE WHAT IT READS IS OF BULK AT MOST 1048576: true; the input reads as it did. -/
def trackFitchUptoRow : OpenClaim := { program := "ytcphmeeighhdjaa", sum := "9fec68e2f9c068f33e17bf1afc146dad19451ea14ad969c87a6706f45317524f", func := "woggle/wogglelaw02.TrackFitch", spec := "trackFitch", unfollowed := true, recurses := true, apart := false, narrowed := true }
def TrackFitchUptoSaid : Prop := trackFitchUptoRow.holds Try.pinned (OpenSpec.upto trackFitchSpec)

/-- 'wogglelaw02.TrackRoot', WHERE WHAT IT READS IS OF BULK AT MOST 1048576: true; the input reads as it did. -/
def trackRootUptoRow : OpenClaim := { program := "ytcphmeeighhdjaa", sum := "9fec68e2f9c068f33e17bf1afc146dad19451ea14ad969c87a6706f45317524f", func := "woggle/wogglelaw02.TrackRoot", spec := "trackRoot", unfollowed := true, recurses := true, apart := false, narrowed := true }
def TrackRootUptoSaid : Prop := trackRootUptoRow.holds Try.pinned (OpenSpec.upto trackRootSpec)

/-- 'wogglelaw02.TrackBounds', WHERE WHAT IT READS IS OF BULK AT MOST 1048576: true; the input reads as it did. -/
def trackBoundsUptoRow : OpenClaim := { program := "ytcphmeeighhdjaa", sum := "9fec68e2f9c068f33e17bf1afc146dad19451ea14ad969c87a6706f45317524f", func := "woggle/wogglelaw02.TrackBounds", spec := "trackBounds", unfollowed := true, recurses := true, apart := false, narrowed := true }
def TrackBoundsUptoSaid : Prop := trackBoundsUptoRow.holds Try.pinned (OpenSpec.upto trackBoundsSpec)

/-- 'wogglelaw02.TrackRenamed', WHERE WHAT IT READS IS OF BULK AT MOST 1048576: true; the input reads as it did. -/
def trackRenamedUptoRow : OpenClaim := { program := "ytcphmeeighhdjaa", sum := "9fec68e2f9c068f33e17bf1afc146dad19451ea14ad969c87a6706f45317524f", func := "woggle/wogglelaw02.TrackRenamed", spec := "trackRenamed", unfollowed := true, recurses := true, apart := false, narrowed := true }
def TrackRenamedUptoSaid : Prop := trackRenamedUptoRow.holds Try.pinned (OpenSpec.upto trackRenamedSpec)

/-- 'wogglelaw02.TrackCosts', WHERE WHAT IT READS IS OF BULK AT MOST 1048576: true; the input reads as it did. -/
def trackCostsUptoRow : OpenClaim := { program := "ytcphmeeighhdjaa", sum := "9fec68e2f9c068f33e17bf1afc146dad19451ea14ad969c87a6706f45317524f", func := "woggle/wogglelaw02.TrackCosts", spec := "trackCosts", unfollowed := true, recurses := true, apart := false, narrowed := true }
def TrackCostsUptoSaid : Prop := trackCostsUptoRow.holds Try.pinned (OpenSpec.upto trackCostsSpec)

/-- 'wogglelaw02.TrackLengths', WHERE WHAT IT READS IS OF BULK AT MOST 1048576: true; the input reads as it did. -/
def trackLengthsUptoRow : OpenClaim := { program := "ytcphmeeighhdjaa", sum := "9fec68e2f9c068f33e17bf1afc146dad19451ea14ad969c87a6706f45317524f", func := "woggle/wogglelaw02.TrackLengths", spec := "trackLengths", unfollowed := true, recurses := true, apart := false, narrowed := true }
def TrackLengthsUptoSaid : Prop := trackLengthsUptoRow.holds Try.pinned (OpenSpec.upto trackLengthsSpec)

/-- 'wogglelaw02.TrackSankoff', WHERE WHAT IT READS IS OF BULK AT MOST 1048576: true; the input reads as it did. -/
def trackSankoffUptoRow : OpenClaim := { program := "ytcphmeeighhdjaa", sum := "9fec68e2f9c068f33e17bf1afc146dad19451ea14ad969c87a6706f45317524f", func := "woggle/wogglelaw02.TrackSankoff", spec := "trackSankoff", unfollowed := true, recurses := true, apart := false, narrowed := true }
def TrackSankoffUptoSaid : Prop := trackSankoffUptoRow.holds Try.pinned (OpenSpec.upto trackSankoffSpec)

/-- 'wogglelaw02.TrackGametes', WHERE WHAT IT READS IS OF BULK AT MOST 1048576: true; the input reads as it did. -/
def trackGametesUptoRow : OpenClaim := { program := "ytcphmeeighhdjaa", sum := "9fec68e2f9c068f33e17bf1afc146dad19451ea14ad969c87a6706f45317524f", func := "woggle/wogglelaw02.TrackGametes", spec := "trackGametes", unfollowed := true, recurses := true, apart := false, narrowed := true }
def TrackGametesUptoSaid : Prop := trackGametesUptoRow.holds Try.pinned (OpenSpec.upto trackGametesSpec)

/-- 'wogglelaw02.TrackBests', WHERE WHAT IT READS IS OF BULK AT MOST 1048576: true; the input reads as it did. -/
def trackBestsUptoRow : OpenClaim := { program := "ytcphmeeighhdjaa", sum := "9fec68e2f9c068f33e17bf1afc146dad19451ea14ad969c87a6706f45317524f", func := "woggle/wogglelaw02.TrackBests", spec := "trackBests", unfollowed := true, recurses := true, apart := false, narrowed := true }
def TrackBestsUptoSaid : Prop := trackBestsUptoRow.holds Try.pinned (OpenSpec.upto trackBestsSpec)

/-- 'wogglelaw02.TrackTables', WHERE WHAT IT READS IS OF BULK AT MOST 1048576: true; the input reads as it did. -/
def trackTablesUptoRow : OpenClaim := { program := "ytcphmeeighhdjaa", sum := "9fec68e2f9c068f33e17bf1afc146dad19451ea14ad969c87a6706f45317524f", func := "woggle/wogglelaw02.TrackTables", spec := "trackTables", unfollowed := true, recurses := true, apart := false, narrowed := true }
def TrackTablesUptoSaid : Prop := trackTablesUptoRow.holds Try.pinned (OpenSpec.upto trackTablesSpec)

end Rows
end Go.Proofs.Ytcphmeeighhdjaa
