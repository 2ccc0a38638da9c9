/-
  No cell of these rows narrows 'for every input' (looked for: loops, veiled, ifaces, maps, wideKeys, modest, calm, conditions, laid).
  DERIVED. THE GIVEN ROWS OF THIS SEAT. 10 by the template 'for every input the law returns true; each argument reads behind the call as it read before'; 0 by the template 'total and deterministic' (their statements: YtjjnglngldfglaaTotals.lean).
  GIVEN WITH THE SEED: the statements are not yours to turn. If you find one false, say at which input.
  Laid BY PROGRAM, IN A SANDBOX (cutbox-rows.mjs): the forced cells as the released guide's own fill.sh prints them over the translation c440f557c8744396… (all of the seat's roots in one cut). By AI agents, Wed Nov 11 2026. No macro, syntax, notation, axiom, sorry.
-/
import Derived.Test.YtjjnglngldfglaaChecked
import GoSem.Claim
import GoSem.ClaimJoined
import GoSem.ClaimMapViews
import Derived.JoinedTies
import Derived.KernelRfl
namespace Go.Proofs.Ytjjnglngldfglaa
/- THE CELL 'sum', in the pinned program and in every row, IS THE sha256 OF THE DUMP (.gsa) THAT YtjjnglngldfglaaProg.lean LOADS. Nothing in Lean hashes anything: it is a label: what it is worth is what the hold of that sum in a sandbox is worth. -/
noncomputable def Try.pinned : Pinned := { name := "ytjjnglngldfglaa", sum := "c440f557c87443969a1622097a3787148ff04a277d460c8a498ba1e6d3140c68", checked := Try.checked }
namespace Rows
def none {H : Type} : Left H := { results := [], args := [] }

/-- 'wogglelaw10.QueueExclusion': WHATEVER THE INPUT: true; the input reads as it did. -/
def queueExclusionSpec : ChangeSpec := { name := "queueExclusion", fn := fun _ => fun
  | [d1, d2] => { results := [.lit (.bool true)], args := [d1, d2] }
  | _ => none }
def queueExclusionRow : OpenClaim := { program := "ytjjnglngldfglaa", sum := "c440f557c87443969a1622097a3787148ff04a277d460c8a498ba1e6d3140c68", func := "woggle/wogglelaw10.QueueExclusion", spec := "queueExclusion", unfollowed := true, recurses := true, apart := false }
def QueueExclusionSaid : Prop := queueExclusionRow.holds Try.pinned (OpenSpec.ofChange queueExclusionSpec)

/-- ITS FALSE NEIGHBOUR: 'it returns false'. Refute it at one input. -/
def queueExclusionWrong : ChangeSpec := { name := "queueExclusion", fn := fun _ => fun
  | [d1, d2] => { results := [.lit (.bool false)], args := [d1, d2] }
  | _ => none }
def QueueExclusionWrongFalsely : Prop := queueExclusionRow.holds Try.pinned (OpenSpec.ofChange queueExclusionWrong)

/-- 'wogglelaw10.QueueOrder': WHATEVER THE INPUT: true; the input reads as it did. -/
def queueOrderSpec : ChangeSpec := { name := "queueOrder", fn := fun _ => fun
  | [d1, d2] => { results := [.lit (.bool true)], args := [d1, d2] }
  | _ => none }
def queueOrderRow : OpenClaim := { program := "ytjjnglngldfglaa", sum := "c440f557c87443969a1622097a3787148ff04a277d460c8a498ba1e6d3140c68", func := "woggle/wogglelaw10.QueueOrder", spec := "queueOrder", unfollowed := true, recurses := true, apart := false }
def QueueOrderSaid : Prop := queueOrderRow.holds Try.pinned (OpenSpec.ofChange queueOrderSpec)

/-- ITS FALSE NEIGHBOUR: 'it returns false'. Refute it at one input. -/
def queueOrderWrong : ChangeSpec := { name := "queueOrder", fn := fun _ => fun
  | [d1, d2] => { results := [.lit (.bool false)], args := [d1, d2] }
  | _ => none }
def QueueOrderWrongFalsely : Prop := queueOrderRow.holds Try.pinned (OpenSpec.ofChange queueOrderWrong)

/-- 'wogglelaw10.QueueProgress': WHATEVER THE INPUT: true; the input reads as it did. -/
def queueProgressSpec : ChangeSpec := { name := "queueProgress", fn := fun _ => fun
  | [d1, d2, d3] => { results := [.lit (.bool true)], args := [d1, d2, d3] }
  | _ => none }
def queueProgressRow : OpenClaim := { program := "ytjjnglngldfglaa", sum := "c440f557c87443969a1622097a3787148ff04a277d460c8a498ba1e6d3140c68", func := "woggle/wogglelaw10.QueueProgress", spec := "queueProgress", unfollowed := true, recurses := true, apart := false }
def QueueProgressSaid : Prop := queueProgressRow.holds Try.pinned (OpenSpec.ofChange queueProgressSpec)

/-- ITS FALSE NEIGHBOUR: 'it returns false'. Refute it at one input. -/
def queueProgressWrong : ChangeSpec := { name := "queueProgress", fn := fun _ => fun
  | [d1, d2, d3] => { results := [.lit (.bool false)], args := [d1, d2, d3] }
  | _ => none }
def QueueProgressWrongFalsely : Prop := queueProgressRow.holds Try.pinned (OpenSpec.ofChange queueProgressWrong)

/-- 'wogglelaw10.QueueNumbers': WHATEVER THE INPUT: true; the input reads as it did. -/
def queueNumbersSpec : ChangeSpec := { name := "queueNumbers", fn := fun _ => fun
  | [d1, d2] => { results := [.lit (.bool true)], args := [d1, d2] }
  | _ => none }
def queueNumbersRow : OpenClaim := { program := "ytjjnglngldfglaa", sum := "c440f557c87443969a1622097a3787148ff04a277d460c8a498ba1e6d3140c68", func := "woggle/wogglelaw10.QueueNumbers", spec := "queueNumbers", unfollowed := true, recurses := true, apart := false }
def QueueNumbersSaid : Prop := queueNumbersRow.holds Try.pinned (OpenSpec.ofChange queueNumbersSpec)

/-- ITS FALSE NEIGHBOUR: 'it returns false'. Refute it at one input. -/
def queueNumbersWrong : ChangeSpec := { name := "queueNumbers", fn := fun _ => fun
  | [d1, d2] => { results := [.lit (.bool false)], args := [d1, d2] }
  | _ => none }
def QueueNumbersWrongFalsely : Prop := queueNumbersRow.holds Try.pinned (OpenSpec.ofChange queueNumbersWrong)

/-- 'wogglelaw10.QueueAlone': WHATEVER THE INPUT: true; the input reads as it did. -/
def queueAloneSpec : ChangeSpec := { name := "queueAlone", fn := fun _ => fun
  | [d1, d2] => { results := [.lit (.bool true)], args := [d1, d2] }
  | _ => none }
def queueAloneRow : OpenClaim := { program := "ytjjnglngldfglaa", sum := "c440f557c87443969a1622097a3787148ff04a277d460c8a498ba1e6d3140c68", func := "woggle/wogglelaw10.QueueAlone", spec := "queueAlone", unfollowed := true, recurses := true, apart := false }
def QueueAloneSaid : Prop := queueAloneRow.holds Try.pinned (OpenSpec.ofChange queueAloneSpec)

/-- ITS FALSE NEIGHBOUR: 'it returns false'. Refute it at one input. -/
def queueAloneWrong : ChangeSpec := { name := "queueAlone", fn := fun _ => fun
  | [d1, d2] => { results := [.lit (.bool false)], args := [d1, d2] }
  | _ => none }
def QueueAloneWrongFalsely : Prop := queueAloneRow.holds Try.pinned (OpenSpec.ofChange queueAloneWrong)

/-- 'wogglelaw10.QueueNews': WHATEVER THE INPUT: true; the input reads as it did. -/
def queueNewsSpec : ChangeSpec := { name := "queueNews", fn := fun _ => fun
  | [d1, d2] => { results := [.lit (.bool true)], args := [d1, d2] }
  | _ => none }
def queueNewsRow : OpenClaim := { program := "ytjjnglngldfglaa", sum := "c440f557c87443969a1622097a3787148ff04a277d460c8a498ba1e6d3140c68", func := "woggle/wogglelaw10.QueueNews", spec := "queueNews", unfollowed := true, recurses := true, apart := false }
def QueueNewsSaid : Prop := queueNewsRow.holds Try.pinned (OpenSpec.ofChange queueNewsSpec)

/-- ITS FALSE NEIGHBOUR: 'it returns false'. Refute it at one input. -/
def queueNewsWrong : ChangeSpec := { name := "queueNews", fn := fun _ => fun
  | [d1, d2] => { results := [.lit (.bool false)], args := [d1, d2] }
  | _ => none }
def QueueNewsWrongFalsely : Prop := queueNewsRow.holds Try.pinned (OpenSpec.ofChange queueNewsWrong)

/-- 'wogglelaw10.QueuePlays': WHATEVER THE INPUT: true; the input reads as it did. -/
def queuePlaysSpec : ChangeSpec := { name := "queuePlays", fn := fun _ => fun
  | [d1, d2, d3] => { results := [.lit (.bool true)], args := [d1, d2, d3] }
  | _ => none }
def queuePlaysRow : OpenClaim := { program := "ytjjnglngldfglaa", sum := "c440f557c87443969a1622097a3787148ff04a277d460c8a498ba1e6d3140c68", func := "woggle/wogglelaw10.QueuePlays", spec := "queuePlays", unfollowed := true, recurses := true, apart := false }
def QueuePlaysSaid : Prop := queuePlaysRow.holds Try.pinned (OpenSpec.ofChange queuePlaysSpec)

/-- ITS FALSE NEIGHBOUR: 'it returns false'. Refute it at one input. -/
def queuePlaysWrong : ChangeSpec := { name := "queuePlays", fn := fun _ => fun
  | [d1, d2, d3] => { results := [.lit (.bool false)], args := [d1, d2, d3] }
  | _ => none }
def QueuePlaysWrongFalsely : Prop := queuePlaysRow.holds Try.pinned (OpenSpec.ofChange queuePlaysWrong)

/-- 'wogglelaw10.QueueSame': WHATEVER THE INPUT: true; the input reads as it did. -/
def queueSameSpec : ChangeSpec := { name := "queueSame", fn := fun _ => fun
  | [d1, d2, d3] => { results := [.lit (.bool true)], args := [d1, d2, d3] }
  | _ => none }
def queueSameRow : OpenClaim := { program := "ytjjnglngldfglaa", sum := "c440f557c87443969a1622097a3787148ff04a277d460c8a498ba1e6d3140c68", func := "woggle/wogglelaw10.QueueSame", spec := "queueSame", unfollowed := true, recurses := true, apart := false }
def QueueSameSaid : Prop := queueSameRow.holds Try.pinned (OpenSpec.ofChange queueSameSpec)

/-- ITS FALSE NEIGHBOUR: 'it returns false'. Refute it at one input. -/
def queueSameWrong : ChangeSpec := { name := "queueSame", fn := fun _ => fun
  | [d1, d2, d3] => { results := [.lit (.bool false)], args := [d1, d2, d3] }
  | _ => none }
def QueueSameWrongFalsely : Prop := queueSameRow.holds Try.pinned (OpenSpec.ofChange queueSameWrong)

/-- 'wogglelaw10.QueueNobody': WHATEVER THE INPUT: true; the input reads as it did. -/
def queueNobodySpec : ChangeSpec := { name := "queueNobody", fn := fun _ => fun
  | [d1, d2] => { results := [.lit (.bool true)], args := [d1, d2] }
  | _ => none }
def queueNobodyRow : OpenClaim := { program := "ytjjnglngldfglaa", sum := "c440f557c87443969a1622097a3787148ff04a277d460c8a498ba1e6d3140c68", func := "woggle/wogglelaw10.QueueNobody", spec := "queueNobody", unfollowed := true, recurses := true, apart := false }
def QueueNobodySaid : Prop := queueNobodyRow.holds Try.pinned (OpenSpec.ofChange queueNobodySpec)

/-- ITS FALSE NEIGHBOUR: 'it returns false'. Refute it at one input. -/
def queueNobodyWrong : ChangeSpec := { name := "queueNobody", fn := fun _ => fun
  | [d1, d2] => { results := [.lit (.bool false)], args := [d1, d2] }
  | _ => none }
def QueueNobodyWrongFalsely : Prop := queueNobodyRow.holds Try.pinned (OpenSpec.ofChange queueNobodyWrong)

/-- 'wogglelaw10.QueueClashes': WHATEVER THE INPUT: true; the input reads as it did. -/
def queueClashesSpec : ChangeSpec := { name := "queueClashes", fn := fun _ => fun
  | [d] => { results := [.lit (.bool true)], args := [d] }
  | _ => none }
def queueClashesRow : OpenClaim := { program := "ytjjnglngldfglaa", sum := "c440f557c87443969a1622097a3787148ff04a277d460c8a498ba1e6d3140c68", func := "woggle/wogglelaw10.QueueClashes", spec := "queueClashes", unfollowed := true, recurses := true, apart := false }
def QueueClashesSaid : Prop := queueClashesRow.holds Try.pinned (OpenSpec.ofChange queueClashesSpec)

/-- ITS FALSE NEIGHBOUR: 'it returns false'. Refute it at one input. -/
def queueClashesWrong : ChangeSpec := { name := "queueClashes", fn := fun _ => fun
  | [d] => { results := [.lit (.bool false)], args := [d] }
  | _ => none }
def QueueClashesWrongFalsely : Prop := queueClashesRow.holds Try.pinned (OpenSpec.ofChange queueClashesWrong)

/- THE SECOND FORM. 'bulk': how many values and letters a reading holds, each counted each time it is reached (what is shared counts as often as it is met; a slice's spare places count too). A statement '..UptoSaid' is the law's where the arguments, and the package variables that the reading takes, are together of bulk at most 1048576: NARROWER than '..Said'. Prove '..Said' where nothing that the law and all that it calls make is longer than what came in: it says more and counts as full. Else prove '..UptoSaid'. A law counts once. -/
mutual
def uptoBulk {H : Type} : DataW H → Nat
  | .lit (.string bytes) => bytes.length + 1
  | .lit _ => 1
  | .nil => 1
  | .ptr d => uptoBulk d + 1
  | .slice elems spare => uptoBulkAll elems + uptoBulkAll spare + 1
  | .agg parts => uptoBulkAll parts + 1
  | .iface _ d => uptoBulk d + 1
  | .map entries => uptoBulkEntries entries + 1
  | .held _ => 1
def uptoBulkAll {H : Type} : List (DataW H) → Nat
  | [] => 0
  | d :: r => uptoBulk d + uptoBulkAll r
def uptoBulkEntries {H : Type} : List (Lit × DataW H) → Nat
  | [] => 0
  | x :: r => uptoBulkEntry x + uptoBulkEntries r
def uptoBulkEntry {H : Type} : Lit × DataW H → Nat
  | (.string bytes, d) => bytes.length + uptoBulk d + 1
  | (_, d) => uptoBulk d + 1
 end
def uptoSmall : (H : Type) → List (DataW H) → Bool := fun _ ds => decide (uptoBulkAll ds ≤ 1048576)
def OpenSpec.upto (s : _root_.Go.ChangeSpec) : _root_.Go.OpenSpec := { _root_.Go.OpenSpec.ofChange s with cond := some uptoSmall }

/-- 'wogglelaw10.QueueExclusion', WHERE WHAT IT READS IS OF BULK AT MOST 1048576: true; the input reads as it did. -/
def queueExclusionUptoRow : OpenClaim := { program := "ytjjnglngldfglaa", sum := "c440f557c87443969a1622097a3787148ff04a277d460c8a498ba1e6d3140c68", func := "woggle/wogglelaw10.QueueExclusion", spec := "queueExclusion", unfollowed := true, recurses := true, apart := false, narrowed := true }
def QueueExclusionUptoSaid : Prop := queueExclusionUptoRow.holds Try.pinned (OpenSpec.upto queueExclusionSpec)

/-- 'wogglelaw10.QueueOrder', WHERE WHAT IT READS IS OF BULK AT MOST 1048576: true; the input reads as it did. -/
def queueOrderUptoRow : OpenClaim := { program := "ytjjnglngldfglaa", sum := "c440f557c87443969a1622097a3787148ff04a277d460c8a498ba1e6d3140c68", func := "woggle/wogglelaw10.QueueOrder", spec := "queueOrder", unfollowed := true, recurses := true, apart := false, narrowed := true }
def QueueOrderUptoSaid : Prop := queueOrderUptoRow.holds Try.pinned (OpenSpec.upto queueOrderSpec)

/-- 'wogglelaw10.QueueProgress', WHERE WHAT IT READS IS OF BULK AT MOST 1048576: true; the input reads as it did. -/
def queueProgressUptoRow : OpenClaim := { program := "ytjjnglngldfglaa", sum := "c440f557c87443969a1622097a3787148ff04a277d460c8a498ba1e6d3140c68", func := "woggle/wogglelaw10.QueueProgress", spec := "queueProgress", unfollowed := true, recurses := true, apart := false, narrowed := true }
def QueueProgressUptoSaid : Prop := queueProgressUptoRow.holds Try.pinned (OpenSpec.upto queueProgressSpec)

/-- 'wogglelaw10.QueueNumbers', WHERE WHAT IT READS IS OF BULK AT MOST 1048576: true; the input reads as it did. -/
def queueNumbersUptoRow : OpenClaim := { program := "ytjjnglngldfglaa", sum := "c440f557c87443969a1622097a3787148ff04a277d460c8a498ba1e6d3140c68", func := "woggle/wogglelaw10.QueueNumbers", spec := "queueNumbers", unfollowed := true, recurses := true, apart := false, narrowed := true }
def QueueNumbersUptoSaid : Prop := queueNumbersUptoRow.holds Try.pinned (OpenSpec.upto queueNumbersSpec)

/-- 'wogglelaw10.QueueAlone', WHERE WHAT IT READS IS OF BULK AT MOST 1048576: true; the input reads as it did. -/
def queueAloneUptoRow : OpenClaim := { program := "ytjjnglngldfglaa", sum := "c440f557c87443969a1622097a3787148ff04a277d460c8a498ba1e6d3140c68", func := "woggle/wogglelaw10.QueueAlone", spec := "queueAlone", unfollowed := true, recurses := true, apart := false, narrowed := true }
def QueueAloneUptoSaid : Prop := queueAloneUptoRow.holds Try.pinned (OpenSpec.upto queueAloneSpec)

/-- 'wogglelaw10.QueueNews', WHERE WHAT IT READS IS OF BULK AT MOST 1048576: true; the input reads as it did. -/
def queueNewsUptoRow : OpenClaim := { program := "ytjjnglngldfglaa", sum := "c440f557c87443969a1622097a3787148ff04a277d460c8a498ba1e6d3140c68", func := "woggle/wogglelaw10.QueueNews", spec := "queueNews", unfollowed := true, recurses := true, apart := false, narrowed := true }
def QueueNewsUptoSaid : Prop := queueNewsUptoRow.holds Try.pinned (OpenSpec.upto queueNewsSpec)

/-- 'wogglelaw10.QueuePlays', WHERE WHAT IT READS IS OF BULK AT MOST 1048576: true; the input reads as it did. -/
def queuePlaysUptoRow : OpenClaim := { program := "ytjjnglngldfglaa", sum := "c440f557c87443969a1622097a3787148ff04a277d460c8a498ba1e6d3140c68", func := "woggle/wogglelaw10.QueuePlays", spec := "queuePlays", unfollowed := true, recurses := true, apart := false, narrowed := true }
def QueuePlaysUptoSaid : Prop := queuePlaysUptoRow.holds Try.pinned (OpenSpec.upto queuePlaysSpec)

/-- 'wogglelaw10.QueueSame', WHERE WHAT IT READS IS OF BULK AT MOST 1048576: true; the input reads as it did. -/
def queueSameUptoRow : OpenClaim := { program := "ytjjnglngldfglaa", sum := "c440f557c87443969a1622097a3787148ff04a277d460c8a498ba1e6d3140c68", func := "woggle/wogglelaw10.QueueSame", spec := "queueSame", unfollowed := true, recurses := true, apart := false, narrowed := true }
def QueueSameUptoSaid : Prop := queueSameUptoRow.holds Try.pinned (OpenSpec.upto queueSameSpec)

/-- 'wogglelaw10.QueueNobody', WHERE WHAT IT READS IS OF BULK AT MOST 1048576: true; the input reads as it did. -/
def queueNobodyUptoRow : OpenClaim := { program := "ytjjnglngldfglaa", sum := "c440f557c87443969a1622097a3787148ff04a277d460c8a498ba1e6d3140c68", func := "woggle/wogglelaw10.QueueNobody", spec := "queueNobody", unfollowed := true, recurses := true, apart := false, narrowed := true }
def QueueNobodyUptoSaid : Prop := queueNobodyUptoRow.holds Try.pinned (OpenSpec.upto queueNobodySpec)

/-- 'wogglelaw10.QueueClashes', WHERE WHAT IT READS IS OF BULK AT MOST 1048576: true; the input reads as it did. -/
def queueClashesUptoRow : OpenClaim := { program := "ytjjnglngldfglaa", sum := "c440f557c87443969a1622097a3787148ff04a277d460c8a498ba1e6d3140c68", func := "woggle/wogglelaw10.QueueClashes", spec := "queueClashes", unfollowed := true, recurses := true, apart := false, narrowed := true }
def QueueClashesUptoSaid : Prop := queueClashesUptoRow.holds Try.pinned (OpenSpec.upto queueClashesSpec)

end Rows
end Go.Proofs.Ytjjnglngldfglaa
