/-
  No cell of these rows narrows 'for every input' (looked for: loops, veiled, ifaces, maps, wideKeys, modest, calm, conditions, laid).
  DERIVED. THE GIVEN ROWS OF THIS SEAT. 6 by the template 'for every input the law returns true; each argument reads behind the call as it read before'; 0 by the template 'total and deterministic' (their statements: YtnidcoooenhebaaTotals.lean).
  GIVEN WITH THE SEED: the statements are not yours to turn. If you find one false, say at which input.
  Laid BY PROGRAM, IN A SANDBOX (cutbox-rows.mjs): the forced cells as the released guide's own fill.sh prints them over the translation 9f0372530aaa9132… (all of the seat's roots in one cut). By AI agents, Wed Nov 11 2026. No macro, syntax, notation, axiom, sorry.
-/
import Derived.Test.YtnidcoooenhebaaChecked
import GoSem.Claim
import GoSem.ClaimJoined
import GoSem.ClaimMapViews
import Derived.JoinedTies
import Derived.KernelRfl
namespace Go.Proofs.Ytnidcoooenhebaa
/- THE CELL 'sum', in the pinned program and in every row, IS THE sha256 OF THE DUMP (.gsa) THAT YtnidcoooenhebaaProg.lean LOADS. Nothing in Lean hashes anything: it is a label: what it is worth is what the hold of that sum in a sandbox is worth. -/
noncomputable def Try.pinned : Pinned := { name := "ytnidcoooenhebaa", sum := "9f0372530aaa913243eb581b83c76b0ff7b47667fc8e957e50eef5061c5717c4", checked := Try.checked }
namespace Rows
def none {H : Type} : Left H := { results := [], args := [] }

/-- 'pendulumlaw19.FixNext': WHATEVER THE INPUT: true; the input reads as it did. -/
def fixNextSpec : ChangeSpec := { name := "fixNext", fn := fun _ => fun
  | [d1, d2, d3, d4] => { results := [.lit (.bool true)], args := [d1, d2, d3, d4] }
  | _ => none }
def fixNextRow : OpenClaim := { program := "ytnidcoooenhebaa", sum := "9f0372530aaa913243eb581b83c76b0ff7b47667fc8e957e50eef5061c5717c4", func := "pendulum/pendulumlaw19.FixNext", spec := "fixNext", unfollowed := true, recurses := true, apart := false }
def FixNextSaid : Prop := fixNextRow.holds Try.pinned (OpenSpec.ofChange fixNextSpec)

/-- ITS FALSE NEIGHBOUR: 'it returns false'. Refute it at one input. -/
def fixNextWrong : ChangeSpec := { name := "fixNext", fn := fun _ => fun
  | [d1, d2, d3, d4] => { results := [.lit (.bool false)], args := [d1, d2, d3, d4] }
  | _ => none }
def FixNextWrongFalsely : Prop := fixNextRow.holds Try.pinned (OpenSpec.ofChange fixNextWrong)

/-- 'pendulumlaw19.FixResponses': WHATEVER THE INPUT: true; the input reads as it did. -/
def fixResponsesSpec : ChangeSpec := { name := "fixResponses", fn := fun _ => fun
  | [d1, d2, d3] => { results := [.lit (.bool true)], args := [d1, d2, d3] }
  | _ => none }
def fixResponsesRow : OpenClaim := { program := "ytnidcoooenhebaa", sum := "9f0372530aaa913243eb581b83c76b0ff7b47667fc8e957e50eef5061c5717c4", func := "pendulum/pendulumlaw19.FixResponses", spec := "fixResponses", unfollowed := true, recurses := true, apart := false }
def FixResponsesSaid : Prop := fixResponsesRow.holds Try.pinned (OpenSpec.ofChange fixResponsesSpec)

/-- ITS FALSE NEIGHBOUR: 'it returns false'. Refute it at one input. -/
def fixResponsesWrong : ChangeSpec := { name := "fixResponses", fn := fun _ => fun
  | [d1, d2, d3] => { results := [.lit (.bool false)], args := [d1, d2, d3] }
  | _ => none }
def FixResponsesWrongFalsely : Prop := fixResponsesRow.holds Try.pinned (OpenSpec.ofChange fixResponsesWrong)

/-- 'pendulumlaw19.FixLeast': WHATEVER THE INPUT: true; the input reads as it did. -/
def fixLeastSpec : ChangeSpec := { name := "fixLeast", fn := fun _ => fun
  | [d1, d2, d3, d4] => { results := [.lit (.bool true)], args := [d1, d2, d3, d4] }
  | _ => none }
def fixLeastRow : OpenClaim := { program := "ytnidcoooenhebaa", sum := "9f0372530aaa913243eb581b83c76b0ff7b47667fc8e957e50eef5061c5717c4", func := "pendulum/pendulumlaw19.FixLeast", spec := "fixLeast", unfollowed := true, recurses := true, apart := false }
def FixLeastSaid : Prop := fixLeastRow.holds Try.pinned (OpenSpec.ofChange fixLeastSpec)

/-- ITS FALSE NEIGHBOUR: 'it returns false'. Refute it at one input. -/
def fixLeastWrong : ChangeSpec := { name := "fixLeast", fn := fun _ => fun
  | [d1, d2, d3, d4] => { results := [.lit (.bool false)], args := [d1, d2, d3, d4] }
  | _ => none }
def FixLeastWrongFalsely : Prop := fixLeastRow.holds Try.pinned (OpenSpec.ofChange fixLeastWrong)

/-- 'pendulumlaw19.FixMonotone': WHATEVER THE INPUT: true; the input reads as it did. -/
def fixMonotoneSpec : ChangeSpec := { name := "fixMonotone", fn := fun _ => fun
  | [d1, d2, d3, d4, d5] => { results := [.lit (.bool true)], args := [d1, d2, d3, d4, d5] }
  | _ => none }
def fixMonotoneRow : OpenClaim := { program := "ytnidcoooenhebaa", sum := "9f0372530aaa913243eb581b83c76b0ff7b47667fc8e957e50eef5061c5717c4", func := "pendulum/pendulumlaw19.FixMonotone", spec := "fixMonotone", unfollowed := true, recurses := true, apart := false }
def FixMonotoneSaid : Prop := fixMonotoneRow.holds Try.pinned (OpenSpec.ofChange fixMonotoneSpec)

/-- ITS FALSE NEIGHBOUR: 'it returns false'. Refute it at one input. -/
def fixMonotoneWrong : ChangeSpec := { name := "fixMonotone", fn := fun _ => fun
  | [d1, d2, d3, d4, d5] => { results := [.lit (.bool false)], args := [d1, d2, d3, d4, d5] }
  | _ => none }
def FixMonotoneWrongFalsely : Prop := fixMonotoneRow.holds Try.pinned (OpenSpec.ofChange fixMonotoneWrong)

/-- 'pendulumlaw19.FixAlone': WHATEVER THE INPUT: true; the input reads as it did. -/
def fixAloneSpec : ChangeSpec := { name := "fixAlone", fn := fun _ => fun
  | [d1, d2] => { results := [.lit (.bool true)], args := [d1, d2] }
  | _ => none }
def fixAloneRow : OpenClaim := { program := "ytnidcoooenhebaa", sum := "9f0372530aaa913243eb581b83c76b0ff7b47667fc8e957e50eef5061c5717c4", func := "pendulum/pendulumlaw19.FixAlone", spec := "fixAlone", unfollowed := true, recurses := true, apart := false }
def FixAloneSaid : Prop := fixAloneRow.holds Try.pinned (OpenSpec.ofChange fixAloneSpec)

/-- ITS FALSE NEIGHBOUR: 'it returns false'. Refute it at one input. -/
def fixAloneWrong : ChangeSpec := { name := "fixAlone", fn := fun _ => fun
  | [d1, d2] => { results := [.lit (.bool false)], args := [d1, d2] }
  | _ => none }
def FixAloneWrongFalsely : Prop := fixAloneRow.holds Try.pinned (OpenSpec.ofChange fixAloneWrong)

/-- 'pendulumlaw19.FixBelow': WHATEVER THE INPUT: true; the input reads as it did. -/
def fixBelowSpec : ChangeSpec := { name := "fixBelow", fn := fun _ => fun
  | [d1, d2, d3] => { results := [.lit (.bool true)], args := [d1, d2, d3] }
  | _ => none }
def fixBelowRow : OpenClaim := { program := "ytnidcoooenhebaa", sum := "9f0372530aaa913243eb581b83c76b0ff7b47667fc8e957e50eef5061c5717c4", func := "pendulum/pendulumlaw19.FixBelow", spec := "fixBelow", unfollowed := true, recurses := true, apart := false }
def FixBelowSaid : Prop := fixBelowRow.holds Try.pinned (OpenSpec.ofChange fixBelowSpec)

/-- ITS FALSE NEIGHBOUR: 'it returns false'. Refute it at one input. -/
def fixBelowWrong : ChangeSpec := { name := "fixBelow", fn := fun _ => fun
  | [d1, d2, d3] => { results := [.lit (.bool false)], args := [d1, d2, d3] }
  | _ => none }
def FixBelowWrongFalsely : Prop := fixBelowRow.holds Try.pinned (OpenSpec.ofChange fixBelowWrong)

/- THE SECOND FORM. 'bulk': how many values and letters a reading holds, each counted each time it is reached (what is shared counts as often as it is met; a slice's spare places count too). A statement '..UptoSaid' is the law's where the arguments, and the package variables that the reading takes, are together of bulk at most 1048576: NARROWER than '..Said'. Prove '..Said' where nothing that the law and all that it calls make is longer than what came in: it says more and counts as full. Else prove '..UptoSaid'. A law counts once. -/
mutual
def uptoBulk {H : Type} : DataW H → Nat
  | .lit (.string bytes) => bytes.length + 1
  | .lit _ => 1
  | .nil => 1
  | .ptr d => uptoBulk d + 1
  | .slice elems spare => uptoBulkAll elems + uptoBulkAll spare + 1
  | .agg parts => uptoBulkAll parts + 1
  | .iface _ d => uptoBulk d + 1
  | .map entries => uptoBulkEntries entries + 1
  | .held _ => 1
def uptoBulkAll {H : Type} : List (DataW H) → Nat
  | [] => 0
  | d :: r => uptoBulk d + uptoBulkAll r
def uptoBulkEntries {H : Type} : List (Lit × DataW H) → Nat
  | [] => 0
  | x :: r => uptoBulkEntry x + uptoBulkEntries r
def uptoBulkEntry {H : Type} : Lit × DataW H → Nat
  | (.string bytes, d) => bytes.length + uptoBulk d + 1
  | (_, d) => uptoBulk d + 1
 end
def uptoSmall : (H : Type) → List (DataW H) → Bool := fun _ ds => decide (uptoBulkAll ds ≤ 1048576)
def OpenSpec.upto (s : _root_.Go.ChangeSpec) : _root_.Go.OpenSpec := { _root_.Go.OpenSpec.ofChange s with cond := some uptoSmall }

/-- 'pendulumlaw19.FixNext', WHERE WHAT IT READS IS OF BULK AT MOST 1048576: true; the input reads as it did. -/
def fixNextUptoRow : OpenClaim := { program := "ytnidcoooenhebaa", sum := "9f0372530aaa913243eb581b83c76b0ff7b47667fc8e957e50eef5061c5717c4", func := "pendulum/pendulumlaw19.FixNext", spec := "fixNext", unfollowed := true, recurses := true, apart := false, narrowed := true }
def FixNextUptoSaid : Prop := fixNextUptoRow.holds Try.pinned (OpenSpec.upto fixNextSpec)

/-- 'pendulumlaw19.FixResponses', WHERE WHAT IT READS IS OF BULK AT MOST 1048576: true; the input reads as it did. -/
def fixResponsesUptoRow : OpenClaim := { program := "ytnidcoooenhebaa", sum := "9f0372530aaa913243eb581b83c76b0ff7b47667fc8e957e50eef5061c5717c4", func := "pendulum/pendulumlaw19.FixResponses", spec := "fixResponses", unfollowed := true, recurses := true, apart := false, narrowed := true }
def FixResponsesUptoSaid : Prop := fixResponsesUptoRow.holds Try.pinned (OpenSpec.upto fixResponsesSpec)

/-- 'pendulumlaw19.FixLeast', WHERE WHAT IT READS IS OF BULK AT MOST 1048576: true; the input reads as it did. -/
def fixLeastUptoRow : OpenClaim := { program := "ytnidcoooenhebaa", sum := "9f0372530aaa913243eb581b83c76b0ff7b47667fc8e957e50eef5061c5717c4", func := "pendulum/pendulumlaw19.FixLeast", spec := "fixLeast", unfollowed := true, recurses := true, apart := false, narrowed := true }
def FixLeastUptoSaid : Prop := fixLeastUptoRow.holds Try.pinned (OpenSpec.upto fixLeastSpec)

/-- 'pendulumlaw19.FixMonotone', WHERE WHAT IT READS IS OF BULK AT MOST 1048576: true; the input reads as it did. -/
def fixMonotoneUptoRow : OpenClaim := { program := "ytnidcoooenhebaa", sum := "9f0372530aaa913243eb581b83c76b0ff7b47667fc8e957e50eef5061c5717c4", func := "pendulum/pendulumlaw19.FixMonotone", spec := "fixMonotone", unfollowed := true, recurses := true, apart := false, narrowed := true }
def FixMonotoneUptoSaid : Prop := fixMonotoneUptoRow.holds Try.pinned (OpenSpec.upto fixMonotoneSpec)

/-- 'pendulumlaw19.FixAlone', WHERE WHAT IT READS IS OF BULK AT MOST 1048576: true; the input reads as it did. -/
def fixAloneUptoRow : OpenClaim := { program := "ytnidcoooenhebaa", sum := "9f0372530aaa913243eb581b83c76b0ff7b47667fc8e957e50eef5061c5717c4", func := "pendulum/pendulumlaw19.FixAlone", spec := "fixAlone", unfollowed := true, recurses := true, apart := false, narrowed := true }
def FixAloneUptoSaid : Prop := fixAloneUptoRow.holds Try.pinned (OpenSpec.upto fixAloneSpec)

/-- 'pendulumlaw19.FixBelow', WHERE WHAT IT READS IS OF BULK AT MOST 1048576: true; the input reads as it did. -/
def fixBelowUptoRow : OpenClaim := { program := "ytnidcoooenhebaa", sum := "9f0372530aaa913243eb581b83c76b0ff7b47667fc8e957e50eef5061c5717c4", func := "pendulum/pendulumlaw19.FixBelow", spec := "fixBelow", unfollowed := true, recurses := true, apart := false, narrowed := true }
def FixBelowUptoSaid : Prop := fixBelowUptoRow.holds Try.pinned (OpenSpec.upto fixBelowSpec)

end Rows
end Go.Proofs.Ytnidcoooenhebaa
