/-
  No cell of these rows narrows 'for every input' (looked for: loops, veiled, ifaces, maps, wideKeys, modest, calm, conditions, laid).
  DERIVED. THE GIVEN ROWS OF THIS SEAT. 5 by the template 'for every input the law returns true; each argument reads behind the call as it read before'; 0 by the template 'total and deterministic' (their statements: YtilegeffanijcaaTotals.lean).
  GIVEN WITH THE SEED: the statements are not yours to turn. If you find one false, say at which input.
  Laid BY PROGRAM, IN A SANDBOX (cutbox-rows.mjs): the forced cells as the released guide's own fill.sh prints them over the translation e3aa46493eb71604… (all of the seat's roots in one cut). By AI agents, Wed Nov 11 2026. No macro, syntax, notation, axiom, sorry.
-/
import Derived.Test.YtilegeffanijcaaChecked
import GoSem.Claim
import GoSem.ClaimJoined
import GoSem.ClaimMapViews
import Derived.JoinedTies
import Derived.KernelRfl
namespace Go.Proofs.Ytilegeffanijcaa
/- THE CELL 'sum', in the pinned program and in every row, IS THE sha256 OF THE DUMP (.gsa) THAT YtilegeffanijcaaProg.lean LOADS. Nothing in Lean hashes anything: it is a label: what it is worth is what the hold of that sum in a sandbox is worth. -/
noncomputable def Try.pinned : Pinned := { name := "ytilegeffanijcaa", sum := "e3aa46493eb716041ad6c62c3b83c3eb5dd8db16b4dab5632bad76bddbeebda3", checked := Try.checked }
namespace Rows
def none {H : Type} : Left H := { results := [], args := [] }

/-- 'pendulumlaw12.WindowFails': WHATEVER THE INPUT: true; the input reads as it did. -/
def windowFailsSpec : ChangeSpec := { name := "windowFails", fn := fun _ => fun
  | [d1, d2, d3] => { results := [.lit (.bool true)], args := [d1, d2, d3] }
  | _ => none }
def windowFailsRow : OpenClaim := { program := "ytilegeffanijcaa", sum := "e3aa46493eb716041ad6c62c3b83c3eb5dd8db16b4dab5632bad76bddbeebda3", func := "pendulum/pendulumlaw12.WindowFails", spec := "windowFails", apart := false }
def WindowFailsSaid : Prop := windowFailsRow.holds Try.pinned (OpenSpec.ofChange windowFailsSpec)

/-- ITS FALSE NEIGHBOUR: 'it returns false'. Refute it at one input. -/
def windowFailsWrong : ChangeSpec := { name := "windowFails", fn := fun _ => fun
  | [d1, d2, d3] => { results := [.lit (.bool false)], args := [d1, d2, d3] }
  | _ => none }
def WindowFailsWrongFalsely : Prop := windowFailsRow.holds Try.pinned (OpenSpec.ofChange windowFailsWrong)

/-- 'pendulumlaw12.WindowSteps': WHATEVER THE INPUT: true; the input reads as it did. -/
def windowStepsSpec : ChangeSpec := { name := "windowSteps", fn := fun _ => fun
  | [d1, d2, d3] => { results := [.lit (.bool true)], args := [d1, d2, d3] }
  | _ => none }
def windowStepsRow : OpenClaim := { program := "ytilegeffanijcaa", sum := "e3aa46493eb716041ad6c62c3b83c3eb5dd8db16b4dab5632bad76bddbeebda3", func := "pendulum/pendulumlaw12.WindowSteps", spec := "windowSteps", apart := false }
def WindowStepsSaid : Prop := windowStepsRow.holds Try.pinned (OpenSpec.ofChange windowStepsSpec)

/-- ITS FALSE NEIGHBOUR: 'it returns false'. Refute it at one input. -/
def windowStepsWrong : ChangeSpec := { name := "windowSteps", fn := fun _ => fun
  | [d1, d2, d3] => { results := [.lit (.bool false)], args := [d1, d2, d3] }
  | _ => none }
def WindowStepsWrongFalsely : Prop := windowStepsRow.holds Try.pinned (OpenSpec.ofChange windowStepsWrong)

/-- 'pendulumlaw12.WindowKeeps': WHATEVER THE INPUT: true; the input reads as it did. -/
def windowKeepsSpec : ChangeSpec := { name := "windowKeeps", fn := fun _ => fun
  | [d1, d2, d3] => { results := [.lit (.bool true)], args := [d1, d2, d3] }
  | _ => none }
def windowKeepsRow : OpenClaim := { program := "ytilegeffanijcaa", sum := "e3aa46493eb716041ad6c62c3b83c3eb5dd8db16b4dab5632bad76bddbeebda3", func := "pendulum/pendulumlaw12.WindowKeeps", spec := "windowKeeps", apart := false }
def WindowKeepsSaid : Prop := windowKeepsRow.holds Try.pinned (OpenSpec.ofChange windowKeepsSpec)

/-- ITS FALSE NEIGHBOUR: 'it returns false'. Refute it at one input. -/
def windowKeepsWrong : ChangeSpec := { name := "windowKeeps", fn := fun _ => fun
  | [d1, d2, d3] => { results := [.lit (.bool false)], args := [d1, d2, d3] }
  | _ => none }
def WindowKeepsWrongFalsely : Prop := windowKeepsRow.holds Try.pinned (OpenSpec.ofChange windowKeepsWrong)

/-- 'pendulumlaw12.WindowLast': WHATEVER THE INPUT: true; the input reads as it did. -/
def windowLastSpec : ChangeSpec := { name := "windowLast", fn := fun _ => fun
  | [d1, d2, d3, d4, d5] => { results := [.lit (.bool true)], args := [d1, d2, d3, d4, d5] }
  | _ => none }
def windowLastRow : OpenClaim := { program := "ytilegeffanijcaa", sum := "e3aa46493eb716041ad6c62c3b83c3eb5dd8db16b4dab5632bad76bddbeebda3", func := "pendulum/pendulumlaw12.WindowLast", spec := "windowLast", apart := false }
def WindowLastSaid : Prop := windowLastRow.holds Try.pinned (OpenSpec.ofChange windowLastSpec)

/-- ITS FALSE NEIGHBOUR: 'it returns false'. Refute it at one input. -/
def windowLastWrong : ChangeSpec := { name := "windowLast", fn := fun _ => fun
  | [d1, d2, d3, d4, d5] => { results := [.lit (.bool false)], args := [d1, d2, d3, d4, d5] }
  | _ => none }
def WindowLastWrongFalsely : Prop := windowLastRow.holds Try.pinned (OpenSpec.ofChange windowLastWrong)

/-- 'pendulumlaw12.WindowMore': WHATEVER THE INPUT: true; the input reads as it did. -/
def windowMoreSpec : ChangeSpec := { name := "windowMore", fn := fun _ => fun
  | [d1, d2, d3] => { results := [.lit (.bool true)], args := [d1, d2, d3] }
  | _ => none }
def windowMoreRow : OpenClaim := { program := "ytilegeffanijcaa", sum := "e3aa46493eb716041ad6c62c3b83c3eb5dd8db16b4dab5632bad76bddbeebda3", func := "pendulum/pendulumlaw12.WindowMore", spec := "windowMore", apart := false }
def WindowMoreSaid : Prop := windowMoreRow.holds Try.pinned (OpenSpec.ofChange windowMoreSpec)

/-- ITS FALSE NEIGHBOUR: 'it returns false'. Refute it at one input. -/
def windowMoreWrong : ChangeSpec := { name := "windowMore", fn := fun _ => fun
  | [d1, d2, d3] => { results := [.lit (.bool false)], args := [d1, d2, d3] }
  | _ => none }
def WindowMoreWrongFalsely : Prop := windowMoreRow.holds Try.pinned (OpenSpec.ofChange windowMoreWrong)

/- THE SECOND FORM. 'bulk': how many values and letters a reading holds, each counted each time it is reached (what is shared counts as often as it is met; a slice's spare places count too). A statement '..UptoSaid' is the law's where the arguments, and the package variables that the reading takes, are together of bulk at most 1048576: NARROWER than '..Said'. Prove '..Said' where nothing that the law and all that it calls make is longer than what came in: it says more and counts as full. Else prove '..UptoSaid'. A law counts once. -/
mutual
def uptoBulk {H : Type} : DataW H → Nat
  | .lit (.string bytes) => bytes.length + 1
  | .lit _ => 1
  | .nil => 1
  | .ptr d => uptoBulk d + 1
  | .slice elems spare => uptoBulkAll elems + uptoBulkAll spare + 1
  | .agg parts => uptoBulkAll parts + 1
  | .iface _ d => uptoBulk d + 1
  | .map entries => uptoBulkEntries entries + 1
  | .held _ => 1
def uptoBulkAll {H : Type} : List (DataW H) → Nat
  | [] => 0
  | d :: r => uptoBulk d + uptoBulkAll r
def uptoBulkEntries {H : Type} : List (Lit × DataW H) → Nat
  | [] => 0
  | x :: r => uptoBulkEntry x + uptoBulkEntries r
def uptoBulkEntry {H : Type} : Lit × DataW H → Nat
  | (.string bytes, d) => bytes.length + uptoBulk d + 1
  | (_, d) => uptoBulk d + 1
 end
def uptoSmall : (H : Type) → List (DataW H) → Bool := fun _ ds => decide (uptoBulkAll ds ≤ 1048576)
def OpenSpec.upto (s : _root_.Go.ChangeSpec) : _root_.Go.OpenSpec := { _root_.Go.OpenSpec.ofChange s with cond := some uptoSmall }

/-- 'pendulumlaw12.WindowFails', WHERE WHAT IT READS IS OF BULK AT MOST 1048576: true; the input reads as it did. -/
def windowFailsUptoRow : OpenClaim := { program := "ytilegeffanijcaa", sum := "e3aa46493eb716041ad6c62c3b83c3eb5dd8db16b4dab5632bad76bddbeebda3", func := "pendulum/pendulumlaw12.WindowFails", spec := "windowFails", apart := false, narrowed := true }
def WindowFailsUptoSaid : Prop := windowFailsUptoRow.holds Try.pinned (OpenSpec.upto windowFailsSpec)

/-- 'pendulumlaw12.WindowSteps', WHERE WHAT IT READS IS OF BULK AT MOST 1048576: true; the input reads as it did. -/
def windowStepsUptoRow : OpenClaim := { program := "ytilegeffanijcaa", sum := "e3aa46493eb716041ad6c62c3b83c3eb5dd8db16b4dab5632bad76bddbeebda3", func := "pendulum/pendulumlaw12.WindowSteps", spec := "windowSteps", apart := false, narrowed := true }
def WindowStepsUptoSaid : Prop := windowStepsUptoRow.holds Try.pinned (OpenSpec.upto windowStepsSpec)

/-- 'pendulumlaw12.WindowKeeps', WHERE WHAT IT READS IS OF BULK AT MOST 1048576: true; the input reads as it did. -/
def windowKeepsUptoRow : OpenClaim := { program := "ytilegeffanijcaa", sum := "e3aa46493eb716041ad6c62c3b83c3eb5dd8db16b4dab5632bad76bddbeebda3", func := "pendulum/pendulumlaw12.WindowKeeps", spec := "windowKeeps", apart := false, narrowed := true }
def WindowKeepsUptoSaid : Prop := windowKeepsUptoRow.holds Try.pinned (OpenSpec.upto windowKeepsSpec)

/-- 'pendulumlaw12.WindowLast', WHERE WHAT IT READS IS OF BULK AT MOST 1048576: true; the input reads as it did. -/
def windowLastUptoRow : OpenClaim := { program := "ytilegeffanijcaa", sum := "e3aa46493eb716041ad6c62c3b83c3eb5dd8db16b4dab5632bad76bddbeebda3", func := "pendulum/pendulumlaw12.WindowLast", spec := "windowLast", apart := false, narrowed := true }
def WindowLastUptoSaid : Prop := windowLastUptoRow.holds Try.pinned (OpenSpec.upto windowLastSpec)

/-- 'pendulumlaw12.WindowMore', WHERE WHAT IT READS IS OF BULK AT MOST 1048576: true; the input reads as it did. -/
def windowMoreUptoRow : OpenClaim := { program := "ytilegeffanijcaa", sum := "e3aa46493eb716041ad6c62c3b83c3eb5dd8db16b4dab5632bad76bddbeebda3", func := "pendulum/pendulumlaw12.WindowMore", spec := "windowMore", apart := false, narrowed := true }
def WindowMoreUptoSaid : Prop := windowMoreUptoRow.holds Try.pinned (OpenSpec.upto windowMoreSpec)

end Rows
end Go.Proofs.Ytilegeffanijcaa
