/-
  No cell of these rows narrows 'for every input' (looked for: loops, veiled, ifaces, maps, wideKeys, modest, calm, conditions, laid).
  DERIVED. THE GIVEN ROWS OF THIS SEAT. 6 by the template 'for every input the law returns true; each argument reads behind the call as it read before'; 0 by the template 'total and deterministic' (their statements: YtmfkhfnakjehkaaTotals.lean).
  GIVEN WITH THE SEED: the statements are not yours to turn. If you find one false, say at which input.
  Laid BY PROGRAM, IN A SANDBOX (cutbox-rows.mjs): the forced cells as the released guide's own fill.sh prints them over the translation f7d413385c3afd78… (all of the seat's roots in one cut). By AI agents, Wed Nov 11 2026. No macro, syntax, notation, axiom, sorry.
-/
import Derived.Test.YtmfkhfnakjehkaaChecked
import GoSem.Claim
import GoSem.ClaimJoined
import GoSem.ClaimMapViews
import Derived.JoinedTies
import Derived.KernelRfl
namespace Go.Proofs.Ytmfkhfnakjehkaa
/- THE CELL 'sum', in the pinned program and in every row, IS THE sha256 OF THE DUMP (.gsa) THAT YtmfkhfnakjehkaaProg.lean LOADS. Nothing in Lean hashes anything: it is a label: what it is worth is what the hold of that sum in a sandbox is worth. -/
noncomputable def Try.pinned : Pinned := { name := "ytmfkhfnakjehkaa", sum := "f7d413385c3afd78c89ebaf72487d0f89357318cc50f03b6556cbd584f1e5993", checked := Try.checked }
namespace Rows
def none {H : Type} : Left H := { results := [], args := [] }

/-- 'pendulumlaw01.TickSums': WHATEVER THE INPUT: true; the input reads as it did. -/
def tickSumsSpec : ChangeSpec := { name := "tickSums", fn := fun _ => fun
  | [d1, d2] => { results := [.lit (.bool true)], args := [d1, d2] }
  | _ => none }
def tickSumsRow : OpenClaim := { program := "ytmfkhfnakjehkaa", sum := "f7d413385c3afd78c89ebaf72487d0f89357318cc50f03b6556cbd584f1e5993", func := "pendulum/pendulumlaw01.TickSums", spec := "tickSums", apart := false }
def TickSumsSaid : Prop := tickSumsRow.holds Try.pinned (OpenSpec.ofChange tickSumsSpec)

/-- ITS FALSE NEIGHBOUR: 'it returns false'. Refute it at one input. -/
def tickSumsWrong : ChangeSpec := { name := "tickSums", fn := fun _ => fun
  | [d1, d2] => { results := [.lit (.bool false)], args := [d1, d2] }
  | _ => none }
def TickSumsWrongFalsely : Prop := tickSumsRow.holds Try.pinned (OpenSpec.ofChange tickSumsWrong)

/-- 'pendulumlaw01.TickAll': WHATEVER THE INPUT: true; the input reads as it did. -/
def tickAllSpec : ChangeSpec := { name := "tickAll", fn := fun _ => fun
  | [d] => { results := [.lit (.bool true)], args := [d] }
  | _ => none }
def tickAllRow : OpenClaim := { program := "ytmfkhfnakjehkaa", sum := "f7d413385c3afd78c89ebaf72487d0f89357318cc50f03b6556cbd584f1e5993", func := "pendulum/pendulumlaw01.TickAll", spec := "tickAll", apart := false }
def TickAllSaid : Prop := tickAllRow.holds Try.pinned (OpenSpec.ofChange tickAllSpec)

/-- ITS FALSE NEIGHBOUR: 'it returns false'. Refute it at one input. -/
def tickAllWrong : ChangeSpec := { name := "tickAll", fn := fun _ => fun
  | [d] => { results := [.lit (.bool false)], args := [d] }
  | _ => none }
def TickAllWrongFalsely : Prop := tickAllRow.holds Try.pinned (OpenSpec.ofChange tickAllWrong)

/-- 'pendulumlaw01.TickCommon': WHATEVER THE INPUT: true; the input reads as it did. -/
def tickCommonSpec : ChangeSpec := { name := "tickCommon", fn := fun _ => fun
  | [d1, d2, d3] => { results := [.lit (.bool true)], args := [d1, d2, d3] }
  | _ => none }
def tickCommonRow : OpenClaim := { program := "ytmfkhfnakjehkaa", sum := "f7d413385c3afd78c89ebaf72487d0f89357318cc50f03b6556cbd584f1e5993", func := "pendulum/pendulumlaw01.TickCommon", spec := "tickCommon", apart := false }
def TickCommonSaid : Prop := tickCommonRow.holds Try.pinned (OpenSpec.ofChange tickCommonSpec)

/-- ITS FALSE NEIGHBOUR: 'it returns false'. Refute it at one input. -/
def tickCommonWrong : ChangeSpec := { name := "tickCommon", fn := fun _ => fun
  | [d1, d2, d3] => { results := [.lit (.bool false)], args := [d1, d2, d3] }
  | _ => none }
def TickCommonWrongFalsely : Prop := tickCommonRow.holds Try.pinned (OpenSpec.ofChange tickCommonWrong)

/-- 'pendulumlaw01.TickRules': WHATEVER THE INPUT: true; the input reads as it did. -/
def tickRulesSpec : ChangeSpec := { name := "tickRules", fn := fun _ => fun
  | [d1, d2, d3] => { results := [.lit (.bool true)], args := [d1, d2, d3] }
  | _ => none }
def tickRulesRow : OpenClaim := { program := "ytmfkhfnakjehkaa", sum := "f7d413385c3afd78c89ebaf72487d0f89357318cc50f03b6556cbd584f1e5993", func := "pendulum/pendulumlaw01.TickRules", spec := "tickRules", apart := false }
def TickRulesSaid : Prop := tickRulesRow.holds Try.pinned (OpenSpec.ofChange tickRulesSpec)

/-- ITS FALSE NEIGHBOUR: 'it returns false'. Refute it at one input. -/
def tickRulesWrong : ChangeSpec := { name := "tickRules", fn := fun _ => fun
  | [d1, d2, d3] => { results := [.lit (.bool false)], args := [d1, d2, d3] }
  | _ => none }
def TickRulesWrongFalsely : Prop := tickRulesRow.holds Try.pinned (OpenSpec.ofChange tickRulesWrong)

/-- 'pendulumlaw01.TickParts': WHATEVER THE INPUT: true; the input reads as it did. -/
def tickPartsSpec : ChangeSpec := { name := "tickParts", fn := fun _ => fun
  | [d1, d2] => { results := [.lit (.bool true)], args := [d1, d2] }
  | _ => none }
def tickPartsRow : OpenClaim := { program := "ytmfkhfnakjehkaa", sum := "f7d413385c3afd78c89ebaf72487d0f89357318cc50f03b6556cbd584f1e5993", func := "pendulum/pendulumlaw01.TickParts", spec := "tickParts", apart := false }
def TickPartsSaid : Prop := tickPartsRow.holds Try.pinned (OpenSpec.ofChange tickPartsSpec)

/-- ITS FALSE NEIGHBOUR: 'it returns false'. Refute it at one input. -/
def tickPartsWrong : ChangeSpec := { name := "tickParts", fn := fun _ => fun
  | [d1, d2] => { results := [.lit (.bool false)], args := [d1, d2] }
  | _ => none }
def TickPartsWrongFalsely : Prop := tickPartsRow.holds Try.pinned (OpenSpec.ofChange tickPartsWrong)

/-- 'pendulumlaw01.TickCommons': WHATEVER THE INPUT: true; the input reads as it did. -/
def tickCommonsSpec : ChangeSpec := { name := "tickCommons", fn := fun _ => fun
  | [d1, d2] => { results := [.lit (.bool true)], args := [d1, d2] }
  | _ => none }
def tickCommonsRow : OpenClaim := { program := "ytmfkhfnakjehkaa", sum := "f7d413385c3afd78c89ebaf72487d0f89357318cc50f03b6556cbd584f1e5993", func := "pendulum/pendulumlaw01.TickCommons", spec := "tickCommons", apart := false }
def TickCommonsSaid : Prop := tickCommonsRow.holds Try.pinned (OpenSpec.ofChange tickCommonsSpec)

/-- ITS FALSE NEIGHBOUR: 'it returns false'. Refute it at one input. -/
def tickCommonsWrong : ChangeSpec := { name := "tickCommons", fn := fun _ => fun
  | [d1, d2] => { results := [.lit (.bool false)], args := [d1, d2] }
  | _ => none }
def TickCommonsWrongFalsely : Prop := tickCommonsRow.holds Try.pinned (OpenSpec.ofChange tickCommonsWrong)

/- THE SECOND FORM. 'bulk': how many values and letters a reading holds, each counted each time it is reached (what is shared counts as often as it is met; a slice's spare places count too). A statement '..UptoSaid' is the law's where the arguments, and the package variables that the reading takes, are together of bulk at most 1048576: NARROWER than '..Said'. Prove '..Said' where nothing that the law and all that it calls make is longer than what came in: it says more and counts as full. Else prove '..UptoSaid'. A law counts once. -/
mutual
def uptoBulk {H : Type} : DataW H → Nat
  | .lit (.string bytes) => bytes.length + 1
  | .lit _ => 1
  | .nil => 1
  | .ptr d => uptoBulk d + 1
  | .slice elems spare => uptoBulkAll elems + uptoBulkAll spare + 1
  | .agg parts => uptoBulkAll parts + 1
  | .iface _ d => uptoBulk d + 1
  | .map entries => uptoBulkEntries entries + 1
  | .held _ => 1
def uptoBulkAll {H : Type} : List (DataW H) → Nat
  | [] => 0
  | d :: r => uptoBulk d + uptoBulkAll r
def uptoBulkEntries {H : Type} : List (Lit × DataW H) → Nat
  | [] => 0
  | x :: r => uptoBulkEntry x + uptoBulkEntries r
def uptoBulkEntry {H : Type} : Lit × DataW H → Nat
  | (.string bytes, d) => bytes.length + uptoBulk d + 1
  | (_, d) => uptoBulk d + 1
 end
def uptoSmall : (H : Type) → List (DataW H) → Bool := fun _ ds => decide (uptoBulkAll ds ≤ 1048576)
def OpenSpec.upto (s : _root_.Go.ChangeSpec) : _root_.Go.OpenSpec := { _root_.Go.OpenSpec.ofChange s with cond := some uptoSmall }

/-- 'pendulumlaw01.TickSums', WHERE WHAT IT READS IS OF BULK AT MOST 1048576: true; the input reads as it did. -/
def tickSumsUptoRow : OpenClaim := { program := "ytmfkhfnakjehkaa", sum := "f7d413385c3afd78c89ebaf72487d0f89357318cc50f03b6556cbd584f1e5993", func := "pendulum/pendulumlaw01.TickSums", spec := "tickSums", apart := false, narrowed := true }
def TickSumsUptoSaid : Prop := tickSumsUptoRow.holds Try.pinned (OpenSpec.upto tickSumsSpec)

/-- 'pendulumlaw01.TickAll', WHERE WHAT IT READS IS OF BULK AT MOST 1048576: true; the input reads as it did. -/
def tickAllUptoRow : OpenClaim := { program := "ytmfkhfnakjehkaa", sum := "f7d413385c3afd78c89ebaf72487d0f89357318cc50f03b6556cbd584f1e5993", func := "pendulum/pendulumlaw01.TickAll", spec := "tickAll", apart := false, narrowed := true }
def TickAllUptoSaid : Prop := tickAllUptoRow.holds Try.pinned (OpenSpec.upto tickAllSpec)

/-- 'pendulumlaw01.TickCommon', WHERE WHAT IT READS IS OF BULK AT MOST 1048576: true; the input reads as it did. -/
def tickCommonUptoRow : OpenClaim := { program := "ytmfkhfnakjehkaa", sum := "f7d413385c3afd78c89ebaf72487d0f89357318cc50f03b6556cbd584f1e5993", func := "pendulum/pendulumlaw01.TickCommon", spec := "tickCommon", apart := false, narrowed := true }
def TickCommonUptoSaid : Prop := tickCommonUptoRow.holds Try.pinned (OpenSpec.upto tickCommonSpec)

/-- 'pendulumlaw01.TickRules', WHERE WHAT IT READS IS OF BULK AT MOST 1048576: true; the input reads as it did. -/
def tickRulesUptoRow : OpenClaim := { program := "ytmfkhfnakjehkaa", sum := "f7d413385c3afd78c89ebaf72487d0f89357318cc50f03b6556cbd584f1e5993", func := "pendulum/pendulumlaw01.TickRules", spec := "tickRules", apart := false, narrowed := true }
def TickRulesUptoSaid : Prop := tickRulesUptoRow.holds Try.pinned (OpenSpec.upto tickRulesSpec)

/-- 'pendulumlaw01.TickParts', WHERE WHAT IT READS IS OF BULK AT MOST 1048576: true; the input reads as it did. -/
def tickPartsUptoRow : OpenClaim := { program := "ytmfkhfnakjehkaa", sum := "f7d413385c3afd78c89ebaf72487d0f89357318cc50f03b6556cbd584f1e5993", func := "pendulum/pendulumlaw01.TickParts", spec := "tickParts", apart := false, narrowed := true }
def TickPartsUptoSaid : Prop := tickPartsUptoRow.holds Try.pinned (OpenSpec.upto tickPartsSpec)

/-- 'pendulumlaw01.TickCommons', WHERE WHAT IT READS IS OF BULK AT MOST 1048576: true; the input reads as it did. -/
def tickCommonsUptoRow : OpenClaim := { program := "ytmfkhfnakjehkaa", sum := "f7d413385c3afd78c89ebaf72487d0f89357318cc50f03b6556cbd584f1e5993", func := "pendulum/pendulumlaw01.TickCommons", spec := "tickCommons", apart := false, narrowed := true }
def TickCommonsUptoSaid : Prop := tickCommonsUptoRow.holds Try.pinned (OpenSpec.upto tickCommonsSpec)

end Rows
end Go.Proofs.Ytmfkhfnakjehkaa
