/-
  No cell of these rows narrows 'for every input' (looked for: loops, veiled, ifaces, maps, wideKeys, modest, calm, conditions, laid).
  DERIVED. THE GIVEN ROWS OF THIS SEAT. 6 by the template 'for every input the law returns true; each argument reads behind the call as it read before'; 0 by the template 'total and deterministic' (their statements: YtppmgpicommdlaaTotals.lean).
  GIVEN WITH THE SEED: the statements are not yours to turn. If you find one false, say at which input.
  Laid BY PROGRAM, IN A SANDBOX (cutbox-rows.mjs): the forced cells as the released guide's own fill.sh prints them over the translation c809a6b03f923771… (all of the seat's roots in one cut). By AI agents, Wed Nov 11 2026. No macro, syntax, notation, axiom, sorry.
-/
import Derived.Test.YtppmgpicommdlaaChecked
import GoSem.Claim
import GoSem.ClaimJoined
import GoSem.ClaimMapViews
import Derived.JoinedTies
import Derived.KernelRfl
namespace Go.Proofs.Ytppmgpicommdlaa
/- THE CELL 'sum', in the pinned program and in every row, IS THE sha256 OF THE DUMP (.gsa) THAT YtppmgpicommdlaaProg.lean LOADS. Nothing in Lean hashes anything: it is a label: what it is worth is what the hold of that sum in a sandbox is worth. -/
noncomputable def Try.pinned : Pinned := { name := "ytppmgpicommdlaa", sum := "c809a6b03f923771545bd78335f95f642568d7443a8739b04e305e9b50f40405", checked := Try.checked }
namespace Rows
def none {H : Type} : Left H := { results := [], args := [] }

/-- 'pendulumlaw18.BurstLegal': WHATEVER THE INPUT: true; the input reads as it did. -/
def burstLegalSpec : ChangeSpec := { name := "burstLegal", fn := fun _ => fun
  | [d1, d2, d3, d4, d5] => { results := [.lit (.bool true)], args := [d1, d2, d3, d4, d5] }
  | _ => none }
def burstLegalRow : OpenClaim := { program := "ytppmgpicommdlaa", sum := "c809a6b03f923771545bd78335f95f642568d7443a8739b04e305e9b50f40405", func := "pendulum/pendulumlaw18.BurstLegal", spec := "burstLegal", apart := false }
def BurstLegalSaid : Prop := burstLegalRow.holds Try.pinned (OpenSpec.ofChange burstLegalSpec)

/-- ITS FALSE NEIGHBOUR: 'it returns false'. Refute it at one input. -/
def burstLegalWrong : ChangeSpec := { name := "burstLegal", fn := fun _ => fun
  | [d1, d2, d3, d4, d5] => { results := [.lit (.bool false)], args := [d1, d2, d3, d4, d5] }
  | _ => none }
def BurstLegalWrongFalsely : Prop := burstLegalRow.holds Try.pinned (OpenSpec.ofChange burstLegalWrong)

/-- 'pendulumlaw18.BurstCounts': WHATEVER THE INPUT: true; the input reads as it did. -/
def burstCountsSpec : ChangeSpec := { name := "burstCounts", fn := fun _ => fun
  | [d1, d2, d3] => { results := [.lit (.bool true)], args := [d1, d2, d3] }
  | _ => none }
def burstCountsRow : OpenClaim := { program := "ytppmgpicommdlaa", sum := "c809a6b03f923771545bd78335f95f642568d7443a8739b04e305e9b50f40405", func := "pendulum/pendulumlaw18.BurstCounts", spec := "burstCounts", apart := false }
def BurstCountsSaid : Prop := burstCountsRow.holds Try.pinned (OpenSpec.ofChange burstCountsSpec)

/-- ITS FALSE NEIGHBOUR: 'it returns false'. Refute it at one input. -/
def burstCountsWrong : ChangeSpec := { name := "burstCounts", fn := fun _ => fun
  | [d1, d2, d3] => { results := [.lit (.bool false)], args := [d1, d2, d3] }
  | _ => none }
def BurstCountsWrongFalsely : Prop := burstCountsRow.holds Try.pinned (OpenSpec.ofChange burstCountsWrong)

/-- 'pendulumlaw18.BurstMost': WHATEVER THE INPUT: true; the input reads as it did. -/
def burstMostSpec : ChangeSpec := { name := "burstMost", fn := fun _ => fun
  | [d1, d2, d3, d4, d5, d6] => { results := [.lit (.bool true)], args := [d1, d2, d3, d4, d5, d6] }
  | _ => none }
def burstMostRow : OpenClaim := { program := "ytppmgpicommdlaa", sum := "c809a6b03f923771545bd78335f95f642568d7443a8739b04e305e9b50f40405", func := "pendulum/pendulumlaw18.BurstMost", spec := "burstMost", apart := false }
def BurstMostSaid : Prop := burstMostRow.holds Try.pinned (OpenSpec.ofChange burstMostSpec)

/-- ITS FALSE NEIGHBOUR: 'it returns false'. Refute it at one input. -/
def burstMostWrong : ChangeSpec := { name := "burstMost", fn := fun _ => fun
  | [d1, d2, d3, d4, d5, d6] => { results := [.lit (.bool false)], args := [d1, d2, d3, d4, d5, d6] }
  | _ => none }
def BurstMostWrongFalsely : Prop := burstMostRow.holds Try.pinned (OpenSpec.ofChange burstMostWrong)

/-- 'pendulumlaw18.BurstKeeps': WHATEVER THE INPUT: true; the input reads as it did. -/
def burstKeepsSpec : ChangeSpec := { name := "burstKeeps", fn := fun _ => fun
  | [d1, d2] => { results := [.lit (.bool true)], args := [d1, d2] }
  | _ => none }
def burstKeepsRow : OpenClaim := { program := "ytppmgpicommdlaa", sum := "c809a6b03f923771545bd78335f95f642568d7443a8739b04e305e9b50f40405", func := "pendulum/pendulumlaw18.BurstKeeps", spec := "burstKeeps", apart := false }
def BurstKeepsSaid : Prop := burstKeepsRow.holds Try.pinned (OpenSpec.ofChange burstKeepsSpec)

/-- ITS FALSE NEIGHBOUR: 'it returns false'. Refute it at one input. -/
def burstKeepsWrong : ChangeSpec := { name := "burstKeeps", fn := fun _ => fun
  | [d1, d2] => { results := [.lit (.bool false)], args := [d1, d2] }
  | _ => none }
def BurstKeepsWrongFalsely : Prop := burstKeepsRow.holds Try.pinned (OpenSpec.ofChange burstKeepsWrong)

/-- 'pendulumlaw18.BurstParts': WHATEVER THE INPUT: true; the input reads as it did. -/
def burstPartsSpec : ChangeSpec := { name := "burstParts", fn := fun _ => fun
  | [d1, d2] => { results := [.lit (.bool true)], args := [d1, d2] }
  | _ => none }
def burstPartsRow : OpenClaim := { program := "ytppmgpicommdlaa", sum := "c809a6b03f923771545bd78335f95f642568d7443a8739b04e305e9b50f40405", func := "pendulum/pendulumlaw18.BurstParts", spec := "burstParts", apart := false }
def BurstPartsSaid : Prop := burstPartsRow.holds Try.pinned (OpenSpec.ofChange burstPartsSpec)

/-- ITS FALSE NEIGHBOUR: 'it returns false'. Refute it at one input. -/
def burstPartsWrong : ChangeSpec := { name := "burstParts", fn := fun _ => fun
  | [d1, d2] => { results := [.lit (.bool false)], args := [d1, d2] }
  | _ => none }
def BurstPartsWrongFalsely : Prop := burstPartsRow.holds Try.pinned (OpenSpec.ofChange burstPartsWrong)

/-- 'pendulumlaw18.BurstLess': WHATEVER THE INPUT: true; the input reads as it did. -/
def burstLessSpec : ChangeSpec := { name := "burstLess", fn := fun _ => fun
  | [d1, d2, d3, d4, d5] => { results := [.lit (.bool true)], args := [d1, d2, d3, d4, d5] }
  | _ => none }
def burstLessRow : OpenClaim := { program := "ytppmgpicommdlaa", sum := "c809a6b03f923771545bd78335f95f642568d7443a8739b04e305e9b50f40405", func := "pendulum/pendulumlaw18.BurstLess", spec := "burstLess", apart := false }
def BurstLessSaid : Prop := burstLessRow.holds Try.pinned (OpenSpec.ofChange burstLessSpec)

/-- ITS FALSE NEIGHBOUR: 'it returns false'. Refute it at one input. -/
def burstLessWrong : ChangeSpec := { name := "burstLess", fn := fun _ => fun
  | [d1, d2, d3, d4, d5] => { results := [.lit (.bool false)], args := [d1, d2, d3, d4, d5] }
  | _ => none }
def BurstLessWrongFalsely : Prop := burstLessRow.holds Try.pinned (OpenSpec.ofChange burstLessWrong)

/- THE SECOND FORM. 'bulk': how many values and letters a reading holds, each counted each time it is reached (what is shared counts as often as it is met; a slice's spare places count too). A statement '..UptoSaid' is the law's where the arguments, and the package variables that the reading takes, are together of bulk at most 1048576: NARROWER than '..Said'. Prove '..Said' where nothing that the law and all that it calls make is longer than what came in: it says more and counts as full. Else prove '..UptoSaid'. A law counts once. -/
mutual
def uptoBulk {H : Type} : DataW H → Nat
  | .lit (.string bytes) => bytes.length + 1
  | .lit _ => 1
  | .nil => 1
  | .ptr d => uptoBulk d + 1
  | .slice elems spare => uptoBulkAll elems + uptoBulkAll spare + 1
  | .agg parts => uptoBulkAll parts + 1
  | .iface _ d => uptoBulk d + 1
  | .map entries => uptoBulkEntries entries + 1
  | .held _ => 1
def uptoBulkAll {H : Type} : List (DataW H) → Nat
  | [] => 0
  | d :: r => uptoBulk d + uptoBulkAll r
def uptoBulkEntries {H : Type} : List (Lit × DataW H) → Nat
  | [] => 0
  | x :: r => uptoBulkEntry x + uptoBulkEntries r
def uptoBulkEntry {H : Type} : Lit × DataW H → Nat
  | (.string bytes, d) => bytes.length + uptoBulk d + 1
  | (_, d) => uptoBulk d + 1
 end
def uptoSmall : (H : Type) → List (DataW H) → Bool := fun _ ds => decide (uptoBulkAll ds ≤ 1048576)
def OpenSpec.upto (s : _root_.Go.ChangeSpec) : _root_.Go.OpenSpec := { _root_.Go.OpenSpec.ofChange s with cond := some uptoSmall }

/-- 'pendulumlaw18.BurstLegal', WHERE WHAT IT READS IS OF BULK AT MOST 1048576: true; the input reads as it did. -/
def burstLegalUptoRow : OpenClaim := { program := "ytppmgpicommdlaa", sum := "c809a6b03f923771545bd78335f95f642568d7443a8739b04e305e9b50f40405", func := "pendulum/pendulumlaw18.BurstLegal", spec := "burstLegal", apart := false, narrowed := true }
def BurstLegalUptoSaid : Prop := burstLegalUptoRow.holds Try.pinned (OpenSpec.upto burstLegalSpec)

/-- 'pendulumlaw18.BurstCounts', WHERE WHAT IT READS IS OF BULK AT MOST 1048576: true; the input reads as it did. -/
def burstCountsUptoRow : OpenClaim := { program := "ytppmgpicommdlaa", sum := "c809a6b03f923771545bd78335f95f642568d7443a8739b04e305e9b50f40405", func := "pendulum/pendulumlaw18.BurstCounts", spec := "burstCounts", apart := false, narrowed := true }
def BurstCountsUptoSaid : Prop := burstCountsUptoRow.holds Try.pinned (OpenSpec.upto burstCountsSpec)

/-- 'pendulumlaw18.BurstMost', WHERE WHAT IT READS IS OF BULK AT MOST 1048576: true; the input reads as it did. -/
def burstMostUptoRow : OpenClaim := { program := "ytppmgpicommdlaa", sum := "c809a6b03f923771545bd78335f95f642568d7443a8739b04e305e9b50f40405", func := "pendulum/pendulumlaw18.BurstMost", spec := "burstMost", apart := false, narrowed := true }
def BurstMostUptoSaid : Prop := burstMostUptoRow.holds Try.pinned (OpenSpec.upto burstMostSpec)

/-- 'pendulumlaw18.BurstKeeps', WHERE WHAT IT READS IS OF BULK AT MOST 1048576: true; the input reads as it did. -/
def burstKeepsUptoRow : OpenClaim := { program := "ytppmgpicommdlaa", sum := "c809a6b03f923771545bd78335f95f642568d7443a8739b04e305e9b50f40405", func := "pendulum/pendulumlaw18.BurstKeeps", spec := "burstKeeps", apart := false, narrowed := true }
def BurstKeepsUptoSaid : Prop := burstKeepsUptoRow.holds Try.pinned (OpenSpec.upto burstKeepsSpec)

/-- 'pendulumlaw18.BurstParts', WHERE WHAT IT READS IS OF BULK AT MOST 1048576: true; the input reads as it did. -/
def burstPartsUptoRow : OpenClaim := { program := "ytppmgpicommdlaa", sum := "c809a6b03f923771545bd78335f95f642568d7443a8739b04e305e9b50f40405", func := "pendulum/pendulumlaw18.BurstParts", spec := "burstParts", apart := false, narrowed := true }
def BurstPartsUptoSaid : Prop := burstPartsUptoRow.holds Try.pinned (OpenSpec.upto burstPartsSpec)

/-- 'pendulumlaw18.BurstLess', WHERE WHAT IT READS IS OF BULK AT MOST 1048576: true; the input reads as it did. -/
def burstLessUptoRow : OpenClaim := { program := "ytppmgpicommdlaa", sum := "c809a6b03f923771545bd78335f95f642568d7443a8739b04e305e9b50f40405", func := "pendulum/pendulumlaw18.BurstLess", spec := "burstLess", apart := false, narrowed := true }
def BurstLessUptoSaid : Prop := burstLessUptoRow.holds Try.pinned (OpenSpec.upto burstLessSpec)

end Rows
end Go.Proofs.Ytppmgpicommdlaa
