/-
  No cell of these rows narrows 'for every input' (looked for: loops, veiled, ifaces, maps, wideKeys, modest, calm, conditions, laid).
  DERIVED. THE GIVEN ROWS OF THIS SEAT. 5 by the template 'for every input the law returns true; each argument reads behind the call as it read before'; 0 by the template 'total and deterministic' (their statements: YtdoieebfefomcaaTotals.lean).
  GIVEN WITH THE SEED: the statements are not yours to turn. If you find one false, say at which input.
  Laid BY PROGRAM, IN A SANDBOX (cutbox-rows.mjs): the forced cells as the released guide's own fill.sh prints them over the translation d54d13e71be8054c… (all of the seat's roots in one cut). By AI agents, Wed Nov 11 2026. No macro, syntax, notation, axiom, sorry.
-/
import Derived.Test.YtdoieebfefomcaaChecked
import GoSem.Claim
import GoSem.ClaimJoined
import GoSem.ClaimMapViews
import Derived.JoinedTies
import Derived.KernelRfl
namespace Go.Proofs.Ytdoieebfefomcaa
/- THE CELL 'sum', in the pinned program and in every row, IS THE sha256 OF THE DUMP (.gsa) THAT YtdoieebfefomcaaProg.lean LOADS. Nothing in Lean hashes anything: it is a label: what it is worth is what the hold of that sum in a sandbox is worth. -/
noncomputable def Try.pinned : Pinned := { name := "ytdoieebfefomcaa", sum := "d54d13e71be8054c9c9e59e8078410b45ae13c277f3f3f017d1e1d414a9e3a7e", checked := Try.checked }
namespace Rows
def none {H : Type} : Left H := { results := [], args := [] }

/-- 'pendulumlaw14.DemandParts': WHATEVER THE INPUT: true; the input reads as it did. -/
def demandPartsSpec : ChangeSpec := { name := "demandParts", fn := fun _ => fun
  | [d1, d2] => { results := [.lit (.bool true)], args := [d1, d2] }
  | _ => none }
def demandPartsRow : OpenClaim := { program := "ytdoieebfefomcaa", sum := "d54d13e71be8054c9c9e59e8078410b45ae13c277f3f3f017d1e1d414a9e3a7e", func := "pendulum/pendulumlaw14.DemandParts", spec := "demandParts", apart := false }
def DemandPartsSaid : Prop := demandPartsRow.holds Try.pinned (OpenSpec.ofChange demandPartsSpec)

/-- ITS FALSE NEIGHBOUR: 'it returns false'. Refute it at one input. -/
def demandPartsWrong : ChangeSpec := { name := "demandParts", fn := fun _ => fun
  | [d1, d2] => { results := [.lit (.bool false)], args := [d1, d2] }
  | _ => none }
def DemandPartsWrongFalsely : Prop := demandPartsRow.holds Try.pinned (OpenSpec.ofChange demandPartsWrong)

/-- 'pendulumlaw14.DemandWhole': WHATEVER THE INPUT: true; the input reads as it did. -/
def demandWholeSpec : ChangeSpec := { name := "demandWhole", fn := fun _ => fun
  | [d1, d2] => { results := [.lit (.bool true)], args := [d1, d2] }
  | _ => none }
def demandWholeRow : OpenClaim := { program := "ytdoieebfefomcaa", sum := "d54d13e71be8054c9c9e59e8078410b45ae13c277f3f3f017d1e1d414a9e3a7e", func := "pendulum/pendulumlaw14.DemandWhole", spec := "demandWhole", apart := false }
def DemandWholeSaid : Prop := demandWholeRow.holds Try.pinned (OpenSpec.ofChange demandWholeSpec)

/-- ITS FALSE NEIGHBOUR: 'it returns false'. Refute it at one input. -/
def demandWholeWrong : ChangeSpec := { name := "demandWhole", fn := fun _ => fun
  | [d1, d2] => { results := [.lit (.bool false)], args := [d1, d2] }
  | _ => none }
def DemandWholeWrongFalsely : Prop := demandWholeRow.holds Try.pinned (OpenSpec.ofChange demandWholeWrong)

/-- 'pendulumlaw14.DemandLoads': WHATEVER THE INPUT: true; the input reads as it did. -/
def demandLoadsSpec : ChangeSpec := { name := "demandLoads", fn := fun _ => fun
  | [d] => { results := [.lit (.bool true)], args := [d] }
  | _ => none }
def demandLoadsRow : OpenClaim := { program := "ytdoieebfefomcaa", sum := "d54d13e71be8054c9c9e59e8078410b45ae13c277f3f3f017d1e1d414a9e3a7e", func := "pendulum/pendulumlaw14.DemandLoads", spec := "demandLoads", apart := false }
def DemandLoadsSaid : Prop := demandLoadsRow.holds Try.pinned (OpenSpec.ofChange demandLoadsSpec)

/-- ITS FALSE NEIGHBOUR: 'it returns false'. Refute it at one input. -/
def demandLoadsWrong : ChangeSpec := { name := "demandLoads", fn := fun _ => fun
  | [d] => { results := [.lit (.bool false)], args := [d] }
  | _ => none }
def DemandLoadsWrongFalsely : Prop := demandLoadsRow.holds Try.pinned (OpenSpec.ofChange demandLoadsWrong)

/-- 'pendulumlaw14.DemandMore': WHATEVER THE INPUT: true; the input reads as it did. -/
def demandMoreSpec : ChangeSpec := { name := "demandMore", fn := fun _ => fun
  | [d1, d2, d3] => { results := [.lit (.bool true)], args := [d1, d2, d3] }
  | _ => none }
def demandMoreRow : OpenClaim := { program := "ytdoieebfefomcaa", sum := "d54d13e71be8054c9c9e59e8078410b45ae13c277f3f3f017d1e1d414a9e3a7e", func := "pendulum/pendulumlaw14.DemandMore", spec := "demandMore", apart := false }
def DemandMoreSaid : Prop := demandMoreRow.holds Try.pinned (OpenSpec.ofChange demandMoreSpec)

/-- ITS FALSE NEIGHBOUR: 'it returns false'. Refute it at one input. -/
def demandMoreWrong : ChangeSpec := { name := "demandMore", fn := fun _ => fun
  | [d1, d2, d3] => { results := [.lit (.bool false)], args := [d1, d2, d3] }
  | _ => none }
def DemandMoreWrongFalsely : Prop := demandMoreRow.holds Try.pinned (OpenSpec.ofChange demandMoreWrong)

/-- 'pendulumlaw14.DemandFree': WHATEVER THE INPUT: true; the input reads as it did. -/
def demandFreeSpec : ChangeSpec := { name := "demandFree", fn := fun _ => fun
  | [d1, d2] => { results := [.lit (.bool true)], args := [d1, d2] }
  | _ => none }
def demandFreeRow : OpenClaim := { program := "ytdoieebfefomcaa", sum := "d54d13e71be8054c9c9e59e8078410b45ae13c277f3f3f017d1e1d414a9e3a7e", func := "pendulum/pendulumlaw14.DemandFree", spec := "demandFree", apart := false }
def DemandFreeSaid : Prop := demandFreeRow.holds Try.pinned (OpenSpec.ofChange demandFreeSpec)

/-- ITS FALSE NEIGHBOUR: 'it returns false'. Refute it at one input. -/
def demandFreeWrong : ChangeSpec := { name := "demandFree", fn := fun _ => fun
  | [d1, d2] => { results := [.lit (.bool false)], args := [d1, d2] }
  | _ => none }
def DemandFreeWrongFalsely : Prop := demandFreeRow.holds Try.pinned (OpenSpec.ofChange demandFreeWrong)

/- THE SECOND FORM. 'bulk': how many values and letters a reading holds, each counted each time it is reached (what is shared counts as often as it is met; a slice's spare places count too). A statement '..UptoSaid' is the law's where the arguments, and the package variables that the reading takes, are together of bulk at most 1048576: NARROWER than '..Said'. Prove '..Said' where nothing that the law and all that it calls make is longer than what came in: it says more and counts as full. Else prove '..UptoSaid'. A law counts once. -/
mutual
def uptoBulk {H : Type} : DataW H → Nat
  | .lit (.string bytes) => bytes.length + 1
  | .lit _ => 1
  | .nil => 1
  | .ptr d => uptoBulk d + 1
  | .slice elems spare => uptoBulkAll elems + uptoBulkAll spare + 1
  | .agg parts => uptoBulkAll parts + 1
  | .iface _ d => uptoBulk d + 1
  | .map entries => uptoBulkEntries entries + 1
  | .held _ => 1
def uptoBulkAll {H : Type} : List (DataW H) → Nat
  | [] => 0
  | d :: r => uptoBulk d + uptoBulkAll r
def uptoBulkEntries {H : Type} : List (Lit × DataW H) → Nat
  | [] => 0
  | x :: r => uptoBulkEntry x + uptoBulkEntries r
def uptoBulkEntry {H : Type} : Lit × DataW H → Nat
  | (.string bytes, d) => bytes.length + uptoBulk d + 1
  | (_, d) => uptoBulk d + 1
 end
def uptoSmall : (H : Type) → List (DataW H) → Bool := fun _ ds => decide (uptoBulkAll ds ≤ 1048576)
def OpenSpec.upto (s : _root_.Go.ChangeSpec) : _root_.Go.OpenSpec := { _root_.Go.OpenSpec.ofChange s with cond := some uptoSmall }

/-- 'pendulumlaw14.DemandParts', WHERE WHAT IT READS IS OF BULK AT MOST 1048576: true; the input reads as it did. -/
def demandPartsUptoRow : OpenClaim := { program := "ytdoieebfefomcaa", sum := "d54d13e71be8054c9c9e59e8078410b45ae13c277f3f3f017d1e1d414a9e3a7e", func := "pendulum/pendulumlaw14.DemandParts", spec := "demandParts", apart := false, narrowed := true }
def DemandPartsUptoSaid : Prop := demandPartsUptoRow.holds Try.pinned (OpenSpec.upto demandPartsSpec)

/-- 'pendulumlaw14.DemandWhole', WHERE WHAT IT READS IS OF BULK AT MOST 1048576: true; the input reads as it did. -/
def demandWholeUptoRow : OpenClaim := { program := "ytdoieebfefomcaa", sum := "d54d13e71be8054c9c9e59e8078410b45ae13c277f3f3f017d1e1d414a9e3a7e", func := "pendulum/pendulumlaw14.DemandWhole", spec := "demandWhole", apart := false, narrowed := true }
def DemandWholeUptoSaid : Prop := demandWholeUptoRow.holds Try.pinned (OpenSpec.upto demandWholeSpec)

/-- 'pendulumlaw14.DemandLoads', WHERE WHAT IT READS IS OF BULK AT MOST 1048576: true; the input reads as it did. -/
def demandLoadsUptoRow : OpenClaim := { program := "ytdoieebfefomcaa", sum := "d54d13e71be8054c9c9e59e8078410b45ae13c277f3f3f017d1e1d414a9e3a7e", func := "pendulum/pendulumlaw14.DemandLoads", spec := "demandLoads", apart := false, narrowed := true }
def DemandLoadsUptoSaid : Prop := demandLoadsUptoRow.holds Try.pinned (OpenSpec.upto demandLoadsSpec)

/-- 'pendulumlaw14.DemandMore', WHERE WHAT IT READS IS OF BULK AT MOST 1048576: true; the input reads as it did. -/
def demandMoreUptoRow : OpenClaim := { program := "ytdoieebfefomcaa", sum := "d54d13e71be8054c9c9e59e8078410b45ae13c277f3f3f017d1e1d414a9e3a7e", func := "pendulum/pendulumlaw14.DemandMore", spec := "demandMore", apart := false, narrowed := true }
def DemandMoreUptoSaid : Prop := demandMoreUptoRow.holds Try.pinned (OpenSpec.upto demandMoreSpec)

/-- 'pendulumlaw14.DemandFree', WHERE WHAT IT READS IS OF BULK AT MOST 1048576: true; the input reads as it did. -/
def demandFreeUptoRow : OpenClaim := { program := "ytdoieebfefomcaa", sum := "d54d13e71be8054c9c9e59e8078410b45ae13c277f3f3f017d1e1d414a9e3a7e", func := "pendulum/pendulumlaw14.DemandFree", spec := "demandFree", apart := false, narrowed := true }
def DemandFreeUptoSaid : Prop := demandFreeUptoRow.holds Try.pinned (OpenSpec.upto demandFreeSpec)

end Rows
end Go.Proofs.Ytdoieebfefomcaa
