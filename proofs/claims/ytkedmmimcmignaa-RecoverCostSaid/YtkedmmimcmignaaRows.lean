/-
  No cell of these rows narrows 'for every input' (looked for: loops, veiled, ifaces, maps, wideKeys, modest, calm, conditions, laid).
  DERIVED. THE GIVEN ROWS OF THIS SEAT. 4 by the template 'for every input the law returns true; each argument reads behind the call as it read before'; 0 by the template 'total and deterministic' (their statements: YtkedmmimcmignaaTotals.lean).
  GIVEN WITH THE SEED: the statements are not yours to turn. If you find one false, say at which input.
  Laid BY PROGRAM, IN A SANDBOX (cutbox-rows.mjs): the forced cells as the released guide's own fill.sh prints them over the translation 8d3a6d08ed1b8942… (all of the seat's roots in one cut). By AI agents, Wed Nov 11 2026. No macro, syntax, notation, axiom, sorry.
-/
import Derived.Test.YtkedmmimcmignaaChecked
import GoSem.Claim
import GoSem.ClaimJoined
import GoSem.ClaimMapViews
import Derived.JoinedTies
import Derived.KernelRfl
namespace Go.Proofs.Ytkedmmimcmignaa
/- THE CELL 'sum', in the pinned program and in every row, IS THE sha256 OF THE DUMP (.gsa) THAT YtkedmmimcmignaaProg.lean LOADS. Nothing in Lean hashes anything: it is a label: what it is worth is what the hold of that sum in a sandbox is worth. -/
noncomputable def Try.pinned : Pinned := { name := "ytkedmmimcmignaa", sum := "8d3a6d08ed1b894212a65325ddb62c8cf24c079f6796a10cbf7d225a391516ef", checked := Try.checked }
namespace Rows
def none {H : Type} : Left H := { results := [], args := [] }

/-- 'pendulumlaw15.RecoverRest': WHATEVER THE INPUT: true; the input reads as it did. -/
def recoverRestSpec : ChangeSpec := { name := "recoverRest", fn := fun _ => fun
  | [d1, d2, d3] => { results := [.lit (.bool true)], args := [d1, d2, d3] }
  | _ => none }
def recoverRestRow : OpenClaim := { program := "ytkedmmimcmignaa", sum := "8d3a6d08ed1b894212a65325ddb62c8cf24c079f6796a10cbf7d225a391516ef", func := "pendulum/pendulumlaw15.RecoverRest", spec := "recoverRest", apart := false }
def RecoverRestSaid : Prop := recoverRestRow.holds Try.pinned (OpenSpec.ofChange recoverRestSpec)

/-- ITS FALSE NEIGHBOUR: 'it returns false'. Refute it at one input. -/
def recoverRestWrong : ChangeSpec := { name := "recoverRest", fn := fun _ => fun
  | [d1, d2, d3] => { results := [.lit (.bool false)], args := [d1, d2, d3] }
  | _ => none }
def RecoverRestWrongFalsely : Prop := recoverRestRow.holds Try.pinned (OpenSpec.ofChange recoverRestWrong)

/-- 'pendulumlaw15.RecoverClean': WHATEVER THE INPUT: true; the input reads as it did. -/
def recoverCleanSpec : ChangeSpec := { name := "recoverClean", fn := fun _ => fun
  | [d1, d2] => { results := [.lit (.bool true)], args := [d1, d2] }
  | _ => none }
def recoverCleanRow : OpenClaim := { program := "ytkedmmimcmignaa", sum := "8d3a6d08ed1b894212a65325ddb62c8cf24c079f6796a10cbf7d225a391516ef", func := "pendulum/pendulumlaw15.RecoverClean", spec := "recoverClean", apart := false }
def RecoverCleanSaid : Prop := recoverCleanRow.holds Try.pinned (OpenSpec.ofChange recoverCleanSpec)

/-- ITS FALSE NEIGHBOUR: 'it returns false'. Refute it at one input. -/
def recoverCleanWrong : ChangeSpec := { name := "recoverClean", fn := fun _ => fun
  | [d1, d2] => { results := [.lit (.bool false)], args := [d1, d2] }
  | _ => none }
def RecoverCleanWrongFalsely : Prop := recoverCleanRow.holds Try.pinned (OpenSpec.ofChange recoverCleanWrong)

/-- 'pendulumlaw15.RecoverHits': WHATEVER THE INPUT: true; the input reads as it did. -/
def recoverHitsSpec : ChangeSpec := { name := "recoverHits", fn := fun _ => fun
  | [d1, d2, d3] => { results := [.lit (.bool true)], args := [d1, d2, d3] }
  | _ => none }
def recoverHitsRow : OpenClaim := { program := "ytkedmmimcmignaa", sum := "8d3a6d08ed1b894212a65325ddb62c8cf24c079f6796a10cbf7d225a391516ef", func := "pendulum/pendulumlaw15.RecoverHits", spec := "recoverHits", apart := false }
def RecoverHitsSaid : Prop := recoverHitsRow.holds Try.pinned (OpenSpec.ofChange recoverHitsSpec)

/-- ITS FALSE NEIGHBOUR: 'it returns false'. Refute it at one input. -/
def recoverHitsWrong : ChangeSpec := { name := "recoverHits", fn := fun _ => fun
  | [d1, d2, d3] => { results := [.lit (.bool false)], args := [d1, d2, d3] }
  | _ => none }
def RecoverHitsWrongFalsely : Prop := recoverHitsRow.holds Try.pinned (OpenSpec.ofChange recoverHitsWrong)

/-- 'pendulumlaw15.RecoverCost': WHATEVER THE INPUT: true; the input reads as it did. -/
def recoverCostSpec : ChangeSpec := { name := "recoverCost", fn := fun _ => fun
  | [d1, d2, d3] => { results := [.lit (.bool true)], args := [d1, d2, d3] }
  | _ => none }
def recoverCostRow : OpenClaim := { program := "ytkedmmimcmignaa", sum := "8d3a6d08ed1b894212a65325ddb62c8cf24c079f6796a10cbf7d225a391516ef", func := "pendulum/pendulumlaw15.RecoverCost", spec := "recoverCost", apart := false }
def RecoverCostSaid : Prop := recoverCostRow.holds Try.pinned (OpenSpec.ofChange recoverCostSpec)

/-- ITS FALSE NEIGHBOUR: 'it returns false'. Refute it at one input. -/
def recoverCostWrong : ChangeSpec := { name := "recoverCost", fn := fun _ => fun
  | [d1, d2, d3] => { results := [.lit (.bool false)], args := [d1, d2, d3] }
  | _ => none }
def RecoverCostWrongFalsely : Prop := recoverCostRow.holds Try.pinned (OpenSpec.ofChange recoverCostWrong)

/- THE SECOND FORM. 'bulk': how many values and letters a reading holds, each counted each time it is reached (what is shared counts as often as it is met; a slice's spare places count too). A statement '..UptoSaid' is the law's where the arguments, and the package variables that the reading takes, are together of bulk at most 1048576: NARROWER than '..Said'. Prove '..Said' where nothing that the law and all that it calls make is longer than what came in: it says more and counts as full. Else prove '..UptoSaid'. A law counts once. -/
mutual
def uptoBulk {H : Type} : DataW H → Nat
  | .lit (.string bytes) => bytes.length + 1
  | .lit _ => 1
  | .nil => 1
  | .ptr d => uptoBulk d + 1
  | .slice elems spare => uptoBulkAll elems + uptoBulkAll spare + 1
  | .agg parts => uptoBulkAll parts + 1
  | .iface _ d => uptoBulk d + 1
  | .map entries => uptoBulkEntries entries + 1
  | .held _ => 1
def uptoBulkAll {H : Type} : List (DataW H) → Nat
  | [] => 0
  | d :: r => uptoBulk d + uptoBulkAll r
def uptoBulkEntries {H : Type} : List (Lit × DataW H) → Nat
  | [] => 0
  | x :: r => uptoBulkEntry x + uptoBulkEntries r
def uptoBulkEntry {H : Type} : Lit × DataW H → Nat
  | (.string bytes, d) => bytes.length + uptoBulk d + 1
  | (_, d) => uptoBulk d + 1
 end
def uptoSmall : (H : Type) → List (DataW H) → Bool := fun _ ds => decide (uptoBulkAll ds ≤ 1048576)
def OpenSpec.upto (s : _root_.Go.ChangeSpec) : _root_.Go.OpenSpec := { _root_.Go.OpenSpec.ofChange s with cond := some uptoSmall }

/-- 'pendulumlaw15.RecoverRest', WHERE WHAT IT READS IS OF BULK AT MOST 1048576: true; the input reads as it did. -/
def recoverRestUptoRow : OpenClaim := { program := "ytkedmmimcmignaa", sum := "8d3a6d08ed1b894212a65325ddb62c8cf24c079f6796a10cbf7d225a391516ef", func := "pendulum/pendulumlaw15.RecoverRest", spec := "recoverRest", apart := false, narrowed := true }
def RecoverRestUptoSaid : Prop := recoverRestUptoRow.holds Try.pinned (OpenSpec.upto recoverRestSpec)

/-- 'pendulumlaw15.RecoverClean', WHERE WHAT IT READS IS OF BULK AT MOST 1048576: true; the input reads as it did. -/
def recoverCleanUptoRow : OpenClaim := { program := "ytkedmmimcmignaa", sum := "8d3a6d08ed1b894212a65325ddb62c8cf24c079f6796a10cbf7d225a391516ef", func := "pendulum/pendulumlaw15.RecoverClean", spec := "recoverClean", apart := false, narrowed := true }
def RecoverCleanUptoSaid : Prop := recoverCleanUptoRow.holds Try.pinned (OpenSpec.upto recoverCleanSpec)

/-- 'pendulumlaw15.RecoverHits', WHERE WHAT IT READS IS OF BULK AT MOST 1048576: true; the input reads as it did. -/
def recoverHitsUptoRow : OpenClaim := { program := "ytkedmmimcmignaa", sum := "8d3a6d08ed1b894212a65325ddb62c8cf24c079f6796a10cbf7d225a391516ef", func := "pendulum/pendulumlaw15.RecoverHits", spec := "recoverHits", apart := false, narrowed := true }
def RecoverHitsUptoSaid : Prop := recoverHitsUptoRow.holds Try.pinned (OpenSpec.upto recoverHitsSpec)

/-- 'pendulumlaw15.RecoverCost', WHERE WHAT IT READS IS OF BULK AT MOST 1048576: true; the input reads as it did. -/
def recoverCostUptoRow : OpenClaim := { program := "ytkedmmimcmignaa", sum := "8d3a6d08ed1b894212a65325ddb62c8cf24c079f6796a10cbf7d225a391516ef", func := "pendulum/pendulumlaw15.RecoverCost", spec := "recoverCost", apart := false, narrowed := true }
def RecoverCostUptoSaid : Prop := recoverCostUptoRow.holds Try.pinned (OpenSpec.upto recoverCostSpec)

end Rows
end Go.Proofs.Ytkedmmimcmignaa
