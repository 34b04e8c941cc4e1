/-
  No cell of these rows narrows 'for every input' (looked for: loops, veiled, ifaces, maps, wideKeys, modest, calm, conditions, laid).
  DERIVED. THE GIVEN ROWS OF THIS SEAT. 5 by the template 'for every input the law returns true; each argument reads behind the call as it read before'; 0 by the template 'total and deterministic' (their statements: YtpjehbcchanmhaaTotals.lean).
  GIVEN WITH THE SEED: the statements are not yours to turn. If you find one false, say at which input.
  Laid BY PROGRAM, IN A SANDBOX (cutbox-rows.mjs): the forced cells as the released guide's own fill.sh prints them over the translation 6e02561c771c14d2… (all of the seat's roots in one cut). By AI agents, Wed Nov 11 2026. No macro, syntax, notation, axiom, sorry.
-/
import Derived.Test.YtpjehbcchanmhaaChecked
import GoSem.Claim
import GoSem.ClaimJoined
import GoSem.ClaimMapViews
import Derived.JoinedTies
import Derived.KernelRfl
namespace Go.Proofs.Ytpjehbcchanmhaa
/- THE CELL 'sum', in the pinned program and in every row, IS THE sha256 OF THE DUMP (.gsa) THAT YtpjehbcchanmhaaProg.lean LOADS. Nothing in Lean hashes anything: it is a label: what it is worth is what the hold of that sum in a sandbox is worth. -/
noncomputable def Try.pinned : Pinned := { name := "ytpjehbcchanmhaa", sum := "6e02561c771c14d22f25e2ba77293106700b475d817de912f50e6f98c7ae34a0", checked := Try.checked }
namespace Rows
def none {H : Type} : Left H := { results := [], args := [] }

/-- 'pendulumlaw22.JobNews': WHATEVER THE INPUT: true; the input reads as it did. -/
def jobNewsSpec : ChangeSpec := { name := "jobNews", fn := fun _ => fun
  | [d1, d2, d3, d4, d5, d6] => { results := [.lit (.bool true)], args := [d1, d2, d3, d4, d5, d6] }
  | _ => none }
def jobNewsRow : OpenClaim := { program := "ytpjehbcchanmhaa", sum := "6e02561c771c14d22f25e2ba77293106700b475d817de912f50e6f98c7ae34a0", func := "pendulum/pendulumlaw22.JobNews", spec := "jobNews", apart := false }
def JobNewsSaid : Prop := jobNewsRow.holds Try.pinned (OpenSpec.ofChange jobNewsSpec)

/-- ITS FALSE NEIGHBOUR: 'it returns false'. Refute it at one input. -/
def jobNewsWrong : ChangeSpec := { name := "jobNews", fn := fun _ => fun
  | [d1, d2, d3, d4, d5, d6] => { results := [.lit (.bool false)], args := [d1, d2, d3, d4, d5, d6] }
  | _ => none }
def JobNewsWrongFalsely : Prop := jobNewsRow.holds Try.pinned (OpenSpec.ofChange jobNewsWrong)

/-- 'pendulumlaw22.JobSteps': WHATEVER THE INPUT: true; the input reads as it did. -/
def jobStepsSpec : ChangeSpec := { name := "jobSteps", fn := fun _ => fun
  | [d1, d2, d3, d4] => { results := [.lit (.bool true)], args := [d1, d2, d3, d4] }
  | _ => none }
def jobStepsRow : OpenClaim := { program := "ytpjehbcchanmhaa", sum := "6e02561c771c14d22f25e2ba77293106700b475d817de912f50e6f98c7ae34a0", func := "pendulum/pendulumlaw22.JobSteps", spec := "jobSteps", apart := false }
def JobStepsSaid : Prop := jobStepsRow.holds Try.pinned (OpenSpec.ofChange jobStepsSpec)

/-- ITS FALSE NEIGHBOUR: 'it returns false'. Refute it at one input. -/
def jobStepsWrong : ChangeSpec := { name := "jobSteps", fn := fun _ => fun
  | [d1, d2, d3, d4] => { results := [.lit (.bool false)], args := [d1, d2, d3, d4] }
  | _ => none }
def JobStepsWrongFalsely : Prop := jobStepsRow.holds Try.pinned (OpenSpec.ofChange jobStepsWrong)

/-- 'pendulumlaw22.JobKeys': WHATEVER THE INPUT: true; the input reads as it did. -/
def jobKeysSpec : ChangeSpec := { name := "jobKeys", fn := fun _ => fun
  | [d1, d2, d3, d4, d5, d6] => { results := [.lit (.bool true)], args := [d1, d2, d3, d4, d5, d6] }
  | _ => none }
def jobKeysRow : OpenClaim := { program := "ytpjehbcchanmhaa", sum := "6e02561c771c14d22f25e2ba77293106700b475d817de912f50e6f98c7ae34a0", func := "pendulum/pendulumlaw22.JobKeys", spec := "jobKeys", apart := false }
def JobKeysSaid : Prop := jobKeysRow.holds Try.pinned (OpenSpec.ofChange jobKeysSpec)

/-- ITS FALSE NEIGHBOUR: 'it returns false'. Refute it at one input. -/
def jobKeysWrong : ChangeSpec := { name := "jobKeys", fn := fun _ => fun
  | [d1, d2, d3, d4, d5, d6] => { results := [.lit (.bool false)], args := [d1, d2, d3, d4, d5, d6] }
  | _ => none }
def JobKeysWrongFalsely : Prop := jobKeysRow.holds Try.pinned (OpenSpec.ofChange jobKeysWrong)

/-- 'pendulumlaw22.JobOver': WHATEVER THE INPUT: true; the input reads as it did. -/
def jobOverSpec : ChangeSpec := { name := "jobOver", fn := fun _ => fun
  | [d1, d2, d3] => { results := [.lit (.bool true)], args := [d1, d2, d3] }
  | _ => none }
def jobOverRow : OpenClaim := { program := "ytpjehbcchanmhaa", sum := "6e02561c771c14d22f25e2ba77293106700b475d817de912f50e6f98c7ae34a0", func := "pendulum/pendulumlaw22.JobOver", spec := "jobOver", apart := false }
def JobOverSaid : Prop := jobOverRow.holds Try.pinned (OpenSpec.ofChange jobOverSpec)

/-- ITS FALSE NEIGHBOUR: 'it returns false'. Refute it at one input. -/
def jobOverWrong : ChangeSpec := { name := "jobOver", fn := fun _ => fun
  | [d1, d2, d3] => { results := [.lit (.bool false)], args := [d1, d2, d3] }
  | _ => none }
def JobOverWrongFalsely : Prop := jobOverRow.holds Try.pinned (OpenSpec.ofChange jobOverWrong)

/-- 'pendulumlaw22.JobLates': WHATEVER THE INPUT: true; the input reads as it did. -/
def jobLatesSpec : ChangeSpec := { name := "jobLates", fn := fun _ => fun
  | [d1, d2, d3, d4, d5] => { results := [.lit (.bool true)], args := [d1, d2, d3, d4, d5] }
  | _ => none }
def jobLatesRow : OpenClaim := { program := "ytpjehbcchanmhaa", sum := "6e02561c771c14d22f25e2ba77293106700b475d817de912f50e6f98c7ae34a0", func := "pendulum/pendulumlaw22.JobLates", spec := "jobLates", apart := false }
def JobLatesSaid : Prop := jobLatesRow.holds Try.pinned (OpenSpec.ofChange jobLatesSpec)

/-- ITS FALSE NEIGHBOUR: 'it returns false'. Refute it at one input. -/
def jobLatesWrong : ChangeSpec := { name := "jobLates", fn := fun _ => fun
  | [d1, d2, d3, d4, d5] => { results := [.lit (.bool false)], args := [d1, d2, d3, d4, d5] }
  | _ => none }
def JobLatesWrongFalsely : Prop := jobLatesRow.holds Try.pinned (OpenSpec.ofChange jobLatesWrong)

/- THE SECOND FORM. 'bulk': how many values and letters a reading holds, each counted each time it is reached (what is shared counts as often as it is met; a slice's spare places count too). A statement '..UptoSaid' is the law's where the arguments, and the package variables that the reading takes, are together of bulk at most 1048576: NARROWER than '..Said'. Prove '..Said' where nothing that the law and all that it calls make is longer than what came in: it says more and counts as full. Else prove '..UptoSaid'. A law counts once. -/
mutual
def uptoBulk {H : Type} : DataW H → Nat
  | .lit (.string bytes) => bytes.length + 1
  | .lit _ => 1
  | .nil => 1
  | .ptr d => uptoBulk d + 1
  | .slice elems spare => uptoBulkAll elems + uptoBulkAll spare + 1
  | .agg parts => uptoBulkAll parts + 1
  | .iface _ d => uptoBulk d + 1
  | .map entries => uptoBulkEntries entries + 1
  | .held _ => 1
def uptoBulkAll {H : Type} : List (DataW H) → Nat
  | [] => 0
  | d :: r => uptoBulk d + uptoBulkAll r
def uptoBulkEntries {H : Type} : List (Lit × DataW H) → Nat
  | [] => 0
  | x :: r => uptoBulkEntry x + uptoBulkEntries r
def uptoBulkEntry {H : Type} : Lit × DataW H → Nat
  | (.string bytes, d) => bytes.length + uptoBulk d + 1
  | (_, d) => uptoBulk d + 1
 end
def uptoSmall : (H : Type) → List (DataW H) → Bool := fun _ ds => decide (uptoBulkAll ds ≤ 1048576)
def OpenSpec.upto (s : _root_.Go.ChangeSpec) : _root_.Go.OpenSpec := { _root_.Go.OpenSpec.ofChange s with cond := some uptoSmall }

/-- 'pendulumlaw22.JobNews', WHERE WHAT IT READS IS OF BULK AT MOST 1048576: true; the input reads as it did. -/
def jobNewsUptoRow : OpenClaim := { program := "ytpjehbcchanmhaa", sum := "6e02561c771c14d22f25e2ba77293106700b475d817de912f50e6f98c7ae34a0", func := "pendulum/pendulumlaw22.JobNews", spec := "jobNews", apart := false, narrowed := true }
def JobNewsUptoSaid : Prop := jobNewsUptoRow.holds Try.pinned (OpenSpec.upto jobNewsSpec)

/-- 'pendulumlaw22.JobSteps', WHERE WHAT IT READS IS OF BULK AT MOST 1048576: true; the input reads as it did. -/
def jobStepsUptoRow : OpenClaim := { program := "ytpjehbcchanmhaa", sum := "6e02561c771c14d22f25e2ba77293106700b475d817de912f50e6f98c7ae34a0", func := "pendulum/pendulumlaw22.JobSteps", spec := "jobSteps", apart := false, narrowed := true }
def JobStepsUptoSaid : Prop := jobStepsUptoRow.holds Try.pinned (OpenSpec.upto jobStepsSpec)

/-- 'pendulumlaw22.JobKeys', WHERE WHAT IT READS IS OF BULK AT MOST 1048576: true; the input reads as it did. -/
def jobKeysUptoRow : OpenClaim := { program := "ytpjehbcchanmhaa", sum := "6e02561c771c14d22f25e2ba77293106700b475d817de912f50e6f98c7ae34a0", func := "pendulum/pendulumlaw22.JobKeys", spec := "jobKeys", apart := false, narrowed := true }
def JobKeysUptoSaid : Prop := jobKeysUptoRow.holds Try.pinned (OpenSpec.upto jobKeysSpec)

/-- 'pendulumlaw22.JobOver', WHERE WHAT IT READS IS OF BULK AT MOST 1048576: true; the input reads as it did. -/
def jobOverUptoRow : OpenClaim := { program := "ytpjehbcchanmhaa", sum := "6e02561c771c14d22f25e2ba77293106700b475d817de912f50e6f98c7ae34a0", func := "pendulum/pendulumlaw22.JobOver", spec := "jobOver", apart := false, narrowed := true }
def JobOverUptoSaid : Prop := jobOverUptoRow.holds Try.pinned (OpenSpec.upto jobOverSpec)

/-- 'pendulumlaw22.JobLates', WHERE WHAT IT READS IS OF BULK AT MOST 1048576: true; the input reads as it did. -/
def jobLatesUptoRow : OpenClaim := { program := "ytpjehbcchanmhaa", sum := "6e02561c771c14d22f25e2ba77293106700b475d817de912f50e6f98c7ae34a0", func := "pendulum/pendulumlaw22.JobLates", spec := "jobLates", apart := false, narrowed := true }
def JobLatesUptoSaid : Prop := jobLatesUptoRow.holds Try.pinned (OpenSpec.upto jobLatesSpec)

end Rows
end Go.Proofs.Ytpjehbcchanmhaa
