/-
  No cell of these rows narrows 'for every input' (looked for: loops, veiled, ifaces, maps, wideKeys, modest, calm, conditions, laid).
  DERIVED. THE GIVEN ROWS OF THIS SEAT. 4 by the template 'for every input the law returns true; each argument reads behind the call as it read before'; 0 by the template 'total and deterministic' (their statements: YtcdbaoejakcemaaTotals.lean).
  GIVEN WITH THE SEED: the statements are not yours to turn. If you find one false, say at which input.
  Laid BY PROGRAM, IN A SANDBOX (cutbox-rows.mjs): the forced cells as the released guide's own fill.sh prints them over the translation 89da89fb139ac604… (all of the seat's roots in one cut). By AI agents, Wed Nov 11 2026. No macro, syntax, notation, axiom, sorry.
-/
import Derived.Test.YtcdbaoejakcemaaChecked
import GoSem.Claim
import GoSem.ClaimJoined
import GoSem.ClaimMapViews
import Derived.JoinedTies
import Derived.KernelRfl
namespace Go.Proofs.Ytcdbaoejakcemaa
/- THE CELL 'sum', in the pinned program and in every row, IS THE sha256 OF THE DUMP (.gsa) THAT YtcdbaoejakcemaaProg.lean LOADS. Nothing in Lean hashes anything: it is a label: what it is worth is what the hold of that sum in a sandbox is worth. -/
noncomputable def Try.pinned : Pinned := { name := "ytcdbaoejakcemaa", sum := "89da89fb139ac604b15f0ccd389a7abf7b0e3f1ad514b7854340b2d06d4cb8af", checked := Try.checked }
namespace Rows
def none {H : Type} : Left H := { results := [], args := [] }

/-- 'pawnshoplaw20.SolveLeasts': WHATEVER THE INPUT: true; the input reads as it did. -/
def solveLeastsSpec : ChangeSpec := { name := "solveLeasts", fn := fun _ => fun
  | [d1, d2, d3] => { results := [.lit (.bool true)], args := [d1, d2, d3] }
  | _ => none }
def solveLeastsRow : OpenClaim := { program := "ytcdbaoejakcemaa", sum := "89da89fb139ac604b15f0ccd389a7abf7b0e3f1ad514b7854340b2d06d4cb8af", func := "pawnshop/pawnshoplaw20.SolveLeasts", spec := "solveLeasts", apart := false }
def SolveLeastsSaid : Prop := solveLeastsRow.holds Try.pinned (OpenSpec.ofChange solveLeastsSpec)

/-- ITS FALSE NEIGHBOUR: 'it returns false'. Refute it at one input. -/
def solveLeastsWrong : ChangeSpec := { name := "solveLeasts", fn := fun _ => fun
  | [d1, d2, d3] => { results := [.lit (.bool false)], args := [d1, d2, d3] }
  | _ => none }
def SolveLeastsWrongFalsely : Prop := solveLeastsRow.holds Try.pinned (OpenSpec.ofChange solveLeastsWrong)

/-- 'pawnshoplaw20.SolveLeast': WHATEVER THE INPUT: true; the input reads as it did. -/
def solveLeastSpec : ChangeSpec := { name := "solveLeast", fn := fun _ => fun
  | [d1, d2, d3] => { results := [.lit (.bool true)], args := [d1, d2, d3] }
  | _ => none }
def solveLeastRow : OpenClaim := { program := "ytcdbaoejakcemaa", sum := "89da89fb139ac604b15f0ccd389a7abf7b0e3f1ad514b7854340b2d06d4cb8af", func := "pawnshop/pawnshoplaw20.SolveLeast", spec := "solveLeast", apart := false }
def SolveLeastSaid : Prop := solveLeastRow.holds Try.pinned (OpenSpec.ofChange solveLeastSpec)

/-- ITS FALSE NEIGHBOUR: 'it returns false'. Refute it at one input. -/
def solveLeastWrong : ChangeSpec := { name := "solveLeast", fn := fun _ => fun
  | [d1, d2, d3] => { results := [.lit (.bool false)], args := [d1, d2, d3] }
  | _ => none }
def SolveLeastWrongFalsely : Prop := solveLeastRow.holds Try.pinned (OpenSpec.ofChange solveLeastWrong)

/-- 'pawnshoplaw20.SolveMore': WHATEVER THE INPUT: true; the input reads as it did. -/
def solveMoreSpec : ChangeSpec := { name := "solveMore", fn := fun _ => fun
  | [d1, d2, d3, d4, d5] => { results := [.lit (.bool true)], args := [d1, d2, d3, d4, d5] }
  | _ => none }
def solveMoreRow : OpenClaim := { program := "ytcdbaoejakcemaa", sum := "89da89fb139ac604b15f0ccd389a7abf7b0e3f1ad514b7854340b2d06d4cb8af", func := "pawnshop/pawnshoplaw20.SolveMore", spec := "solveMore", apart := false }
def SolveMoreSaid : Prop := solveMoreRow.holds Try.pinned (OpenSpec.ofChange solveMoreSpec)

/-- ITS FALSE NEIGHBOUR: 'it returns false'. Refute it at one input. -/
def solveMoreWrong : ChangeSpec := { name := "solveMore", fn := fun _ => fun
  | [d1, d2, d3, d4, d5] => { results := [.lit (.bool false)], args := [d1, d2, d3, d4, d5] }
  | _ => none }
def SolveMoreWrongFalsely : Prop := solveMoreRow.holds Try.pinned (OpenSpec.ofChange solveMoreWrong)

/-- 'pawnshoplaw20.SolveReasons': WHATEVER THE INPUT: true; the input reads as it did. -/
def solveReasonsSpec : ChangeSpec := { name := "solveReasons", fn := fun _ => fun
  | [d1, d2] => { results := [.lit (.bool true)], args := [d1, d2] }
  | _ => none }
def solveReasonsRow : OpenClaim := { program := "ytcdbaoejakcemaa", sum := "89da89fb139ac604b15f0ccd389a7abf7b0e3f1ad514b7854340b2d06d4cb8af", func := "pawnshop/pawnshoplaw20.SolveReasons", spec := "solveReasons", apart := false }
def SolveReasonsSaid : Prop := solveReasonsRow.holds Try.pinned (OpenSpec.ofChange solveReasonsSpec)

/-- ITS FALSE NEIGHBOUR: 'it returns false'. Refute it at one input. -/
def solveReasonsWrong : ChangeSpec := { name := "solveReasons", fn := fun _ => fun
  | [d1, d2] => { results := [.lit (.bool false)], args := [d1, d2] }
  | _ => none }
def SolveReasonsWrongFalsely : Prop := solveReasonsRow.holds Try.pinned (OpenSpec.ofChange solveReasonsWrong)

/- THE SECOND FORM. 'bulk': how many values and letters a reading holds, each counted each time it is reached (what is shared counts as often as it is met; a slice's spare places count too). A statement '..UptoSaid' is the law's where the arguments, and the package variables that the reading takes, are together of bulk at most 1048576: NARROWER than '..Said'. Prove '..Said' where nothing that the law and all that it calls make is longer than what came in: it says more and counts as full. Else prove '..UptoSaid'. A law counts once. -/
mutual
def uptoBulk {H : Type} : DataW H → Nat
  | .lit (.string bytes) => bytes.length + 1
  | .lit _ => 1
  | .nil => 1
  | .ptr d => uptoBulk d + 1
  | .slice elems spare => uptoBulkAll elems + uptoBulkAll spare + 1
  | .agg parts => uptoBulkAll parts + 1
  | .iface _ d => uptoBulk d + 1
  | .map entries => uptoBulkEntries entries + 1
  | .held _ => 1
def uptoBulkAll {H : Type} : List (DataW H) → Nat
  | [] => 0
  | d :: r => uptoBulk d + uptoBulkAll r
def uptoBulkEntries {H : Type} : List (Lit × DataW H) → Nat
  | [] => 0
  | x :: r => uptoBulkEntry x + uptoBulkEntries r
def uptoBulkEntry {H : Type} : Lit × DataW H → Nat
  | (.string bytes, d) => bytes.length + uptoBulk d + 1
  | (_, d) => uptoBulk d + 1
 end
def uptoSmall : (H : Type) → List (DataW H) → Bool := fun _ ds => decide (uptoBulkAll ds ≤ 1048576)
def OpenSpec.upto (s : _root_.Go.ChangeSpec) : _root_.Go.OpenSpec := { _root_.Go.OpenSpec.ofChange s with cond := some uptoSmall }

/-- 'pawnshoplaw20.SolveLeasts', WHERE WHAT IT READS IS OF BULK AT MOST 1048576: true; the input reads as it did. -/
def solveLeastsUptoRow : OpenClaim := { program := "ytcdbaoejakcemaa", sum := "89da89fb139ac604b15f0ccd389a7abf7b0e3f1ad514b7854340b2d06d4cb8af", func := "pawnshop/pawnshoplaw20.SolveLeasts", spec := "solveLeasts", apart := false, narrowed := true }
def SolveLeastsUptoSaid : Prop := solveLeastsUptoRow.holds Try.pinned (OpenSpec.upto solveLeastsSpec)

/-- 'pawnshoplaw20.SolveLeast', WHERE WHAT IT READS IS OF BULK AT MOST 1048576: true; the input reads as it did. -/
def solveLeastUptoRow : OpenClaim := { program := "ytcdbaoejakcemaa", sum := "89da89fb139ac604b15f0ccd389a7abf7b0e3f1ad514b7854340b2d06d4cb8af", func := "pawnshop/pawnshoplaw20.SolveLeast", spec := "solveLeast", apart := false, narrowed := true }
def SolveLeastUptoSaid : Prop := solveLeastUptoRow.holds Try.pinned (OpenSpec.upto solveLeastSpec)

/-- 'pawnshoplaw20.SolveMore', WHERE WHAT IT READS IS OF BULK AT MOST 1048576: true; the input reads as it did. -/
def solveMoreUptoRow : OpenClaim := { program := "ytcdbaoejakcemaa", sum := "89da89fb139ac604b15f0ccd389a7abf7b0e3f1ad514b7854340b2d06d4cb8af", func := "pawnshop/pawnshoplaw20.SolveMore", spec := "solveMore", apart := false, narrowed := true }
def SolveMoreUptoSaid : Prop := solveMoreUptoRow.holds Try.pinned (OpenSpec.upto solveMoreSpec)

/-- 'pawnshoplaw20.SolveReasons', WHERE WHAT IT READS IS OF BULK AT MOST 1048576: true; the input reads as it did. -/
def solveReasonsUptoRow : OpenClaim := { program := "ytcdbaoejakcemaa", sum := "89da89fb139ac604b15f0ccd389a7abf7b0e3f1ad514b7854340b2d06d4cb8af", func := "pawnshop/pawnshoplaw20.SolveReasons", spec := "solveReasons", apart := false, narrowed := true }
def SolveReasonsUptoSaid : Prop := solveReasonsUptoRow.holds Try.pinned (OpenSpec.upto solveReasonsSpec)

end Rows
end Go.Proofs.Ytcdbaoejakcemaa
