/-
  No cell of these rows narrows 'for every input' (looked for: loops, veiled, ifaces, maps, wideKeys, modest, calm, conditions, laid).
  DERIVED. THE GIVEN ROWS OF THIS SEAT. 3 by the template 'for every input the law returns true; each argument reads behind the call as it read before'; 0 by the template 'total and deterministic' (their statements: YtbimggeapaaliaaTotals.lean).
  GIVEN WITH THE SEED: the statements are not yours to turn. If you find one false, say at which input.
  Laid BY PROGRAM, IN A SANDBOX (cutbox-rows.mjs): the forced cells as the released guide's own fill.sh prints them over the translation 462094119b772104… (all of the seat's roots in one cut). By AI agents, Wed Nov 11 2026. No macro, syntax, notation, axiom, sorry.
-/
import Derived.Test.YtbimggeapaaliaaChecked
import GoSem.Claim
import GoSem.ClaimJoined
import GoSem.ClaimMapViews
import Derived.JoinedTies
import Derived.KernelRfl
namespace Go.Proofs.Ytbimggeapaaliaa
/- THE CELL 'sum', in the pinned program and in every row, IS THE sha256 OF THE DUMP (.gsa) THAT YtbimggeapaaliaaProg.lean LOADS. Nothing in Lean hashes anything: it is a label: what it is worth is what the hold of that sum in a sandbox is worth. -/
noncomputable def Try.pinned : Pinned := { name := "ytbimggeapaaliaa", sum := "462094119b77210455b2e2bb86fb6be889d3bd89a38b78df24cb2ec153273c0b", checked := Try.checked }
namespace Rows
def none {H : Type} : Left H := { results := [], args := [] }

/-- 'pawnshoplaw19.ConstrainReasons': WHATEVER THE INPUT: true; the input reads as it did. -/
def constrainReasonsSpec : ChangeSpec := { name := "constrainReasons", fn := fun _ => fun
  | [d] => { results := [.lit (.bool true)], args := [d] }
  | _ => none }
def constrainReasonsRow : OpenClaim := { program := "ytbimggeapaaliaa", sum := "462094119b77210455b2e2bb86fb6be889d3bd89a38b78df24cb2ec153273c0b", func := "pawnshop/pawnshoplaw19.ConstrainReasons", spec := "constrainReasons", unfollowed := true, recurses := true, apart := false }
def ConstrainReasonsSaid : Prop := constrainReasonsRow.holds Try.pinned (OpenSpec.ofChange constrainReasonsSpec)

/-- ITS FALSE NEIGHBOUR: 'it returns false'. Refute it at one input. -/
def constrainReasonsWrong : ChangeSpec := { name := "constrainReasons", fn := fun _ => fun
  | [d] => { results := [.lit (.bool false)], args := [d] }
  | _ => none }
def ConstrainReasonsWrongFalsely : Prop := constrainReasonsRow.holds Try.pinned (OpenSpec.ofChange constrainReasonsWrong)

/-- 'pawnshoplaw19.ConstrainCounts': WHATEVER THE INPUT: true; the input reads as it did. -/
def constrainCountsSpec : ChangeSpec := { name := "constrainCounts", fn := fun _ => fun
  | [d] => { results := [.lit (.bool true)], args := [d] }
  | _ => none }
def constrainCountsRow : OpenClaim := { program := "ytbimggeapaaliaa", sum := "462094119b77210455b2e2bb86fb6be889d3bd89a38b78df24cb2ec153273c0b", func := "pawnshop/pawnshoplaw19.ConstrainCounts", spec := "constrainCounts", unfollowed := true, recurses := true, apart := false }
def ConstrainCountsSaid : Prop := constrainCountsRow.holds Try.pinned (OpenSpec.ofChange constrainCountsSpec)

/-- ITS FALSE NEIGHBOUR: 'it returns false'. Refute it at one input. -/
def constrainCountsWrong : ChangeSpec := { name := "constrainCounts", fn := fun _ => fun
  | [d] => { results := [.lit (.bool false)], args := [d] }
  | _ => none }
def ConstrainCountsWrongFalsely : Prop := constrainCountsRow.holds Try.pinned (OpenSpec.ofChange constrainCountsWrong)

/-- 'pawnshoplaw19.ConstrainBlocks': WHATEVER THE INPUT: true; the input reads as it did. -/
def constrainBlocksSpec : ChangeSpec := { name := "constrainBlocks", fn := fun _ => fun
  | [d1, d2] => { results := [.lit (.bool true)], args := [d1, d2] }
  | _ => none }
def constrainBlocksRow : OpenClaim := { program := "ytbimggeapaaliaa", sum := "462094119b77210455b2e2bb86fb6be889d3bd89a38b78df24cb2ec153273c0b", func := "pawnshop/pawnshoplaw19.ConstrainBlocks", spec := "constrainBlocks", unfollowed := true, recurses := true, apart := false }
def ConstrainBlocksSaid : Prop := constrainBlocksRow.holds Try.pinned (OpenSpec.ofChange constrainBlocksSpec)

/-- ITS FALSE NEIGHBOUR: 'it returns false'. Refute it at one input. -/
def constrainBlocksWrong : ChangeSpec := { name := "constrainBlocks", fn := fun _ => fun
  | [d1, d2] => { results := [.lit (.bool false)], args := [d1, d2] }
  | _ => none }
def ConstrainBlocksWrongFalsely : Prop := constrainBlocksRow.holds Try.pinned (OpenSpec.ofChange constrainBlocksWrong)

/- THE SECOND FORM. 'bulk': how many values and letters a reading holds, each counted each time it is reached (what is shared counts as often as it is met; a slice's spare places count too). A statement '..UptoSaid' is the law's where the arguments, and the package variables that the reading takes, are together of bulk at most 1048576: NARROWER than '..Said'. Prove '..Said' where nothing that the law and all that it calls make is longer than what came in: it says more and counts as full. Else prove '..UptoSaid'. A law counts once. -/
mutual
def uptoBulk {H : Type} : DataW H → Nat
  | .lit (.string bytes) => bytes.length + 1
  | .lit _ => 1
  | .nil => 1
  | .ptr d => uptoBulk d + 1
  | .slice elems spare => uptoBulkAll elems + uptoBulkAll spare + 1
  | .agg parts => uptoBulkAll parts + 1
  | .iface _ d => uptoBulk d + 1
  | .map entries => uptoBulkEntries entries + 1
  | .held _ => 1
def uptoBulkAll {H : Type} : List (DataW H) → Nat
  | [] => 0
  | d :: r => uptoBulk d + uptoBulkAll r
def uptoBulkEntries {H : Type} : List (Lit × DataW H) → Nat
  | [] => 0
  | x :: r => uptoBulkEntry x + uptoBulkEntries r
def uptoBulkEntry {H : Type} : Lit × DataW H → Nat
  | (.string bytes, d) => bytes.length + uptoBulk d + 1
  | (_, d) => uptoBulk d + 1
 end
def uptoSmall : (H : Type) → List (DataW H) → Bool := fun _ ds => decide (uptoBulkAll ds ≤ 1048576)
def OpenSpec.upto (s : _root_.Go.ChangeSpec) : _root_.Go.OpenSpec := { _root_.Go.OpenSpec.ofChange s with cond := some uptoSmall }

/-- 'pawnshoplaw19.ConstrainReasons', WHERE WHAT IT READS IS OF BULK AT MOST 1048576: true; the input reads as it did. -/
def constrainReasonsUptoRow : OpenClaim := { program := "ytbimggeapaaliaa", sum := "462094119b77210455b2e2bb86fb6be889d3bd89a38b78df24cb2ec153273c0b", func := "pawnshop/pawnshoplaw19.ConstrainReasons", spec := "constrainReasons", unfollowed := true, recurses := true, apart := false, narrowed := true }
def ConstrainReasonsUptoSaid : Prop := constrainReasonsUptoRow.holds Try.pinned (OpenSpec.upto constrainReasonsSpec)

/-- 'pawnshoplaw19.ConstrainCounts', WHERE WHAT IT READS IS OF BULK AT MOST 1048576: true; the input reads as it did. -/
def constrainCountsUptoRow : OpenClaim := { program := "ytbimggeapaaliaa", sum := "462094119b77210455b2e2bb86fb6be889d3bd89a38b78df24cb2ec153273c0b", func := "pawnshop/pawnshoplaw19.ConstrainCounts", spec := "constrainCounts", unfollowed := true, recurses := true, apart := false, narrowed := true }
def ConstrainCountsUptoSaid : Prop := constrainCountsUptoRow.holds Try.pinned (OpenSpec.upto constrainCountsSpec)

/-- 'pawnshoplaw19.ConstrainBlocks', WHERE WHAT IT READS IS OF BULK AT MOST 1048576: true; the input reads as it did. -/
def constrainBlocksUptoRow : OpenClaim := { program := "ytbimggeapaaliaa", sum := "462094119b77210455b2e2bb86fb6be889d3bd89a38b78df24cb2ec153273c0b", func := "pawnshop/pawnshoplaw19.ConstrainBlocks", spec := "constrainBlocks", unfollowed := true, recurses := true, apart := false, narrowed := true }
def ConstrainBlocksUptoSaid : Prop := constrainBlocksUptoRow.holds Try.pinned (OpenSpec.upto constrainBlocksSpec)

end Rows
end Go.Proofs.Ytbimggeapaaliaa
