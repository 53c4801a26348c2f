/-
  No cell of these rows narrows 'for every input' (looked for: loops, veiled, ifaces, maps, wideKeys, modest, calm, conditions, laid).
  DERIVED. THE GIVEN ROWS OF THIS SEAT. 6 by the template 'for every input the law returns true; each argument reads behind the call as it read before'; 0 by the template 'total and deterministic' (their statements: YthkfadnkonokdaaTotals.lean).
  GIVEN WITH THE SEED: the statements are not yours to turn. If you find one false, say at which input.
  Laid BY PROGRAM, IN A SANDBOX (cutbox-rows.mjs): the forced cells as the released guide's own fill.sh prints them over the translation 6ea138d0a942072c… (all of the seat's roots in one cut). By AI agents, Wed Nov 11 2026. No macro, syntax, notation, axiom, sorry.
-/
import Derived.Test.YthkfadnkonokdaaChecked
import GoSem.Claim
import GoSem.ClaimJoined
import GoSem.ClaimMapViews
import Derived.JoinedTies
import Derived.KernelRfl
namespace Go.Proofs.Ythkfadnkonokdaa
/- THE CELL 'sum', in the pinned program and in every row, IS THE sha256 OF THE DUMP (.gsa) THAT YthkfadnkonokdaaProg.lean LOADS. Nothing in Lean hashes anything: it is a label: what it is worth is what the hold of that sum in a sandbox is worth. -/
noncomputable def Try.pinned : Pinned := { name := "ythkfadnkonokdaa", sum := "6ea138d0a942072c69b8e934400e1f7d058d8c8c47b4ccb1d61ce6aa03adb60d", checked := Try.checked }
namespace Rows
def none {H : Type} : Left H := { results := [], args := [] }

/-- 'pawnshoplaw02.ShapeTypes': WHATEVER THE INPUT: true; the input reads as it did. -/
def shapeTypesSpec : ChangeSpec := { name := "shapeTypes", fn := fun _ => fun
  | [d] => { results := [.lit (.bool true)], args := [d] }
  | _ => none }
def shapeTypesRow : OpenClaim := { program := "ythkfadnkonokdaa", sum := "6ea138d0a942072c69b8e934400e1f7d058d8c8c47b4ccb1d61ce6aa03adb60d", func := "pawnshop/pawnshoplaw02.ShapeTypes", spec := "shapeTypes", apart := false }
def ShapeTypesSaid : Prop := shapeTypesRow.holds Try.pinned (OpenSpec.ofChange shapeTypesSpec)

/-- ITS FALSE NEIGHBOUR: 'it returns false'. Refute it at one input. -/
def shapeTypesWrong : ChangeSpec := { name := "shapeTypes", fn := fun _ => fun
  | [d] => { results := [.lit (.bool false)], args := [d] }
  | _ => none }
def ShapeTypesWrongFalsely : Prop := shapeTypesRow.holds Try.pinned (OpenSpec.ofChange shapeTypesWrong)

/-- 'pawnshoplaw02.ShapeTargets': WHATEVER THE INPUT: true; the input reads as it did. -/
def shapeTargetsSpec : ChangeSpec := { name := "shapeTargets", fn := fun _ => fun
  | [d] => { results := [.lit (.bool true)], args := [d] }
  | _ => none }
def shapeTargetsRow : OpenClaim := { program := "ythkfadnkonokdaa", sum := "6ea138d0a942072c69b8e934400e1f7d058d8c8c47b4ccb1d61ce6aa03adb60d", func := "pawnshop/pawnshoplaw02.ShapeTargets", spec := "shapeTargets", apart := false }
def ShapeTargetsSaid : Prop := shapeTargetsRow.holds Try.pinned (OpenSpec.ofChange shapeTargetsSpec)

/-- ITS FALSE NEIGHBOUR: 'it returns false'. Refute it at one input. -/
def shapeTargetsWrong : ChangeSpec := { name := "shapeTargets", fn := fun _ => fun
  | [d] => { results := [.lit (.bool false)], args := [d] }
  | _ => none }
def ShapeTargetsWrongFalsely : Prop := shapeTargetsRow.holds Try.pinned (OpenSpec.ofChange shapeTargetsWrong)

/-- 'pawnshoplaw02.ShapeReads': WHATEVER THE INPUT: true; the input reads as it did. -/
def shapeReadsSpec : ChangeSpec := { name := "shapeReads", fn := fun _ => fun
  | [d1, d2] => { results := [.lit (.bool true)], args := [d1, d2] }
  | _ => none }
def shapeReadsRow : OpenClaim := { program := "ythkfadnkonokdaa", sum := "6ea138d0a942072c69b8e934400e1f7d058d8c8c47b4ccb1d61ce6aa03adb60d", func := "pawnshop/pawnshoplaw02.ShapeReads", spec := "shapeReads", apart := false }
def ShapeReadsSaid : Prop := shapeReadsRow.holds Try.pinned (OpenSpec.ofChange shapeReadsSpec)

/-- ITS FALSE NEIGHBOUR: 'it returns false'. Refute it at one input. -/
def shapeReadsWrong : ChangeSpec := { name := "shapeReads", fn := fun _ => fun
  | [d1, d2] => { results := [.lit (.bool false)], args := [d1, d2] }
  | _ => none }
def ShapeReadsWrongFalsely : Prop := shapeReadsRow.holds Try.pinned (OpenSpec.ofChange shapeReadsWrong)

/-- 'pawnshoplaw02.ShapeTexts': WHATEVER THE INPUT: true; the input reads as it did. -/
def shapeTextsSpec : ChangeSpec := { name := "shapeTexts", fn := fun _ => fun
  | [d] => { results := [.lit (.bool true)], args := [d] }
  | _ => none }
def shapeTextsRow : OpenClaim := { program := "ythkfadnkonokdaa", sum := "6ea138d0a942072c69b8e934400e1f7d058d8c8c47b4ccb1d61ce6aa03adb60d", func := "pawnshop/pawnshoplaw02.ShapeTexts", spec := "shapeTexts", apart := false }
def ShapeTextsSaid : Prop := shapeTextsRow.holds Try.pinned (OpenSpec.ofChange shapeTextsSpec)

/-- ITS FALSE NEIGHBOUR: 'it returns false'. Refute it at one input. -/
def shapeTextsWrong : ChangeSpec := { name := "shapeTexts", fn := fun _ => fun
  | [d] => { results := [.lit (.bool false)], args := [d] }
  | _ => none }
def ShapeTextsWrongFalsely : Prop := shapeTextsRow.holds Try.pinned (OpenSpec.ofChange shapeTextsWrong)

/-- 'pawnshoplaw02.ShapeNames': WHATEVER THE INPUT: true; the input reads as it did. -/
def shapeNamesSpec : ChangeSpec := { name := "shapeNames", fn := fun _ => fun
  | [] => { results := [.lit (.bool true)], args := [] }
  | _ => none }
def shapeNamesRow : OpenClaim := { program := "ythkfadnkonokdaa", sum := "6ea138d0a942072c69b8e934400e1f7d058d8c8c47b4ccb1d61ce6aa03adb60d", func := "pawnshop/pawnshoplaw02.ShapeNames", spec := "shapeNames", apart := false }
def ShapeNamesSaid : Prop := shapeNamesRow.holds Try.pinned (OpenSpec.ofChange shapeNamesSpec)

/-- ITS FALSE NEIGHBOUR: 'it returns false'. Refute it at one input. -/
def shapeNamesWrong : ChangeSpec := { name := "shapeNames", fn := fun _ => fun
  | [] => { results := [.lit (.bool false)], args := [] }
  | _ => none }
def ShapeNamesWrongFalsely : Prop := shapeNamesRow.holds Try.pinned (OpenSpec.ofChange shapeNamesWrong)

/-- 'pawnshoplaw02.ShapeOnce': WHATEVER THE INPUT: true; the input reads as it did. -/
def shapeOnceSpec : ChangeSpec := { name := "shapeOnce", fn := fun _ => fun
  | [d1, d2] => { results := [.lit (.bool true)], args := [d1, d2] }
  | _ => none }
def shapeOnceRow : OpenClaim := { program := "ythkfadnkonokdaa", sum := "6ea138d0a942072c69b8e934400e1f7d058d8c8c47b4ccb1d61ce6aa03adb60d", func := "pawnshop/pawnshoplaw02.ShapeOnce", spec := "shapeOnce", apart := false }
def ShapeOnceSaid : Prop := shapeOnceRow.holds Try.pinned (OpenSpec.ofChange shapeOnceSpec)

/-- ITS FALSE NEIGHBOUR: 'it returns false'. Refute it at one input. -/
def shapeOnceWrong : ChangeSpec := { name := "shapeOnce", fn := fun _ => fun
  | [d1, d2] => { results := [.lit (.bool false)], args := [d1, d2] }
  | _ => none }
def ShapeOnceWrongFalsely : Prop := shapeOnceRow.holds Try.pinned (OpenSpec.ofChange shapeOnceWrong)

/- THE SECOND FORM. 'bulk': how many values and letters a reading holds, each counted each time it is reached (what is shared counts as often as it is met; a slice's spare places count too). A statement '..UptoSaid' is the law's where the arguments, and the package variables that the reading takes, are together of bulk at most 1048576: NARROWER than '..Said'. Prove '..Said' where nothing that the law and all that it calls make is longer than what came in: it says more and counts as full. Else prove '..UptoSaid'. A law counts once. -/
mutual
def uptoBulk {H : Type} : DataW H → Nat
  | .lit (.string bytes) => bytes.length + 1
  | .lit _ => 1
  | .nil => 1
  | .ptr d => uptoBulk d + 1
  | .slice elems spare => uptoBulkAll elems + uptoBulkAll spare + 1
  | .agg parts => uptoBulkAll parts + 1
  | .iface _ d => uptoBulk d + 1
  | .map entries => uptoBulkEntries entries + 1
  | .held _ => 1
def uptoBulkAll {H : Type} : List (DataW H) → Nat
  | [] => 0
  | d :: r => uptoBulk d + uptoBulkAll r
def uptoBulkEntries {H : Type} : List (Lit × DataW H) → Nat
  | [] => 0
  | x :: r => uptoBulkEntry x + uptoBulkEntries r
def uptoBulkEntry {H : Type} : Lit × DataW H → Nat
  | (.string bytes, d) => bytes.length + uptoBulk d + 1
  | (_, d) => uptoBulk d + 1
 end
def uptoSmall : (H : Type) → List (DataW H) → Bool := fun _ ds => decide (uptoBulkAll ds ≤ 1048576)
def OpenSpec.upto (s : _root_.Go.ChangeSpec) : _root_.Go.OpenSpec := { _root_.Go.OpenSpec.ofChange s with cond := some uptoSmall }

/-- 'pawnshoplaw02.ShapeTypes', WHERE WHAT IT READS IS OF BULK AT MOST 1048576: true; the input reads as it did. -/
def shapeTypesUptoRow : OpenClaim := { program := "ythkfadnkonokdaa", sum := "6ea138d0a942072c69b8e934400e1f7d058d8c8c47b4ccb1d61ce6aa03adb60d", func := "pawnshop/pawnshoplaw02.ShapeTypes", spec := "shapeTypes", apart := false, narrowed := true }
def ShapeTypesUptoSaid : Prop := shapeTypesUptoRow.holds Try.pinned (OpenSpec.upto shapeTypesSpec)

/-- 'pawnshoplaw02.ShapeTargets', WHERE WHAT IT READS IS OF BULK AT MOST 1048576: true; the input reads as it did. -/
def shapeTargetsUptoRow : OpenClaim := { program := "ythkfadnkonokdaa", sum := "6ea138d0a942072c69b8e934400e1f7d058d8c8c47b4ccb1d61ce6aa03adb60d", func := "pawnshop/pawnshoplaw02.ShapeTargets", spec := "shapeTargets", apart := false, narrowed := true }
def ShapeTargetsUptoSaid : Prop := shapeTargetsUptoRow.holds Try.pinned (OpenSpec.upto shapeTargetsSpec)

/-- 'pawnshoplaw02.ShapeReads', WHERE WHAT IT READS IS OF BULK AT MOST 1048576: true; the input reads as it did. -/
def shapeReadsUptoRow : OpenClaim := { program := "ythkfadnkonokdaa", sum := "6ea138d0a942072c69b8e934400e1f7d058d8c8c47b4ccb1d61ce6aa03adb60d", func := "pawnshop/pawnshoplaw02.ShapeReads", spec := "shapeReads", apart := false, narrowed := true }
def ShapeReadsUptoSaid : Prop := shapeReadsUptoRow.holds Try.pinned (OpenSpec.upto shapeReadsSpec)

/-- 'pawnshoplaw02.ShapeTexts', WHERE WHAT IT READS IS OF BULK AT MOST 1048576: true; the input reads as it did. -/
def shapeTextsUptoRow : OpenClaim := { program := "ythkfadnkonokdaa", sum := "6ea138d0a942072c69b8e934400e1f7d058d8c8c47b4ccb1d61ce6aa03adb60d", func := "pawnshop/pawnshoplaw02.ShapeTexts", spec := "shapeTexts", apart := false, narrowed := true }
def ShapeTextsUptoSaid : Prop := shapeTextsUptoRow.holds Try.pinned (OpenSpec.upto shapeTextsSpec)

/-- 'pawnshoplaw02.ShapeNames', WHERE WHAT IT READS IS OF BULK AT MOST 1048576: true; the input reads as it did. -/
def shapeNamesUptoRow : OpenClaim := { program := "ythkfadnkonokdaa", sum := "6ea138d0a942072c69b8e934400e1f7d058d8c8c47b4ccb1d61ce6aa03adb60d", func := "pawnshop/pawnshoplaw02.ShapeNames", spec := "shapeNames", apart := false, narrowed := true }
def ShapeNamesUptoSaid : Prop := shapeNamesUptoRow.holds Try.pinned (OpenSpec.upto shapeNamesSpec)

/-- 'pawnshoplaw02.ShapeOnce', WHERE WHAT IT READS IS OF BULK AT MOST 1048576: true; the input reads as it did. -/
def shapeOnceUptoRow : OpenClaim := { program := "ythkfadnkonokdaa", sum := "6ea138d0a942072c69b8e934400e1f7d058d8c8c47b4ccb1d61ce6aa03adb60d", func := "pawnshop/pawnshoplaw02.ShapeOnce", spec := "shapeOnce", apart := false, narrowed := true }
def ShapeOnceUptoSaid : Prop := shapeOnceUptoRow.holds Try.pinned (OpenSpec.upto shapeOnceSpec)

end Rows
end Go.Proofs.Ythkfadnkonokdaa
