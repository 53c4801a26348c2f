/-
  No cell of these rows narrows 'for every input' (looked for: loops, veiled, ifaces, maps, wideKeys, modest, calm, conditions, laid).
  DERIVED. THE GIVEN ROWS OF THIS SEAT. 6 by the template 'for every input the law returns true; each argument reads behind the call as it read before'; 0 by the template 'total and deterministic' (their statements: YtmjklmdjlojmlaaTotals.lean).
  GIVEN WITH THE SEED: the statements are not yours to turn. If you find one false, say at which input.
  Laid BY PROGRAM, IN A SANDBOX (cutbox-rows.mjs): the forced cells as the released guide's own fill.sh prints them over the translation c1ac97783ed8f870… (all of the seat's roots in one cut). By AI agents, Wed Nov 11 2026. No macro, syntax, notation, axiom, sorry.
-/
import Derived.Test.YtmjklmdjlojmlaaChecked
import GoSem.Claim
import GoSem.ClaimJoined
import GoSem.ClaimMapViews
import Derived.JoinedTies
import Derived.KernelRfl
namespace Go.Proofs.Ytmjklmdjlojmlaa
/- THE CELL 'sum', in the pinned program and in every row, IS THE sha256 OF THE DUMP (.gsa) THAT YtmjklmdjlojmlaaProg.lean LOADS. Nothing in Lean hashes anything: it is a label: what it is worth is what the hold of that sum in a sandbox is worth. -/
noncomputable def Try.pinned : Pinned := { name := "ytmjklmdjlojmlaa", sum := "c1ac97783ed8f8700ea79fb626070faee47fa08e1eede369743df9bcb3b472ee", checked := Try.checked }
namespace Rows
def none {H : Type} : Left H := { results := [], args := [] }

/-- 'pawnshoplaw13.PlacingHalves': WHATEVER THE INPUT: true; the input reads as it did. -/
def placingHalvesSpec : ChangeSpec := { name := "placingHalves", fn := fun _ => fun
  | [d1, d2] => { results := [.lit (.bool true)], args := [d1, d2] }
  | _ => none }
def placingHalvesRow : OpenClaim := { program := "ytmjklmdjlojmlaa", sum := "c1ac97783ed8f8700ea79fb626070faee47fa08e1eede369743df9bcb3b472ee", func := "pawnshop/pawnshoplaw13.PlacingHalves", spec := "placingHalves", apart := false }
def PlacingHalvesSaid : Prop := placingHalvesRow.holds Try.pinned (OpenSpec.ofChange placingHalvesSpec)

/-- ITS FALSE NEIGHBOUR: 'it returns false'. Refute it at one input. -/
def placingHalvesWrong : ChangeSpec := { name := "placingHalves", fn := fun _ => fun
  | [d1, d2] => { results := [.lit (.bool false)], args := [d1, d2] }
  | _ => none }
def PlacingHalvesWrongFalsely : Prop := placingHalvesRow.holds Try.pinned (OpenSpec.ofChange placingHalvesWrong)

/-- 'pawnshoplaw13.PlacingLocals': WHATEVER THE INPUT: true; the input reads as it did. -/
def placingLocalsSpec : ChangeSpec := { name := "placingLocals", fn := fun _ => fun
  | [d1, d2, d3] => { results := [.lit (.bool true)], args := [d1, d2, d3] }
  | _ => none }
def placingLocalsRow : OpenClaim := { program := "ytmjklmdjlojmlaa", sum := "c1ac97783ed8f8700ea79fb626070faee47fa08e1eede369743df9bcb3b472ee", func := "pawnshop/pawnshoplaw13.PlacingLocals", spec := "placingLocals", apart := false }
def PlacingLocalsSaid : Prop := placingLocalsRow.holds Try.pinned (OpenSpec.ofChange placingLocalsSpec)

/-- ITS FALSE NEIGHBOUR: 'it returns false'. Refute it at one input. -/
def placingLocalsWrong : ChangeSpec := { name := "placingLocals", fn := fun _ => fun
  | [d1, d2, d3] => { results := [.lit (.bool false)], args := [d1, d2, d3] }
  | _ => none }
def PlacingLocalsWrongFalsely : Prop := placingLocalsRow.holds Try.pinned (OpenSpec.ofChange placingLocalsWrong)

/-- 'pawnshoplaw13.PlacingTells': WHATEVER THE INPUT: true; the input reads as it did. -/
def placingTellsSpec : ChangeSpec := { name := "placingTells", fn := fun _ => fun
  | [d1, d2] => { results := [.lit (.bool true)], args := [d1, d2] }
  | _ => none }
def placingTellsRow : OpenClaim := { program := "ytmjklmdjlojmlaa", sum := "c1ac97783ed8f8700ea79fb626070faee47fa08e1eede369743df9bcb3b472ee", func := "pawnshop/pawnshoplaw13.PlacingTells", spec := "placingTells", apart := false }
def PlacingTellsSaid : Prop := placingTellsRow.holds Try.pinned (OpenSpec.ofChange placingTellsSpec)

/-- ITS FALSE NEIGHBOUR: 'it returns false'. Refute it at one input. -/
def placingTellsWrong : ChangeSpec := { name := "placingTells", fn := fun _ => fun
  | [d1, d2] => { results := [.lit (.bool false)], args := [d1, d2] }
  | _ => none }
def PlacingTellsWrongFalsely : Prop := placingTellsRow.holds Try.pinned (OpenSpec.ofChange placingTellsWrong)

/-- 'pawnshoplaw13.PlacingNames': WHATEVER THE INPUT: true; the input reads as it did. -/
def placingNamesSpec : ChangeSpec := { name := "placingNames", fn := fun _ => fun
  | [] => { results := [.lit (.bool true)], args := [] }
  | _ => none }
def placingNamesRow : OpenClaim := { program := "ytmjklmdjlojmlaa", sum := "c1ac97783ed8f8700ea79fb626070faee47fa08e1eede369743df9bcb3b472ee", func := "pawnshop/pawnshoplaw13.PlacingNames", spec := "placingNames", apart := false }
def PlacingNamesSaid : Prop := placingNamesRow.holds Try.pinned (OpenSpec.ofChange placingNamesSpec)

/-- ITS FALSE NEIGHBOUR: 'it returns false'. Refute it at one input. -/
def placingNamesWrong : ChangeSpec := { name := "placingNames", fn := fun _ => fun
  | [] => { results := [.lit (.bool false)], args := [] }
  | _ => none }
def PlacingNamesWrongFalsely : Prop := placingNamesRow.holds Try.pinned (OpenSpec.ofChange placingNamesWrong)

/-- 'pawnshoplaw13.PlacingWrite': WHATEVER THE INPUT: true; the input reads as it did. -/
def placingWriteSpec : ChangeSpec := { name := "placingWrite", fn := fun _ => fun
  | [d1, d2] => { results := [.lit (.bool true)], args := [d1, d2] }
  | _ => none }
def placingWriteRow : OpenClaim := { program := "ytmjklmdjlojmlaa", sum := "c1ac97783ed8f8700ea79fb626070faee47fa08e1eede369743df9bcb3b472ee", func := "pawnshop/pawnshoplaw13.PlacingWrite", spec := "placingWrite", apart := false }
def PlacingWriteSaid : Prop := placingWriteRow.holds Try.pinned (OpenSpec.ofChange placingWriteSpec)

/-- ITS FALSE NEIGHBOUR: 'it returns false'. Refute it at one input. -/
def placingWriteWrong : ChangeSpec := { name := "placingWrite", fn := fun _ => fun
  | [d1, d2] => { results := [.lit (.bool false)], args := [d1, d2] }
  | _ => none }
def PlacingWriteWrongFalsely : Prop := placingWriteRow.holds Try.pinned (OpenSpec.ofChange placingWriteWrong)

/-- 'pawnshoplaw13.PlacingOverlap': WHATEVER THE INPUT: true; the input reads as it did. -/
def placingOverlapSpec : ChangeSpec := { name := "placingOverlap", fn := fun _ => fun
  | [d1, d2, d3] => { results := [.lit (.bool true)], args := [d1, d2, d3] }
  | _ => none }
def placingOverlapRow : OpenClaim := { program := "ytmjklmdjlojmlaa", sum := "c1ac97783ed8f8700ea79fb626070faee47fa08e1eede369743df9bcb3b472ee", func := "pawnshop/pawnshoplaw13.PlacingOverlap", spec := "placingOverlap", apart := false }
def PlacingOverlapSaid : Prop := placingOverlapRow.holds Try.pinned (OpenSpec.ofChange placingOverlapSpec)

/-- ITS FALSE NEIGHBOUR: 'it returns false'. Refute it at one input. -/
def placingOverlapWrong : ChangeSpec := { name := "placingOverlap", fn := fun _ => fun
  | [d1, d2, d3] => { results := [.lit (.bool false)], args := [d1, d2, d3] }
  | _ => none }
def PlacingOverlapWrongFalsely : Prop := placingOverlapRow.holds Try.pinned (OpenSpec.ofChange placingOverlapWrong)

/- THE SECOND FORM. 'bulk': how many values and letters a reading holds, each counted each time it is reached (what is shared counts as often as it is met; a slice's spare places count too). A statement '..UptoSaid' is the law's where the arguments, and the package variables that the reading takes, are together of bulk at most 1048576: NARROWER than '..Said'. Prove '..Said' where nothing that the law and all that it calls make is longer than what came in: it says more and counts as full. Else prove '..UptoSaid'. A law counts once. -/
mutual
def uptoBulk {H : Type} : DataW H → Nat
  | .lit (.string bytes) => bytes.length + 1
  | .lit _ => 1
  | .nil => 1
  | .ptr d => uptoBulk d + 1
  | .slice elems spare => uptoBulkAll elems + uptoBulkAll spare + 1
  | .agg parts => uptoBulkAll parts + 1
  | .iface _ d => uptoBulk d + 1
  | .map entries => uptoBulkEntries entries + 1
  | .held _ => 1
def uptoBulkAll {H : Type} : List (DataW H) → Nat
  | [] => 0
  | d :: r => uptoBulk d + uptoBulkAll r
def uptoBulkEntries {H : Type} : List (Lit × DataW H) → Nat
  | [] => 0
  | x :: r => uptoBulkEntry x + uptoBulkEntries r
def uptoBulkEntry {H : Type} : Lit × DataW H → Nat
  | (.string bytes, d) => bytes.length + uptoBulk d + 1
  | (_, d) => uptoBulk d + 1
 end
def uptoSmall : (H : Type) → List (DataW H) → Bool := fun _ ds => decide (uptoBulkAll ds ≤ 1048576)
def OpenSpec.upto (s : _root_.Go.ChangeSpec) : _root_.Go.OpenSpec := { _root_.Go.OpenSpec.ofChange s with cond := some uptoSmall }

/-- 'pawnshoplaw13.PlacingHalves', WHERE WHAT IT READS IS OF BULK AT MOST 1048576: true; the input reads as it did. -/
def placingHalvesUptoRow : OpenClaim := { program := "ytmjklmdjlojmlaa", sum := "c1ac97783ed8f8700ea79fb626070faee47fa08e1eede369743df9bcb3b472ee", func := "pawnshop/pawnshoplaw13.PlacingHalves", spec := "placingHalves", apart := false, narrowed := true }
def PlacingHalvesUptoSaid : Prop := placingHalvesUptoRow.holds Try.pinned (OpenSpec.upto placingHalvesSpec)

/-- 'pawnshoplaw13.PlacingLocals', WHERE WHAT IT READS IS OF BULK AT MOST 1048576: true; the input reads as it did. -/
def placingLocalsUptoRow : OpenClaim := { program := "ytmjklmdjlojmlaa", sum := "c1ac97783ed8f8700ea79fb626070faee47fa08e1eede369743df9bcb3b472ee", func := "pawnshop/pawnshoplaw13.PlacingLocals", spec := "placingLocals", apart := false, narrowed := true }
def PlacingLocalsUptoSaid : Prop := placingLocalsUptoRow.holds Try.pinned (OpenSpec.upto placingLocalsSpec)

/-- 'pawnshoplaw13.PlacingTells', WHERE WHAT IT READS IS OF BULK AT MOST 1048576: true; the input reads as it did. -/
def placingTellsUptoRow : OpenClaim := { program := "ytmjklmdjlojmlaa", sum := "c1ac97783ed8f8700ea79fb626070faee47fa08e1eede369743df9bcb3b472ee", func := "pawnshop/pawnshoplaw13.PlacingTells", spec := "placingTells", apart := false, narrowed := true }
def PlacingTellsUptoSaid : Prop := placingTellsUptoRow.holds Try.pinned (OpenSpec.upto placingTellsSpec)

/-- 'pawnshoplaw13.PlacingNames', WHERE WHAT IT READS IS OF BULK AT MOST 1048576: true; the input reads as it did. -/
def placingNamesUptoRow : OpenClaim := { program := "ytmjklmdjlojmlaa", sum := "c1ac97783ed8f8700ea79fb626070faee47fa08e1eede369743df9bcb3b472ee", func := "pawnshop/pawnshoplaw13.PlacingNames", spec := "placingNames", apart := false, narrowed := true }
def PlacingNamesUptoSaid : Prop := placingNamesUptoRow.holds Try.pinned (OpenSpec.upto placingNamesSpec)

/-- 'pawnshoplaw13.PlacingWrite', WHERE WHAT IT READS IS OF BULK AT MOST 1048576: true; the input reads as it did. -/
def placingWriteUptoRow : OpenClaim := { program := "ytmjklmdjlojmlaa", sum := "c1ac97783ed8f8700ea79fb626070faee47fa08e1eede369743df9bcb3b472ee", func := "pawnshop/pawnshoplaw13.PlacingWrite", spec := "placingWrite", apart := false, narrowed := true }
def PlacingWriteUptoSaid : Prop := placingWriteUptoRow.holds Try.pinned (OpenSpec.upto placingWriteSpec)

/-- 'pawnshoplaw13.PlacingOverlap', WHERE WHAT IT READS IS OF BULK AT MOST 1048576: true; the input reads as it did. -/
def placingOverlapUptoRow : OpenClaim := { program := "ytmjklmdjlojmlaa", sum := "c1ac97783ed8f8700ea79fb626070faee47fa08e1eede369743df9bcb3b472ee", func := "pawnshop/pawnshoplaw13.PlacingOverlap", spec := "placingOverlap", apart := false, narrowed := true }
def PlacingOverlapUptoSaid : Prop := placingOverlapUptoRow.holds Try.pinned (OpenSpec.upto placingOverlapSpec)

end Rows
end Go.Proofs.Ytmjklmdjlojmlaa
