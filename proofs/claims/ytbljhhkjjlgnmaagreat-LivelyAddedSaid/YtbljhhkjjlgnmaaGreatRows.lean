/-
  No cell of these rows narrows 'for every input' (looked for: loops, veiled, ifaces, maps, wideKeys, modest, calm, conditions, laid).
  DERIVED. THE GIVEN ROWS OF THIS SEAT. 10 by the template 'for every input the law returns true; each argument reads behind the call as it read before'; 0 by the template 'total and deterministic' (their statements: YtbljhhkjjlgnmaaGreatTotals.lean).
  GIVEN WITH THE SEED: the statements are not yours to turn. If you find one false, say at which input.
  Laid BY PROGRAM, IN A SANDBOX (cutbox-rows.mjs): the forced cells as the released guide's own fill.sh prints them over the translation 8d5fb0d1378fca11… (all of the seat's roots in one cut). By AI agents, Wed Nov 11 2026. No macro, syntax, notation, axiom, sorry.
-/
import Derived.Test.YtbljhhkjjlgnmaaGreatChecked
import GoSem.Claim
import GoSem.ClaimJoined
import GoSem.ClaimMapViews
import Derived.JoinedTies
import Derived.KernelRfl
namespace Go.Proofs.YtbljhhkjjlgnmaaGreat
/- THE CELL 'sum', in the pinned program and in every row, IS THE sha256 OF THE DUMP (.gsa) THAT YtbljhhkjjlgnmaaGreatProg.lean LOADS. Nothing in Lean hashes anything: it is a label: what it is worth is what the hold of that sum in a sandbox is worth. -/
noncomputable def Tryz.pinned : Pinned := { name := "ytbljhhkjjlgnmaagreat", sum := "8d5fb0d1378fca11ec36c24a66a851d2d752acb6d703d8025538318686e7596b", checked := Tryz.checked }
namespace Rows
def none {H : Type} : Left H := { results := [], args := [] }

/-- 'pawnshoplaw15.InitsSets': WHATEVER THE INPUT: true; the input reads as it did. -/
def initsSetsSpec : ChangeSpec := { name := "initsSets", fn := fun _ => fun
  | [d] => { results := [.lit (.bool true)], args := [d] }
  | _ => none }
def initsSetsRow : OpenClaim := { program := "ytbljhhkjjlgnmaagreat", sum := "8d5fb0d1378fca11ec36c24a66a851d2d752acb6d703d8025538318686e7596b", func := "pawnshop/pawnshoplaw15.InitsSets", spec := "initsSets", unfollowed := true, recurses := true, apart := false }
def InitsSetsSaid : Prop := initsSetsRow.holds Tryz.pinned (OpenSpec.ofChange initsSetsSpec)

/-- ITS FALSE NEIGHBOUR: 'it returns false'. Refute it at one input. -/
def initsSetsWrong : ChangeSpec := { name := "initsSets", fn := fun _ => fun
  | [d] => { results := [.lit (.bool false)], args := [d] }
  | _ => none }
def InitsSetsWrongFalsely : Prop := initsSetsRow.holds Tryz.pinned (OpenSpec.ofChange initsSetsWrong)

/-- 'pawnshoplaw15.InitsWays': WHATEVER THE INPUT: true; the input reads as it did. -/
def initsWaysSpec : ChangeSpec := { name := "initsWays", fn := fun _ => fun
  | [d1, d2] => { results := [.lit (.bool true)], args := [d1, d2] }
  | _ => none }
def initsWaysRow : OpenClaim := { program := "ytbljhhkjjlgnmaagreat", sum := "8d5fb0d1378fca11ec36c24a66a851d2d752acb6d703d8025538318686e7596b", func := "pawnshop/pawnshoplaw15.InitsWays", spec := "initsWays", unfollowed := true, recurses := true, apart := false }
def InitsWaysSaid : Prop := initsWaysRow.holds Tryz.pinned (OpenSpec.ofChange initsWaysSpec)

/-- ITS FALSE NEIGHBOUR: 'it returns false'. Refute it at one input. -/
def initsWaysWrong : ChangeSpec := { name := "initsWays", fn := fun _ => fun
  | [d1, d2] => { results := [.lit (.bool false)], args := [d1, d2] }
  | _ => none }
def InitsWaysWrongFalsely : Prop := initsWaysRow.holds Tryz.pinned (OpenSpec.ofChange initsWaysWrong)

/-- 'pawnshoplaw15.InitsFirst': WHATEVER THE INPUT: true; the input reads as it did. -/
def initsFirstSpec : ChangeSpec := { name := "initsFirst", fn := fun _ => fun
  | [d] => { results := [.lit (.bool true)], args := [d] }
  | _ => none }
def initsFirstRow : OpenClaim := { program := "ytbljhhkjjlgnmaagreat", sum := "8d5fb0d1378fca11ec36c24a66a851d2d752acb6d703d8025538318686e7596b", func := "pawnshop/pawnshoplaw15.InitsFirst", spec := "initsFirst", unfollowed := true, recurses := true, apart := false }
def InitsFirstSaid : Prop := initsFirstRow.holds Tryz.pinned (OpenSpec.ofChange initsFirstSpec)

/-- ITS FALSE NEIGHBOUR: 'it returns false'. Refute it at one input. -/
def initsFirstWrong : ChangeSpec := { name := "initsFirst", fn := fun _ => fun
  | [d] => { results := [.lit (.bool false)], args := [d] }
  | _ => none }
def InitsFirstWrongFalsely : Prop := initsFirstRow.holds Tryz.pinned (OpenSpec.ofChange initsFirstWrong)

/-- 'pawnshoplaw15.InitsMeets': WHATEVER THE INPUT: true; the input reads as it did. -/
def initsMeetsSpec : ChangeSpec := { name := "initsMeets", fn := fun _ => fun
  | [d] => { results := [.lit (.bool true)], args := [d] }
  | _ => none }
def initsMeetsRow : OpenClaim := { program := "ytbljhhkjjlgnmaagreat", sum := "8d5fb0d1378fca11ec36c24a66a851d2d752acb6d703d8025538318686e7596b", func := "pawnshop/pawnshoplaw15.InitsMeets", spec := "initsMeets", unfollowed := true, recurses := true, apart := false }
def InitsMeetsSaid : Prop := initsMeetsRow.holds Tryz.pinned (OpenSpec.ofChange initsMeetsSpec)

/-- ITS FALSE NEIGHBOUR: 'it returns false'. Refute it at one input. -/
def initsMeetsWrong : ChangeSpec := { name := "initsMeets", fn := fun _ => fun
  | [d] => { results := [.lit (.bool false)], args := [d] }
  | _ => none }
def InitsMeetsWrongFalsely : Prop := initsMeetsRow.holds Tryz.pinned (OpenSpec.ofChange initsMeetsWrong)

/-- 'pawnshoplaw16.LivelyAdded': WHATEVER THE INPUT: true; the input reads as it did. -/
def livelyAddedSpec : ChangeSpec := { name := "livelyAdded", fn := fun _ => fun
  | [d1, d2, d3] => { results := [.lit (.bool true)], args := [d1, d2, d3] }
  | _ => none }
def livelyAddedRow : OpenClaim := { program := "ytbljhhkjjlgnmaagreat", sum := "8d5fb0d1378fca11ec36c24a66a851d2d752acb6d703d8025538318686e7596b", func := "pawnshop/pawnshoplaw16.LivelyAdded", spec := "livelyAdded", inPlace := ["slices.overlaps[int]"], unfollowed := true, recurses := true, apart := false }
def LivelyAddedSaid : Prop := livelyAddedRow.holds Tryz.pinned (OpenSpec.ofChange livelyAddedSpec)

/-- ITS FALSE NEIGHBOUR: 'it returns false'. Refute it at one input. -/
def livelyAddedWrong : ChangeSpec := { name := "livelyAdded", fn := fun _ => fun
  | [d1, d2, d3] => { results := [.lit (.bool false)], args := [d1, d2, d3] }
  | _ => none }
def LivelyAddedWrongFalsely : Prop := livelyAddedRow.holds Tryz.pinned (OpenSpec.ofChange livelyAddedWrong)

/-- 'pawnshoplaw16.LivelyLives': WHATEVER THE INPUT: true; the input reads as it did. -/
def livelyLivesSpec : ChangeSpec := { name := "livelyLives", fn := fun _ => fun
  | [d1, d2] => { results := [.lit (.bool true)], args := [d1, d2] }
  | _ => none }
def livelyLivesRow : OpenClaim := { program := "ytbljhhkjjlgnmaagreat", sum := "8d5fb0d1378fca11ec36c24a66a851d2d752acb6d703d8025538318686e7596b", func := "pawnshop/pawnshoplaw16.LivelyLives", spec := "livelyLives", inPlace := ["slices.overlaps[int]"], unfollowed := true, recurses := true, apart := false }
def LivelyLivesSaid : Prop := livelyLivesRow.holds Tryz.pinned (OpenSpec.ofChange livelyLivesSpec)

/-- ITS FALSE NEIGHBOUR: 'it returns false'. Refute it at one input. -/
def livelyLivesWrong : ChangeSpec := { name := "livelyLives", fn := fun _ => fun
  | [d1, d2] => { results := [.lit (.bool false)], args := [d1, d2] }
  | _ => none }
def LivelyLivesWrongFalsely : Prop := livelyLivesRow.holds Tryz.pinned (OpenSpec.ofChange livelyLivesWrong)

/-- 'pawnshoplaw16.LivelyNames': WHATEVER THE INPUT: true; the input reads as it did. -/
def livelyNamesSpec : ChangeSpec := { name := "livelyNames", fn := fun _ => fun
  | [] => { results := [.lit (.bool true)], args := [] }
  | _ => none }
def livelyNamesRow : OpenClaim := { program := "ytbljhhkjjlgnmaagreat", sum := "8d5fb0d1378fca11ec36c24a66a851d2d752acb6d703d8025538318686e7596b", func := "pawnshop/pawnshoplaw16.LivelyNames", spec := "livelyNames", inPlace := ["slices.overlaps[int]"], unfollowed := true, recurses := true, apart := false }
def LivelyNamesSaid : Prop := livelyNamesRow.holds Tryz.pinned (OpenSpec.ofChange livelyNamesSpec)

/-- ITS FALSE NEIGHBOUR: 'it returns false'. Refute it at one input. -/
def livelyNamesWrong : ChangeSpec := { name := "livelyNames", fn := fun _ => fun
  | [] => { results := [.lit (.bool false)], args := [] }
  | _ => none }
def LivelyNamesWrongFalsely : Prop := livelyNamesRow.holds Tryz.pinned (OpenSpec.ofChange livelyNamesWrong)

/-- 'pawnshoplaw16.LivelyLeast': WHATEVER THE INPUT: true; the input reads as it did. -/
def livelyLeastSpec : ChangeSpec := { name := "livelyLeast", fn := fun _ => fun
  | [d1, d2] => { results := [.lit (.bool true)], args := [d1, d2] }
  | _ => none }
def livelyLeastRow : OpenClaim := { program := "ytbljhhkjjlgnmaagreat", sum := "8d5fb0d1378fca11ec36c24a66a851d2d752acb6d703d8025538318686e7596b", func := "pawnshop/pawnshoplaw16.LivelyLeast", spec := "livelyLeast", inPlace := ["slices.overlaps[int]"], unfollowed := true, recurses := true, apart := false }
def LivelyLeastSaid : Prop := livelyLeastRow.holds Tryz.pinned (OpenSpec.ofChange livelyLeastSpec)

/-- ITS FALSE NEIGHBOUR: 'it returns false'. Refute it at one input. -/
def livelyLeastWrong : ChangeSpec := { name := "livelyLeast", fn := fun _ => fun
  | [d1, d2] => { results := [.lit (.bool false)], args := [d1, d2] }
  | _ => none }
def LivelyLeastWrongFalsely : Prop := livelyLeastRow.holds Tryz.pinned (OpenSpec.ofChange livelyLeastWrong)

/-- 'pawnshoplaw16.LivelyWays': WHATEVER THE INPUT: true; the input reads as it did. -/
def livelyWaysSpec : ChangeSpec := { name := "livelyWays", fn := fun _ => fun
  | [d1, d2] => { results := [.lit (.bool true)], args := [d1, d2] }
  | _ => none }
def livelyWaysRow : OpenClaim := { program := "ytbljhhkjjlgnmaagreat", sum := "8d5fb0d1378fca11ec36c24a66a851d2d752acb6d703d8025538318686e7596b", func := "pawnshop/pawnshoplaw16.LivelyWays", spec := "livelyWays", inPlace := ["slices.overlaps[int]"], unfollowed := true, recurses := true, apart := false }
def LivelyWaysSaid : Prop := livelyWaysRow.holds Tryz.pinned (OpenSpec.ofChange livelyWaysSpec)

/-- ITS FALSE NEIGHBOUR: 'it returns false'. Refute it at one input. -/
def livelyWaysWrong : ChangeSpec := { name := "livelyWays", fn := fun _ => fun
  | [d1, d2] => { results := [.lit (.bool false)], args := [d1, d2] }
  | _ => none }
def LivelyWaysWrongFalsely : Prop := livelyWaysRow.holds Tryz.pinned (OpenSpec.ofChange livelyWaysWrong)

/-- 'pawnshoplaw16.LivelyUses': WHATEVER THE INPUT: true; the input reads as it did. -/
def livelyUsesSpec : ChangeSpec := { name := "livelyUses", fn := fun _ => fun
  | [d1, d2] => { results := [.lit (.bool true)], args := [d1, d2] }
  | _ => none }
def livelyUsesRow : OpenClaim := { program := "ytbljhhkjjlgnmaagreat", sum := "8d5fb0d1378fca11ec36c24a66a851d2d752acb6d703d8025538318686e7596b", func := "pawnshop/pawnshoplaw16.LivelyUses", spec := "livelyUses", inPlace := ["slices.overlaps[int]"], unfollowed := true, recurses := true, apart := false }
def LivelyUsesSaid : Prop := livelyUsesRow.holds Tryz.pinned (OpenSpec.ofChange livelyUsesSpec)

/-- ITS FALSE NEIGHBOUR: 'it returns false'. Refute it at one input. -/
def livelyUsesWrong : ChangeSpec := { name := "livelyUses", fn := fun _ => fun
  | [d1, d2] => { results := [.lit (.bool false)], args := [d1, d2] }
  | _ => none }
def LivelyUsesWrongFalsely : Prop := livelyUsesRow.holds Tryz.pinned (OpenSpec.ofChange livelyUsesWrong)

/- THE SECOND FORM. 'bulk': how many values and letters a reading holds, each counted each time it is reached (what is shared counts as often as it is met; a slice's spare places count too). A statement '..UptoSaid' is the law's where the arguments, and the package variables that the reading takes, are together of bulk at most 1048576: NARROWER than '..Said'. Prove '..Said' where nothing that the law and all that it calls make is longer than what came in: it says more and counts as full. Else prove '..UptoSaid'. A law counts once. -/
mutual
def uptoBulk {H : Type} : DataW H → Nat
  | .lit (.string bytes) => bytes.length + 1
  | .lit _ => 1
  | .nil => 1
  | .ptr d => uptoBulk d + 1
  | .slice elems spare => uptoBulkAll elems + uptoBulkAll spare + 1
  | .agg parts => uptoBulkAll parts + 1
  | .iface _ d => uptoBulk d + 1
  | .map entries => uptoBulkEntries entries + 1
  | .held _ => 1
def uptoBulkAll {H : Type} : List (DataW H) → Nat
  | [] => 0
  | d :: r => uptoBulk d + uptoBulkAll r
def uptoBulkEntries {H : Type} : List (Lit × DataW H) → Nat
  | [] => 0
  | x :: r => uptoBulkEntry x + uptoBulkEntries r
def uptoBulkEntry {H : Type} : Lit × DataW H → Nat
  | (.string bytes, d) => bytes.length + uptoBulk d + 1
  | (_, d) => uptoBulk d + 1
 end
def uptoSmall : (H : Type) → List (DataW H) → Bool := fun _ ds => decide (uptoBulkAll ds ≤ 1048576)
def OpenSpec.upto (s : _root_.Go.ChangeSpec) : _root_.Go.OpenSpec := { _root_.Go.OpenSpec.ofChange s with cond := some uptoSmall }

/-- 'pawnshoplaw15.InitsSets', WHERE WHAT IT READS IS OF BULK AT MOST 1048576: true; the input reads as it did. -/
def initsSetsUptoRow : OpenClaim := { program := "ytbljhhkjjlgnmaagreat", sum := "8d5fb0d1378fca11ec36c24a66a851d2d752acb6d703d8025538318686e7596b", func := "pawnshop/pawnshoplaw15.InitsSets", spec := "initsSets", unfollowed := true, recurses := true, apart := false, narrowed := true }
def InitsSetsUptoSaid : Prop := initsSetsUptoRow.holds Tryz.pinned (OpenSpec.upto initsSetsSpec)

/-- 'pawnshoplaw15.InitsWays', WHERE WHAT IT READS IS OF BULK AT MOST 1048576: true; the input reads as it did. -/
def initsWaysUptoRow : OpenClaim := { program := "ytbljhhkjjlgnmaagreat", sum := "8d5fb0d1378fca11ec36c24a66a851d2d752acb6d703d8025538318686e7596b", func := "pawnshop/pawnshoplaw15.InitsWays", spec := "initsWays", unfollowed := true, recurses := true, apart := false, narrowed := true }
def InitsWaysUptoSaid : Prop := initsWaysUptoRow.holds Tryz.pinned (OpenSpec.upto initsWaysSpec)

/-- 'pawnshoplaw15.InitsFirst', WHERE WHAT IT READS IS OF BULK AT MOST 1048576: true; the input reads as it did. -/
def initsFirstUptoRow : OpenClaim := { program := "ytbljhhkjjlgnmaagreat", sum := "8d5fb0d1378fca11ec36c24a66a851d2d752acb6d703d8025538318686e7596b", func := "pawnshop/pawnshoplaw15.InitsFirst", spec := "initsFirst", unfollowed := true, recurses := true, apart := false, narrowed := true }
def InitsFirstUptoSaid : Prop := initsFirstUptoRow.holds Tryz.pinned (OpenSpec.upto initsFirstSpec)

/-- 'pawnshoplaw15.InitsMeets', WHERE WHAT IT READS IS OF BULK AT MOST 1048576: true; the input reads as it did. -/
def initsMeetsUptoRow : OpenClaim := { program := "ytbljhhkjjlgnmaagreat", sum := "8d5fb0d1378fca11ec36c24a66a851d2d752acb6d703d8025538318686e7596b", func := "pawnshop/pawnshoplaw15.InitsMeets", spec := "initsMeets", unfollowed := true, recurses := true, apart := false, narrowed := true }
def InitsMeetsUptoSaid : Prop := initsMeetsUptoRow.holds Tryz.pinned (OpenSpec.upto initsMeetsSpec)

/-- 'pawnshoplaw16.LivelyAdded', WHERE WHAT IT READS IS OF BULK AT MOST 1048576: true; the input reads as it did. -/
def livelyAddedUptoRow : OpenClaim := { program := "ytbljhhkjjlgnmaagreat", sum := "8d5fb0d1378fca11ec36c24a66a851d2d752acb6d703d8025538318686e7596b", func := "pawnshop/pawnshoplaw16.LivelyAdded", spec := "livelyAdded", inPlace := ["slices.overlaps[int]"], unfollowed := true, recurses := true, apart := false, narrowed := true }
def LivelyAddedUptoSaid : Prop := livelyAddedUptoRow.holds Tryz.pinned (OpenSpec.upto livelyAddedSpec)

/-- 'pawnshoplaw16.LivelyLives', WHERE WHAT IT READS IS OF BULK AT MOST 1048576: true; the input reads as it did. -/
def livelyLivesUptoRow : OpenClaim := { program := "ytbljhhkjjlgnmaagreat", sum := "8d5fb0d1378fca11ec36c24a66a851d2d752acb6d703d8025538318686e7596b", func := "pawnshop/pawnshoplaw16.LivelyLives", spec := "livelyLives", inPlace := ["slices.overlaps[int]"], unfollowed := true, recurses := true, apart := false, narrowed := true }
def LivelyLivesUptoSaid : Prop := livelyLivesUptoRow.holds Tryz.pinned (OpenSpec.upto livelyLivesSpec)

/-- 'pawnshoplaw16.LivelyNames', WHERE WHAT IT READS IS OF BULK AT MOST 1048576: true; the input reads as it did. -/
def livelyNamesUptoRow : OpenClaim := { program := "ytbljhhkjjlgnmaagreat", sum := "8d5fb0d1378fca11ec36c24a66a851d2d752acb6d703d8025538318686e7596b", func := "pawnshop/pawnshoplaw16.LivelyNames", spec := "livelyNames", inPlace := ["slices.overlaps[int]"], unfollowed := true, recurses := true, apart := false, narrowed := true }
def LivelyNamesUptoSaid : Prop := livelyNamesUptoRow.holds Tryz.pinned (OpenSpec.upto livelyNamesSpec)

/-- 'pawnshoplaw16.LivelyLeast', WHERE WHAT IT READS IS OF BULK AT MOST 1048576: true; the input reads as it did. -/
def livelyLeastUptoRow : OpenClaim := { program := "ytbljhhkjjlgnmaagreat", sum := "8d5fb0d1378fca11ec36c24a66a851d2d752acb6d703d8025538318686e7596b", func := "pawnshop/pawnshoplaw16.LivelyLeast", spec := "livelyLeast", inPlace := ["slices.overlaps[int]"], unfollowed := true, recurses := true, apart := false, narrowed := true }
def LivelyLeastUptoSaid : Prop := livelyLeastUptoRow.holds Tryz.pinned (OpenSpec.upto livelyLeastSpec)

/-- 'pawnshoplaw16.LivelyWays', WHERE WHAT IT READS IS OF BULK AT MOST 1048576: true; the input reads as it did. -/
def livelyWaysUptoRow : OpenClaim := { program := "ytbljhhkjjlgnmaagreat", sum := "8d5fb0d1378fca11ec36c24a66a851d2d752acb6d703d8025538318686e7596b", func := "pawnshop/pawnshoplaw16.LivelyWays", spec := "livelyWays", inPlace := ["slices.overlaps[int]"], unfollowed := true, recurses := true, apart := false, narrowed := true }
def LivelyWaysUptoSaid : Prop := livelyWaysUptoRow.holds Tryz.pinned (OpenSpec.upto livelyWaysSpec)

/-- 'pawnshoplaw16.LivelyUses', WHERE WHAT IT READS IS OF BULK AT MOST 1048576: true; the input reads as it did. -/
def livelyUsesUptoRow : OpenClaim := { program := "ytbljhhkjjlgnmaagreat", sum := "8d5fb0d1378fca11ec36c24a66a851d2d752acb6d703d8025538318686e7596b", func := "pawnshop/pawnshoplaw16.LivelyUses", spec := "livelyUses", inPlace := ["slices.overlaps[int]"], unfollowed := true, recurses := true, apart := false, narrowed := true }
def LivelyUsesUptoSaid : Prop := livelyUsesUptoRow.holds Tryz.pinned (OpenSpec.upto livelyUsesSpec)

end Rows
end Go.Proofs.YtbljhhkjjlgnmaaGreat
