/-
  No cell of these rows narrows 'for every input' (looked for: loops, veiled, ifaces, maps, wideKeys, modest, calm, conditions, laid).
  DERIVED. THE GIVEN ROWS OF THIS SEAT. 8 by the template 'for every input the law returns true; each argument reads behind the call as it read before'; 0 by the template 'total and deterministic' (their statements: YtamcjkgedgocfaaGreatTotals.lean).
  GIVEN WITH THE SEED: the statements are not yours to turn. If you find one false, say at which input.
  Laid BY PROGRAM, IN A SANDBOX (cutbox-rows.mjs): the forced cells as the released guide's own fill.sh prints them over the translation 8bc14ab8d3e5ade7… (all of the seat's roots in one cut). By AI agents, Wed Nov 11 2026. No macro, syntax, notation, axiom, sorry.
-/
import Derived.Test.YtamcjkgedgocfaaGreatChecked
import GoSem.Claim
import GoSem.ClaimJoined
import GoSem.ClaimMapViews
import Derived.JoinedTies
import Derived.KernelRfl
namespace Go.Proofs.YtamcjkgedgocfaaGreat
/- THE CELL 'sum', in the pinned program and in every row, IS THE sha256 OF THE DUMP (.gsa) THAT YtamcjkgedgocfaaGreatProg.lean LOADS. Nothing in Lean hashes anything: it is a label: what it is worth is what the hold of that sum in a sandbox is worth. -/
noncomputable def Tryz.pinned : Pinned := { name := "ytamcjkgedgocfaagreat", sum := "8bc14ab8d3e5ade7a597befacf7aba0e460f4288b099c41524aef0372c24f55e", checked := Tryz.checked }
namespace Rows
def none {H : Type} : Left H := { results := [], args := [] }

/-- 'pawnshoplaw11.GraphTells': WHATEVER THE INPUT: true; the input reads as it did. -/
def graphTellsSpec : ChangeSpec := { name := "graphTells", fn := fun _ => fun
  | [d1, d2] => { results := [.lit (.bool true)], args := [d1, d2] }
  | _ => none }
def graphTellsRow : OpenClaim := { program := "ytamcjkgedgocfaagreat", sum := "8bc14ab8d3e5ade7a597befacf7aba0e460f4288b099c41524aef0372c24f55e", func := "pawnshop/pawnshoplaw11.GraphTells", spec := "graphTells", unfollowed := true, recurses := true, apart := false }
def GraphTellsSaid : Prop := graphTellsRow.holds Tryz.pinned (OpenSpec.ofChange graphTellsSpec)

/-- ITS FALSE NEIGHBOUR: 'it returns false'. Refute it at one input. -/
def graphTellsWrong : ChangeSpec := { name := "graphTells", fn := fun _ => fun
  | [d1, d2] => { results := [.lit (.bool false)], args := [d1, d2] }
  | _ => none }
def GraphTellsWrongFalsely : Prop := graphTellsRow.holds Tryz.pinned (OpenSpec.ofChange graphTellsWrong)

/-- 'pawnshoplaw22.ScopeFinds': WHATEVER THE INPUT: true; the input reads as it did. -/
def scopeFindsSpec : ChangeSpec := { name := "scopeFinds", fn := fun _ => fun
  | [d] => { results := [.lit (.bool true)], args := [d] }
  | _ => none }
def scopeFindsRow : OpenClaim := { program := "ytamcjkgedgocfaagreat", sum := "8bc14ab8d3e5ade7a597befacf7aba0e460f4288b099c41524aef0372c24f55e", func := "pawnshop/pawnshoplaw22.ScopeFinds", spec := "scopeFinds", inPlace := ["slices.overlaps[int]"], unfollowed := true, recurses := true, apart := false }
def ScopeFindsSaid : Prop := scopeFindsRow.holds Tryz.pinned (OpenSpec.ofChange scopeFindsSpec)

/-- ITS FALSE NEIGHBOUR: 'it returns false'. Refute it at one input. -/
def scopeFindsWrong : ChangeSpec := { name := "scopeFinds", fn := fun _ => fun
  | [d] => { results := [.lit (.bool false)], args := [d] }
  | _ => none }
def ScopeFindsWrongFalsely : Prop := scopeFindsRow.holds Tryz.pinned (OpenSpec.ofChange scopeFindsWrong)

/-- 'pawnshoplaw22.ScopeNames': WHATEVER THE INPUT: true; the input reads as it did. -/
def scopeNamesSpec : ChangeSpec := { name := "scopeNames", fn := fun _ => fun
  | [] => { results := [.lit (.bool true)], args := [] }
  | _ => none }
def scopeNamesRow : OpenClaim := { program := "ytamcjkgedgocfaagreat", sum := "8bc14ab8d3e5ade7a597befacf7aba0e460f4288b099c41524aef0372c24f55e", func := "pawnshop/pawnshoplaw22.ScopeNames", spec := "scopeNames", inPlace := ["slices.overlaps[int]"], unfollowed := true, recurses := true, apart := false }
def ScopeNamesSaid : Prop := scopeNamesRow.holds Tryz.pinned (OpenSpec.ofChange scopeNamesSpec)

/-- ITS FALSE NEIGHBOUR: 'it returns false'. Refute it at one input. -/
def scopeNamesWrong : ChangeSpec := { name := "scopeNames", fn := fun _ => fun
  | [] => { results := [.lit (.bool false)], args := [] }
  | _ => none }
def ScopeNamesWrongFalsely : Prop := scopeNamesRow.holds Tryz.pinned (OpenSpec.ofChange scopeNamesWrong)

/-- 'pawnshoplaw22.ScopeWays': WHATEVER THE INPUT: true; the input reads as it did. -/
def scopeWaysSpec : ChangeSpec := { name := "scopeWays", fn := fun _ => fun
  | [d1, d2] => { results := [.lit (.bool true)], args := [d1, d2] }
  | _ => none }
def scopeWaysRow : OpenClaim := { program := "ytamcjkgedgocfaagreat", sum := "8bc14ab8d3e5ade7a597befacf7aba0e460f4288b099c41524aef0372c24f55e", func := "pawnshop/pawnshoplaw22.ScopeWays", spec := "scopeWays", inPlace := ["slices.overlaps[int]"], unfollowed := true, recurses := true, apart := false }
def ScopeWaysSaid : Prop := scopeWaysRow.holds Tryz.pinned (OpenSpec.ofChange scopeWaysSpec)

/-- ITS FALSE NEIGHBOUR: 'it returns false'. Refute it at one input. -/
def scopeWaysWrong : ChangeSpec := { name := "scopeWays", fn := fun _ => fun
  | [d1, d2] => { results := [.lit (.bool false)], args := [d1, d2] }
  | _ => none }
def ScopeWaysWrongFalsely : Prop := scopeWaysRow.holds Tryz.pinned (OpenSpec.ofChange scopeWaysWrong)

/-- 'pawnshoplaw23.ClashFinds': WHATEVER THE INPUT: true; the input reads as it did. -/
def clashFindsSpec : ChangeSpec := { name := "clashFinds", fn := fun _ => fun
  | [d] => { results := [.lit (.bool true)], args := [d] }
  | _ => none }
def clashFindsRow : OpenClaim := { program := "ytamcjkgedgocfaagreat", sum := "8bc14ab8d3e5ade7a597befacf7aba0e460f4288b099c41524aef0372c24f55e", func := "pawnshop/pawnshoplaw23.ClashFinds", spec := "clashFinds", inPlace := ["slices.overlaps[int]"], unfollowed := true, recurses := true, apart := false }
def ClashFindsSaid : Prop := clashFindsRow.holds Tryz.pinned (OpenSpec.ofChange clashFindsSpec)

/-- ITS FALSE NEIGHBOUR: 'it returns false'. Refute it at one input. -/
def clashFindsWrong : ChangeSpec := { name := "clashFinds", fn := fun _ => fun
  | [d] => { results := [.lit (.bool false)], args := [d] }
  | _ => none }
def ClashFindsWrongFalsely : Prop := clashFindsRow.holds Tryz.pinned (OpenSpec.ofChange clashFindsWrong)

/-- 'pawnshoplaw23.ClashNames': WHATEVER THE INPUT: true; the input reads as it did. -/
def clashNamesSpec : ChangeSpec := { name := "clashNames", fn := fun _ => fun
  | [] => { results := [.lit (.bool true)], args := [] }
  | _ => none }
def clashNamesRow : OpenClaim := { program := "ytamcjkgedgocfaagreat", sum := "8bc14ab8d3e5ade7a597befacf7aba0e460f4288b099c41524aef0372c24f55e", func := "pawnshop/pawnshoplaw23.ClashNames", spec := "clashNames", inPlace := ["slices.overlaps[int]"], unfollowed := true, recurses := true, apart := false }
def ClashNamesSaid : Prop := clashNamesRow.holds Tryz.pinned (OpenSpec.ofChange clashNamesSpec)

/-- ITS FALSE NEIGHBOUR: 'it returns false'. Refute it at one input. -/
def clashNamesWrong : ChangeSpec := { name := "clashNames", fn := fun _ => fun
  | [] => { results := [.lit (.bool false)], args := [] }
  | _ => none }
def ClashNamesWrongFalsely : Prop := clashNamesRow.holds Tryz.pinned (OpenSpec.ofChange clashNamesWrong)

/-- 'pawnshoplaw23.ClashAll': WHATEVER THE INPUT: true; the input reads as it did. -/
def clashAllSpec : ChangeSpec := { name := "clashAll", fn := fun _ => fun
  | [d] => { results := [.lit (.bool true)], args := [d] }
  | _ => none }
def clashAllRow : OpenClaim := { program := "ytamcjkgedgocfaagreat", sum := "8bc14ab8d3e5ade7a597befacf7aba0e460f4288b099c41524aef0372c24f55e", func := "pawnshop/pawnshoplaw23.ClashAll", spec := "clashAll", inPlace := ["slices.overlaps[int]"], unfollowed := true, recurses := true, apart := false }
def ClashAllSaid : Prop := clashAllRow.holds Tryz.pinned (OpenSpec.ofChange clashAllSpec)

/-- ITS FALSE NEIGHBOUR: 'it returns false'. Refute it at one input. -/
def clashAllWrong : ChangeSpec := { name := "clashAll", fn := fun _ => fun
  | [d] => { results := [.lit (.bool false)], args := [d] }
  | _ => none }
def ClashAllWrongFalsely : Prop := clashAllRow.holds Tryz.pinned (OpenSpec.ofChange clashAllWrong)

/-- 'pawnshoplaw23.ClashLess': WHATEVER THE INPUT: true; the input reads as it did. -/
def clashLessSpec : ChangeSpec := { name := "clashLess", fn := fun _ => fun
  | [d] => { results := [.lit (.bool true)], args := [d] }
  | _ => none }
def clashLessRow : OpenClaim := { program := "ytamcjkgedgocfaagreat", sum := "8bc14ab8d3e5ade7a597befacf7aba0e460f4288b099c41524aef0372c24f55e", func := "pawnshop/pawnshoplaw23.ClashLess", spec := "clashLess", inPlace := ["slices.overlaps[int]"], unfollowed := true, recurses := true, apart := false }
def ClashLessSaid : Prop := clashLessRow.holds Tryz.pinned (OpenSpec.ofChange clashLessSpec)

/-- ITS FALSE NEIGHBOUR: 'it returns false'. Refute it at one input. -/
def clashLessWrong : ChangeSpec := { name := "clashLess", fn := fun _ => fun
  | [d] => { results := [.lit (.bool false)], args := [d] }
  | _ => none }
def ClashLessWrongFalsely : Prop := clashLessRow.holds Tryz.pinned (OpenSpec.ofChange clashLessWrong)

/- THE SECOND FORM. 'bulk': how many values and letters a reading holds, each counted each time it is reached (what is shared counts as often as it is met; a slice's spare places count too). A statement '..UptoSaid' is the law's where the arguments, and the package variables that the reading takes, are together of bulk at most 1048576: NARROWER than '..Said'. Prove '..Said' where nothing that the law and all that it calls make is longer than what came in: it says more and counts as full. Else prove '..UptoSaid'. A law counts once. -/
mutual
def uptoBulk {H : Type} : DataW H → Nat
  | .lit (.string bytes) => bytes.length + 1
  | .lit _ => 1
  | .nil => 1
  | .ptr d => uptoBulk d + 1
  | .slice elems spare => uptoBulkAll elems + uptoBulkAll spare + 1
  | .agg parts => uptoBulkAll parts + 1
  | .iface _ d => uptoBulk d + 1
  | .map entries => uptoBulkEntries entries + 1
  | .held _ => 1
def uptoBulkAll {H : Type} : List (DataW H) → Nat
  | [] => 0
  | d :: r => uptoBulk d + uptoBulkAll r
def uptoBulkEntries {H : Type} : List (Lit × DataW H) → Nat
  | [] => 0
  | x :: r => uptoBulkEntry x + uptoBulkEntries r
def uptoBulkEntry {H : Type} : Lit × DataW H → Nat
  | (.string bytes, d) => bytes.length + uptoBulk d + 1
  | (_, d) => uptoBulk d + 1
 end
def uptoSmall : (H : Type) → List (DataW H) → Bool := fun _ ds => decide (uptoBulkAll ds ≤ 1048576)
def OpenSpec.upto (s : _root_.Go.ChangeSpec) : _root_.Go.OpenSpec := { _root_.Go.OpenSpec.ofChange s with cond := some uptoSmall }

/-- 'pawnshoplaw11.GraphTells', WHERE WHAT IT READS IS OF BULK AT MOST 1048576: true; the input reads as it did. -/
def graphTellsUptoRow : OpenClaim := { program := "ytamcjkgedgocfaagreat", sum := "8bc14ab8d3e5ade7a597befacf7aba0e460f4288b099c41524aef0372c24f55e", func := "pawnshop/pawnshoplaw11.GraphTells", spec := "graphTells", unfollowed := true, recurses := true, apart := false, narrowed := true }
def GraphTellsUptoSaid : Prop := graphTellsUptoRow.holds Tryz.pinned (OpenSpec.upto graphTellsSpec)

/-- 'pawnshoplaw22.ScopeFinds', WHERE WHAT IT READS IS OF BULK AT MOST 1048576: true; the input reads as it did. -/
def scopeFindsUptoRow : OpenClaim := { program := "ytamcjkgedgocfaagreat", sum := "8bc14ab8d3e5ade7a597befacf7aba0e460f4288b099c41524aef0372c24f55e", func := "pawnshop/pawnshoplaw22.ScopeFinds", spec := "scopeFinds", inPlace := ["slices.overlaps[int]"], unfollowed := true, recurses := true, apart := false, narrowed := true }
def ScopeFindsUptoSaid : Prop := scopeFindsUptoRow.holds Tryz.pinned (OpenSpec.upto scopeFindsSpec)

/-- 'pawnshoplaw22.ScopeNames', WHERE WHAT IT READS IS OF BULK AT MOST 1048576: true; the input reads as it did. -/
def scopeNamesUptoRow : OpenClaim := { program := "ytamcjkgedgocfaagreat", sum := "8bc14ab8d3e5ade7a597befacf7aba0e460f4288b099c41524aef0372c24f55e", func := "pawnshop/pawnshoplaw22.ScopeNames", spec := "scopeNames", inPlace := ["slices.overlaps[int]"], unfollowed := true, recurses := true, apart := false, narrowed := true }
def ScopeNamesUptoSaid : Prop := scopeNamesUptoRow.holds Tryz.pinned (OpenSpec.upto scopeNamesSpec)

/-- 'pawnshoplaw22.ScopeWays', WHERE WHAT IT READS IS OF BULK AT MOST 1048576: true; the input reads as it did. -/
def scopeWaysUptoRow : OpenClaim := { program := "ytamcjkgedgocfaagreat", sum := "8bc14ab8d3e5ade7a597befacf7aba0e460f4288b099c41524aef0372c24f55e", func := "pawnshop/pawnshoplaw22.ScopeWays", spec := "scopeWays", inPlace := ["slices.overlaps[int]"], unfollowed := true, recurses := true, apart := false, narrowed := true }
def ScopeWaysUptoSaid : Prop := scopeWaysUptoRow.holds Tryz.pinned (OpenSpec.upto scopeWaysSpec)

/-- 'pawnshoplaw23.ClashFinds', WHERE WHAT IT READS IS OF BULK AT MOST 1048576: true; the input reads as it did. -/
def clashFindsUptoRow : OpenClaim := { program := "ytamcjkgedgocfaagreat", sum := "8bc14ab8d3e5ade7a597befacf7aba0e460f4288b099c41524aef0372c24f55e", func := "pawnshop/pawnshoplaw23.ClashFinds", spec := "clashFinds", inPlace := ["slices.overlaps[int]"], unfollowed := true, recurses := true, apart := false, narrowed := true }
def ClashFindsUptoSaid : Prop := clashFindsUptoRow.holds Tryz.pinned (OpenSpec.upto clashFindsSpec)

/-- 'pawnshoplaw23.ClashNames', WHERE WHAT IT READS IS OF BULK AT MOST 1048576: true; the input reads as it did. -/
def clashNamesUptoRow : OpenClaim := { program := "ytamcjkgedgocfaagreat", sum := "8bc14ab8d3e5ade7a597befacf7aba0e460f4288b099c41524aef0372c24f55e", func := "pawnshop/pawnshoplaw23.ClashNames", spec := "clashNames", inPlace := ["slices.overlaps[int]"], unfollowed := true, recurses := true, apart := false, narrowed := true }
def ClashNamesUptoSaid : Prop := clashNamesUptoRow.holds Tryz.pinned (OpenSpec.upto clashNamesSpec)

/-- 'pawnshoplaw23.ClashAll', WHERE WHAT IT READS IS OF BULK AT MOST 1048576: true; the input reads as it did. -/
def clashAllUptoRow : OpenClaim := { program := "ytamcjkgedgocfaagreat", sum := "8bc14ab8d3e5ade7a597befacf7aba0e460f4288b099c41524aef0372c24f55e", func := "pawnshop/pawnshoplaw23.ClashAll", spec := "clashAll", inPlace := ["slices.overlaps[int]"], unfollowed := true, recurses := true, apart := false, narrowed := true }
def ClashAllUptoSaid : Prop := clashAllUptoRow.holds Tryz.pinned (OpenSpec.upto clashAllSpec)

/-- 'pawnshoplaw23.ClashLess', WHERE WHAT IT READS IS OF BULK AT MOST 1048576: true; the input reads as it did. -/
def clashLessUptoRow : OpenClaim := { program := "ytamcjkgedgocfaagreat", sum := "8bc14ab8d3e5ade7a597befacf7aba0e460f4288b099c41524aef0372c24f55e", func := "pawnshop/pawnshoplaw23.ClashLess", spec := "clashLess", inPlace := ["slices.overlaps[int]"], unfollowed := true, recurses := true, apart := false, narrowed := true }
def ClashLessUptoSaid : Prop := clashLessUptoRow.holds Tryz.pinned (OpenSpec.upto clashLessSpec)

end Rows
end Go.Proofs.YtamcjkgedgocfaaGreat
