/-
  No cell of these rows narrows 'for every input' (looked for: loops, veiled, ifaces, maps, wideKeys, modest, calm, conditions, laid).
  DERIVED. THE GIVEN ROWS OF THIS SEAT. 6 by the template 'for every input the law returns true; each argument reads behind the call as it read before'; 0 by the template 'total and deterministic' (their statements: YtmceonmlgcbcmaaGreatTotals.lean).
  GIVEN WITH THE SEED: the statements are not yours to turn. If you find one false, say at which input.
  Laid BY PROGRAM, IN A SANDBOX (cutbox-rows.mjs): the forced cells as the released guide's own fill.sh prints them over the translation d8da7aef9abab273… (all of the seat's roots in one cut). By AI agents, Wed Nov 11 2026. No macro, syntax, notation, axiom, sorry.
-/
import Derived.Test.YtmceonmlgcbcmaaGreatChecked
import GoSem.Claim
import GoSem.ClaimJoined
import GoSem.ClaimMapViews
import Derived.JoinedTies
import Derived.KernelRfl
namespace Go.Proofs.YtmceonmlgcbcmaaGreat
/- THE CELL 'sum', in the pinned program and in every row, IS THE sha256 OF THE DUMP (.gsa) THAT YtmceonmlgcbcmaaGreatProg.lean LOADS. Nothing in Lean hashes anything: it is a label: what it is worth is what the hold of that sum in a sandbox is worth. -/
noncomputable def Tryz.pinned : Pinned := { name := "ytmceonmlgcbcmaagreat", sum := "d8da7aef9abab273da14e53fec1d0d5c362433e1bf91668676a4c2305cd1acb8", checked := Tryz.checked }
namespace Rows
def none {H : Type} : Left H := { results := [], args := [] }

/-- 'pawnshoplaw11.GraphTells': WHATEVER THE INPUT: true; the input reads as it did. -/
def graphTellsSpec : ChangeSpec := { name := "graphTells", fn := fun _ => fun
  | [d1, d2] => { results := [.lit (.bool true)], args := [d1, d2] }
  | _ => none }
def graphTellsRow : OpenClaim := { program := "ytmceonmlgcbcmaagreat", sum := "d8da7aef9abab273da14e53fec1d0d5c362433e1bf91668676a4c2305cd1acb8", func := "pawnshop/pawnshoplaw11.GraphTells", spec := "graphTells", unfollowed := true, recurses := true, apart := false }
def GraphTellsSaid : Prop := graphTellsRow.holds Tryz.pinned (OpenSpec.ofChange graphTellsSpec)

/-- ITS FALSE NEIGHBOUR: 'it returns false'. Refute it at one input. -/
def graphTellsWrong : ChangeSpec := { name := "graphTells", fn := fun _ => fun
  | [d1, d2] => { results := [.lit (.bool false)], args := [d1, d2] }
  | _ => none }
def GraphTellsWrongFalsely : Prop := graphTellsRow.holds Tryz.pinned (OpenSpec.ofChange graphTellsWrong)

/-- 'pawnshoplaw19.ConstrainFinds': WHATEVER THE INPUT: true; the input reads as it did. -/
def constrainFindsSpec : ChangeSpec := { name := "constrainFinds", fn := fun _ => fun
  | [d] => { results := [.lit (.bool true)], args := [d] }
  | _ => none }
def constrainFindsRow : OpenClaim := { program := "ytmceonmlgcbcmaagreat", sum := "d8da7aef9abab273da14e53fec1d0d5c362433e1bf91668676a4c2305cd1acb8", func := "pawnshop/pawnshoplaw19.ConstrainFinds", spec := "constrainFinds", inPlace := ["slices.overlaps[int]"], unfollowed := true, recurses := true, apart := false }
def ConstrainFindsSaid : Prop := constrainFindsRow.holds Tryz.pinned (OpenSpec.ofChange constrainFindsSpec)

/-- ITS FALSE NEIGHBOUR: 'it returns false'. Refute it at one input. -/
def constrainFindsWrong : ChangeSpec := { name := "constrainFinds", fn := fun _ => fun
  | [d] => { results := [.lit (.bool false)], args := [d] }
  | _ => none }
def ConstrainFindsWrongFalsely : Prop := constrainFindsRow.holds Tryz.pinned (OpenSpec.ofChange constrainFindsWrong)

/-- 'pawnshoplaw19.ConstrainNames': WHATEVER THE INPUT: true; the input reads as it did. -/
def constrainNamesSpec : ChangeSpec := { name := "constrainNames", fn := fun _ => fun
  | [] => { results := [.lit (.bool true)], args := [] }
  | _ => none }
def constrainNamesRow : OpenClaim := { program := "ytmceonmlgcbcmaagreat", sum := "d8da7aef9abab273da14e53fec1d0d5c362433e1bf91668676a4c2305cd1acb8", func := "pawnshop/pawnshoplaw19.ConstrainNames", spec := "constrainNames", inPlace := ["slices.overlaps[int]"], unfollowed := true, recurses := true, apart := false }
def ConstrainNamesSaid : Prop := constrainNamesRow.holds Tryz.pinned (OpenSpec.ofChange constrainNamesSpec)

/-- ITS FALSE NEIGHBOUR: 'it returns false'. Refute it at one input. -/
def constrainNamesWrong : ChangeSpec := { name := "constrainNames", fn := fun _ => fun
  | [] => { results := [.lit (.bool false)], args := [] }
  | _ => none }
def ConstrainNamesWrongFalsely : Prop := constrainNamesRow.holds Tryz.pinned (OpenSpec.ofChange constrainNamesWrong)

/-- 'pawnshoplaw20.SolveRegions': WHATEVER THE INPUT: true; the input reads as it did. -/
def solveRegionsSpec : ChangeSpec := { name := "solveRegions", fn := fun _ => fun
  | [d] => { results := [.lit (.bool true)], args := [d] }
  | _ => none }
def solveRegionsRow : OpenClaim := { program := "ytmceonmlgcbcmaagreat", sum := "d8da7aef9abab273da14e53fec1d0d5c362433e1bf91668676a4c2305cd1acb8", func := "pawnshop/pawnshoplaw20.SolveRegions", spec := "solveRegions", inPlace := ["slices.overlaps[int]"], unfollowed := true, recurses := true, apart := false }
def SolveRegionsSaid : Prop := solveRegionsRow.holds Tryz.pinned (OpenSpec.ofChange solveRegionsSpec)

/-- ITS FALSE NEIGHBOUR: 'it returns false'. Refute it at one input. -/
def solveRegionsWrong : ChangeSpec := { name := "solveRegions", fn := fun _ => fun
  | [d] => { results := [.lit (.bool false)], args := [d] }
  | _ => none }
def SolveRegionsWrongFalsely : Prop := solveRegionsRow.holds Tryz.pinned (OpenSpec.ofChange solveRegionsWrong)

/-- 'pawnshoplaw20.SolveNames': WHATEVER THE INPUT: true; the input reads as it did. -/
def solveNamesSpec : ChangeSpec := { name := "solveNames", fn := fun _ => fun
  | [] => { results := [.lit (.bool true)], args := [] }
  | _ => none }
def solveNamesRow : OpenClaim := { program := "ytmceonmlgcbcmaagreat", sum := "d8da7aef9abab273da14e53fec1d0d5c362433e1bf91668676a4c2305cd1acb8", func := "pawnshop/pawnshoplaw20.SolveNames", spec := "solveNames", inPlace := ["slices.overlaps[int]"], unfollowed := true, recurses := true, apart := false }
def SolveNamesSaid : Prop := solveNamesRow.holds Tryz.pinned (OpenSpec.ofChange solveNamesSpec)

/-- ITS FALSE NEIGHBOUR: 'it returns false'. Refute it at one input. -/
def solveNamesWrong : ChangeSpec := { name := "solveNames", fn := fun _ => fun
  | [] => { results := [.lit (.bool false)], args := [] }
  | _ => none }
def SolveNamesWrongFalsely : Prop := solveNamesRow.holds Tryz.pinned (OpenSpec.ofChange solveNamesWrong)

/-- 'pawnshoplaw20.SolveFuncs': WHATEVER THE INPUT: true; the input reads as it did. -/
def solveFuncsSpec : ChangeSpec := { name := "solveFuncs", fn := fun _ => fun
  | [d] => { results := [.lit (.bool true)], args := [d] }
  | _ => none }
def solveFuncsRow : OpenClaim := { program := "ytmceonmlgcbcmaagreat", sum := "d8da7aef9abab273da14e53fec1d0d5c362433e1bf91668676a4c2305cd1acb8", func := "pawnshop/pawnshoplaw20.SolveFuncs", spec := "solveFuncs", inPlace := ["slices.overlaps[int]"], unfollowed := true, recurses := true, apart := false }
def SolveFuncsSaid : Prop := solveFuncsRow.holds Tryz.pinned (OpenSpec.ofChange solveFuncsSpec)

/-- ITS FALSE NEIGHBOUR: 'it returns false'. Refute it at one input. -/
def solveFuncsWrong : ChangeSpec := { name := "solveFuncs", fn := fun _ => fun
  | [d] => { results := [.lit (.bool false)], args := [d] }
  | _ => none }
def SolveFuncsWrongFalsely : Prop := solveFuncsRow.holds Tryz.pinned (OpenSpec.ofChange solveFuncsWrong)

/- THE SECOND FORM. 'bulk': how many values and letters a reading holds, each counted each time it is reached (what is shared counts as often as it is met; a slice's spare places count too). A statement '..UptoSaid' is the law's where the arguments, and the package variables that the reading takes, are together of bulk at most 1048576: NARROWER than '..Said'. Prove '..Said' where nothing that the law and all that it calls make is longer than what came in: it says more and counts as full. Else prove '..UptoSaid'. A law counts once. -/
mutual
def uptoBulk {H : Type} : DataW H → Nat
  | .lit (.string bytes) => bytes.length + 1
  | .lit _ => 1
  | .nil => 1
  | .ptr d => uptoBulk d + 1
  | .slice elems spare => uptoBulkAll elems + uptoBulkAll spare + 1
  | .agg parts => uptoBulkAll parts + 1
  | .iface _ d => uptoBulk d + 1
  | .map entries => uptoBulkEntries entries + 1
  | .held _ => 1
def uptoBulkAll {H : Type} : List (DataW H) → Nat
  | [] => 0
  | d :: r => uptoBulk d + uptoBulkAll r
def uptoBulkEntries {H : Type} : List (Lit × DataW H) → Nat
  | [] => 0
  | x :: r => uptoBulkEntry x + uptoBulkEntries r
def uptoBulkEntry {H : Type} : Lit × DataW H → Nat
  | (.string bytes, d) => bytes.length + uptoBulk d + 1
  | (_, d) => uptoBulk d + 1
 end
def uptoSmall : (H : Type) → List (DataW H) → Bool := fun _ ds => decide (uptoBulkAll ds ≤ 1048576)
def OpenSpec.upto (s : _root_.Go.ChangeSpec) : _root_.Go.OpenSpec := { _root_.Go.OpenSpec.ofChange s with cond := some uptoSmall }

/-- 'pawnshoplaw11.GraphTells', WHERE WHAT IT READS IS OF BULK AT MOST 1048576: true; the input reads as it did. -/
def graphTellsUptoRow : OpenClaim := { program := "ytmceonmlgcbcmaagreat", sum := "d8da7aef9abab273da14e53fec1d0d5c362433e1bf91668676a4c2305cd1acb8", func := "pawnshop/pawnshoplaw11.GraphTells", spec := "graphTells", unfollowed := true, recurses := true, apart := false, narrowed := true }
def GraphTellsUptoSaid : Prop := graphTellsUptoRow.holds Tryz.pinned (OpenSpec.upto graphTellsSpec)

/-- 'pawnshoplaw19.ConstrainFinds', WHERE WHAT IT READS IS OF BULK AT MOST 1048576: true; the input reads as it did. -/
def constrainFindsUptoRow : OpenClaim := { program := "ytmceonmlgcbcmaagreat", sum := "d8da7aef9abab273da14e53fec1d0d5c362433e1bf91668676a4c2305cd1acb8", func := "pawnshop/pawnshoplaw19.ConstrainFinds", spec := "constrainFinds", inPlace := ["slices.overlaps[int]"], unfollowed := true, recurses := true, apart := false, narrowed := true }
def ConstrainFindsUptoSaid : Prop := constrainFindsUptoRow.holds Tryz.pinned (OpenSpec.upto constrainFindsSpec)

/-- 'pawnshoplaw19.ConstrainNames', WHERE WHAT IT READS IS OF BULK AT MOST 1048576: true; the input reads as it did. -/
def constrainNamesUptoRow : OpenClaim := { program := "ytmceonmlgcbcmaagreat", sum := "d8da7aef9abab273da14e53fec1d0d5c362433e1bf91668676a4c2305cd1acb8", func := "pawnshop/pawnshoplaw19.ConstrainNames", spec := "constrainNames", inPlace := ["slices.overlaps[int]"], unfollowed := true, recurses := true, apart := false, narrowed := true }
def ConstrainNamesUptoSaid : Prop := constrainNamesUptoRow.holds Tryz.pinned (OpenSpec.upto constrainNamesSpec)

/-- 'pawnshoplaw20.SolveRegions', WHERE WHAT IT READS IS OF BULK AT MOST 1048576: true; the input reads as it did. -/
def solveRegionsUptoRow : OpenClaim := { program := "ytmceonmlgcbcmaagreat", sum := "d8da7aef9abab273da14e53fec1d0d5c362433e1bf91668676a4c2305cd1acb8", func := "pawnshop/pawnshoplaw20.SolveRegions", spec := "solveRegions", inPlace := ["slices.overlaps[int]"], unfollowed := true, recurses := true, apart := false, narrowed := true }
def SolveRegionsUptoSaid : Prop := solveRegionsUptoRow.holds Tryz.pinned (OpenSpec.upto solveRegionsSpec)

/-- 'pawnshoplaw20.SolveNames', WHERE WHAT IT READS IS OF BULK AT MOST 1048576: true; the input reads as it did. -/
def solveNamesUptoRow : OpenClaim := { program := "ytmceonmlgcbcmaagreat", sum := "d8da7aef9abab273da14e53fec1d0d5c362433e1bf91668676a4c2305cd1acb8", func := "pawnshop/pawnshoplaw20.SolveNames", spec := "solveNames", inPlace := ["slices.overlaps[int]"], unfollowed := true, recurses := true, apart := false, narrowed := true }
def SolveNamesUptoSaid : Prop := solveNamesUptoRow.holds Tryz.pinned (OpenSpec.upto solveNamesSpec)

/-- 'pawnshoplaw20.SolveFuncs', WHERE WHAT IT READS IS OF BULK AT MOST 1048576: true; the input reads as it did. -/
def solveFuncsUptoRow : OpenClaim := { program := "ytmceonmlgcbcmaagreat", sum := "d8da7aef9abab273da14e53fec1d0d5c362433e1bf91668676a4c2305cd1acb8", func := "pawnshop/pawnshoplaw20.SolveFuncs", spec := "solveFuncs", inPlace := ["slices.overlaps[int]"], unfollowed := true, recurses := true, apart := false, narrowed := true }
def SolveFuncsUptoSaid : Prop := solveFuncsUptoRow.holds Tryz.pinned (OpenSpec.upto solveFuncsSpec)

end Rows
end Go.Proofs.YtmceonmlgcbcmaaGreat
