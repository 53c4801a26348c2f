/-
  No cell of these rows narrows 'for every input' (looked for: loops, veiled, ifaces, maps, wideKeys, modest, calm, conditions, laid).
  DERIVED. THE GIVEN ROWS OF THIS SEAT. 12 by the template 'for every input the law returns true; each argument reads behind the call as it read before'; 0 by the template 'total and deterministic' (their statements: YtemnfncbgalljaaGreatTotals.lean).
  GIVEN WITH THE SEED: the statements are not yours to turn. If you find one false, say at which input.
  Laid BY PROGRAM, IN A SANDBOX (cutbox-rows.mjs): the forced cells as the released guide's own fill.sh prints them over the translation aa19c6a7de94ed06… (all of the seat's roots in one cut). By AI agents, Wed Nov 11 2026. No macro, syntax, notation, axiom, sorry.
-/
import Derived.Test.YtemnfncbgalljaaGreatChecked
import GoSem.Claim
import GoSem.ClaimJoined
import GoSem.ClaimMapViews
import Derived.JoinedTies
import Derived.KernelRfl
namespace Go.Proofs.YtemnfncbgalljaaGreat
/- THE CELL 'sum', in the pinned program and in every row, IS THE sha256 OF THE DUMP (.gsa) THAT YtemnfncbgalljaaGreatProg.lean LOADS. Nothing in Lean hashes anything: it is a label: what it is worth is what the hold of that sum in a sandbox is worth. -/
noncomputable def Tryz.pinned : Pinned := { name := "ytemnfncbgalljaagreat", sum := "aa19c6a7de94ed06a2dab17717d284bbb0c207173a4556f8505fe6df96e93b73", checked := Tryz.checked }
namespace Rows
def none {H : Type} : Left H := { results := [], args := [] }

/-- 'pawnshoplaw24.CheckerExact': WHATEVER THE INPUT: true; the input reads as it did. -/
def checkerExactSpec : ChangeSpec := { name := "checkerExact", fn := fun _ => fun
  | [d] => { results := [.lit (.bool true)], args := [d] }
  | _ => none }
def checkerExactRow : OpenClaim := { program := "ytemnfncbgalljaagreat", sum := "aa19c6a7de94ed06a2dab17717d284bbb0c207173a4556f8505fe6df96e93b73", func := "pawnshop/pawnshoplaw24.CheckerExact", spec := "checkerExact", inPlace := ["slices.overlaps[int]"], unfollowed := true, recurses := true, apart := false }
def CheckerExactSaid : Prop := checkerExactRow.holds Tryz.pinned (OpenSpec.ofChange checkerExactSpec)

/-- ITS FALSE NEIGHBOUR: 'it returns false'. Refute it at one input. -/
def checkerExactWrong : ChangeSpec := { name := "checkerExact", fn := fun _ => fun
  | [d] => { results := [.lit (.bool false)], args := [d] }
  | _ => none }
def CheckerExactWrongFalsely : Prop := checkerExactRow.holds Tryz.pinned (OpenSpec.ofChange checkerExactWrong)

/-- 'pawnshoplaw24.CheckerBare': WHATEVER THE INPUT: true; the input reads as it did. -/
def checkerBareSpec : ChangeSpec := { name := "checkerBare", fn := fun _ => fun
  | [d] => { results := [.lit (.bool true)], args := [d] }
  | _ => none }
def checkerBareRow : OpenClaim := { program := "ytemnfncbgalljaagreat", sum := "aa19c6a7de94ed06a2dab17717d284bbb0c207173a4556f8505fe6df96e93b73", func := "pawnshop/pawnshoplaw24.CheckerBare", spec := "checkerBare", inPlace := ["slices.overlaps[int]"], unfollowed := true, recurses := true, apart := false }
def CheckerBareSaid : Prop := checkerBareRow.holds Tryz.pinned (OpenSpec.ofChange checkerBareSpec)

/-- ITS FALSE NEIGHBOUR: 'it returns false'. Refute it at one input. -/
def checkerBareWrong : ChangeSpec := { name := "checkerBare", fn := fun _ => fun
  | [d] => { results := [.lit (.bool false)], args := [d] }
  | _ => none }
def CheckerBareWrongFalsely : Prop := checkerBareRow.holds Tryz.pinned (OpenSpec.ofChange checkerBareWrong)

/-- 'pawnshoplaw24.CheckerFuncs': WHATEVER THE INPUT: true; the input reads as it did. -/
def checkerFuncsSpec : ChangeSpec := { name := "checkerFuncs", fn := fun _ => fun
  | [d] => { results := [.lit (.bool true)], args := [d] }
  | _ => none }
def checkerFuncsRow : OpenClaim := { program := "ytemnfncbgalljaagreat", sum := "aa19c6a7de94ed06a2dab17717d284bbb0c207173a4556f8505fe6df96e93b73", func := "pawnshop/pawnshoplaw24.CheckerFuncs", spec := "checkerFuncs", inPlace := ["slices.overlaps[int]"], unfollowed := true, recurses := true, apart := false }
def CheckerFuncsSaid : Prop := checkerFuncsRow.holds Tryz.pinned (OpenSpec.ofChange checkerFuncsSpec)

/-- ITS FALSE NEIGHBOUR: 'it returns false'. Refute it at one input. -/
def checkerFuncsWrong : ChangeSpec := { name := "checkerFuncs", fn := fun _ => fun
  | [d] => { results := [.lit (.bool false)], args := [d] }
  | _ => none }
def CheckerFuncsWrongFalsely : Prop := checkerFuncsRow.holds Tryz.pinned (OpenSpec.ofChange checkerFuncsWrong)

/-- 'pawnshoplaw24.CheckerOrder': WHATEVER THE INPUT: true; the input reads as it did. -/
def checkerOrderSpec : ChangeSpec := { name := "checkerOrder", fn := fun _ => fun
  | [d1, d2] => { results := [.lit (.bool true)], args := [d1, d2] }
  | _ => none }
def checkerOrderRow : OpenClaim := { program := "ytemnfncbgalljaagreat", sum := "aa19c6a7de94ed06a2dab17717d284bbb0c207173a4556f8505fe6df96e93b73", func := "pawnshop/pawnshoplaw24.CheckerOrder", spec := "checkerOrder", inPlace := ["slices.overlaps[int]"], unfollowed := true, recurses := true, apart := false }
def CheckerOrderSaid : Prop := checkerOrderRow.holds Tryz.pinned (OpenSpec.ofChange checkerOrderSpec)

/-- ITS FALSE NEIGHBOUR: 'it returns false'. Refute it at one input. -/
def checkerOrderWrong : ChangeSpec := { name := "checkerOrder", fn := fun _ => fun
  | [d1, d2] => { results := [.lit (.bool false)], args := [d1, d2] }
  | _ => none }
def CheckerOrderWrongFalsely : Prop := checkerOrderRow.holds Tryz.pinned (OpenSpec.ofChange checkerOrderWrong)

/-- 'pawnshoplaw24.CheckerPrints': WHATEVER THE INPUT: true; the input reads as it did. -/
def checkerPrintsSpec : ChangeSpec := { name := "checkerPrints", fn := fun _ => fun
  | [d1, d2, d3] => { results := [.lit (.bool true)], args := [d1, d2, d3] }
  | _ => none }
def checkerPrintsRow : OpenClaim := { program := "ytemnfncbgalljaagreat", sum := "aa19c6a7de94ed06a2dab17717d284bbb0c207173a4556f8505fe6df96e93b73", func := "pawnshop/pawnshoplaw24.CheckerPrints", spec := "checkerPrints", inPlace := ["slices.overlaps[int]"], unfollowed := true, recurses := true, apart := false }
def CheckerPrintsSaid : Prop := checkerPrintsRow.holds Tryz.pinned (OpenSpec.ofChange checkerPrintsSpec)

/-- ITS FALSE NEIGHBOUR: 'it returns false'. Refute it at one input. -/
def checkerPrintsWrong : ChangeSpec := { name := "checkerPrints", fn := fun _ => fun
  | [d1, d2, d3] => { results := [.lit (.bool false)], args := [d1, d2, d3] }
  | _ => none }
def CheckerPrintsWrongFalsely : Prop := checkerPrintsRow.holds Tryz.pinned (OpenSpec.ofChange checkerPrintsWrong)

/-- 'pawnshoplaw24.CheckerChecks': WHATEVER THE INPUT: true; the input reads as it did. -/
def checkerChecksSpec : ChangeSpec := { name := "checkerChecks", fn := fun _ => fun
  | [d] => { results := [.lit (.bool true)], args := [d] }
  | _ => none }
def checkerChecksRow : OpenClaim := { program := "ytemnfncbgalljaagreat", sum := "aa19c6a7de94ed06a2dab17717d284bbb0c207173a4556f8505fe6df96e93b73", func := "pawnshop/pawnshoplaw24.CheckerChecks", spec := "checkerChecks", inPlace := ["slices.overlaps[int]"], unfollowed := true, recurses := true, apart := false }
def CheckerChecksSaid : Prop := checkerChecksRow.holds Tryz.pinned (OpenSpec.ofChange checkerChecksSpec)

/-- ITS FALSE NEIGHBOUR: 'it returns false'. Refute it at one input. -/
def checkerChecksWrong : ChangeSpec := { name := "checkerChecks", fn := fun _ => fun
  | [d] => { results := [.lit (.bool false)], args := [d] }
  | _ => none }
def CheckerChecksWrongFalsely : Prop := checkerChecksRow.holds Tryz.pinned (OpenSpec.ofChange checkerChecksWrong)

/-- 'pawnshoplaw24.CheckerNames': WHATEVER THE INPUT: true; the input reads as it did. -/
def checkerNamesSpec : ChangeSpec := { name := "checkerNames", fn := fun _ => fun
  | [] => { results := [.lit (.bool true)], args := [] }
  | _ => none }
def checkerNamesRow : OpenClaim := { program := "ytemnfncbgalljaagreat", sum := "aa19c6a7de94ed06a2dab17717d284bbb0c207173a4556f8505fe6df96e93b73", func := "pawnshop/pawnshoplaw24.CheckerNames", spec := "checkerNames", inPlace := ["slices.overlaps[int]"], unfollowed := true, recurses := true, apart := false }
def CheckerNamesSaid : Prop := checkerNamesRow.holds Tryz.pinned (OpenSpec.ofChange checkerNamesSpec)

/-- ITS FALSE NEIGHBOUR: 'it returns false'. Refute it at one input. -/
def checkerNamesWrong : ChangeSpec := { name := "checkerNames", fn := fun _ => fun
  | [] => { results := [.lit (.bool false)], args := [] }
  | _ => none }
def CheckerNamesWrongFalsely : Prop := checkerNamesRow.holds Tryz.pinned (OpenSpec.ofChange checkerNamesWrong)

/-- 'pawnshoplaw23.ClashFinds': WHATEVER THE INPUT: true; the input reads as it did. -/
def clashFindsSpec : ChangeSpec := { name := "clashFinds", fn := fun _ => fun
  | [d] => { results := [.lit (.bool true)], args := [d] }
  | _ => none }
def clashFindsRow : OpenClaim := { program := "ytemnfncbgalljaagreat", sum := "aa19c6a7de94ed06a2dab17717d284bbb0c207173a4556f8505fe6df96e93b73", func := "pawnshop/pawnshoplaw23.ClashFinds", spec := "clashFinds", inPlace := ["slices.overlaps[int]"], unfollowed := true, recurses := true, apart := false }
def ClashFindsSaid : Prop := clashFindsRow.holds Tryz.pinned (OpenSpec.ofChange clashFindsSpec)

/-- ITS FALSE NEIGHBOUR: 'it returns false'. Refute it at one input. -/
def clashFindsWrong : ChangeSpec := { name := "clashFinds", fn := fun _ => fun
  | [d] => { results := [.lit (.bool false)], args := [d] }
  | _ => none }
def ClashFindsWrongFalsely : Prop := clashFindsRow.holds Tryz.pinned (OpenSpec.ofChange clashFindsWrong)

/-- 'pawnshoplaw23.ClashNames': WHATEVER THE INPUT: true; the input reads as it did. -/
def clashNamesSpec : ChangeSpec := { name := "clashNames", fn := fun _ => fun
  | [] => { results := [.lit (.bool true)], args := [] }
  | _ => none }
def clashNamesRow : OpenClaim := { program := "ytemnfncbgalljaagreat", sum := "aa19c6a7de94ed06a2dab17717d284bbb0c207173a4556f8505fe6df96e93b73", func := "pawnshop/pawnshoplaw23.ClashNames", spec := "clashNames", inPlace := ["slices.overlaps[int]"], unfollowed := true, recurses := true, apart := false }
def ClashNamesSaid : Prop := clashNamesRow.holds Tryz.pinned (OpenSpec.ofChange clashNamesSpec)

/-- ITS FALSE NEIGHBOUR: 'it returns false'. Refute it at one input. -/
def clashNamesWrong : ChangeSpec := { name := "clashNames", fn := fun _ => fun
  | [] => { results := [.lit (.bool false)], args := [] }
  | _ => none }
def ClashNamesWrongFalsely : Prop := clashNamesRow.holds Tryz.pinned (OpenSpec.ofChange clashNamesWrong)

/-- 'pawnshoplaw23.ClashAll': WHATEVER THE INPUT: true; the input reads as it did. -/
def clashAllSpec : ChangeSpec := { name := "clashAll", fn := fun _ => fun
  | [d] => { results := [.lit (.bool true)], args := [d] }
  | _ => none }
def clashAllRow : OpenClaim := { program := "ytemnfncbgalljaagreat", sum := "aa19c6a7de94ed06a2dab17717d284bbb0c207173a4556f8505fe6df96e93b73", func := "pawnshop/pawnshoplaw23.ClashAll", spec := "clashAll", inPlace := ["slices.overlaps[int]"], unfollowed := true, recurses := true, apart := false }
def ClashAllSaid : Prop := clashAllRow.holds Tryz.pinned (OpenSpec.ofChange clashAllSpec)

/-- ITS FALSE NEIGHBOUR: 'it returns false'. Refute it at one input. -/
def clashAllWrong : ChangeSpec := { name := "clashAll", fn := fun _ => fun
  | [d] => { results := [.lit (.bool false)], args := [d] }
  | _ => none }
def ClashAllWrongFalsely : Prop := clashAllRow.holds Tryz.pinned (OpenSpec.ofChange clashAllWrong)

/-- 'pawnshoplaw23.ClashLess': WHATEVER THE INPUT: true; the input reads as it did. -/
def clashLessSpec : ChangeSpec := { name := "clashLess", fn := fun _ => fun
  | [d] => { results := [.lit (.bool true)], args := [d] }
  | _ => none }
def clashLessRow : OpenClaim := { program := "ytemnfncbgalljaagreat", sum := "aa19c6a7de94ed06a2dab17717d284bbb0c207173a4556f8505fe6df96e93b73", func := "pawnshop/pawnshoplaw23.ClashLess", spec := "clashLess", inPlace := ["slices.overlaps[int]"], unfollowed := true, recurses := true, apart := false }
def ClashLessSaid : Prop := clashLessRow.holds Tryz.pinned (OpenSpec.ofChange clashLessSpec)

/-- ITS FALSE NEIGHBOUR: 'it returns false'. Refute it at one input. -/
def clashLessWrong : ChangeSpec := { name := "clashLess", fn := fun _ => fun
  | [d] => { results := [.lit (.bool false)], args := [d] }
  | _ => none }
def ClashLessWrongFalsely : Prop := clashLessRow.holds Tryz.pinned (OpenSpec.ofChange clashLessWrong)

/-- 'pawnshoplaw22.ScopeFinds': WHATEVER THE INPUT: true; the input reads as it did. -/
def scopeFindsSpec : ChangeSpec := { name := "scopeFinds", fn := fun _ => fun
  | [d] => { results := [.lit (.bool true)], args := [d] }
  | _ => none }
def scopeFindsRow : OpenClaim := { program := "ytemnfncbgalljaagreat", sum := "aa19c6a7de94ed06a2dab17717d284bbb0c207173a4556f8505fe6df96e93b73", func := "pawnshop/pawnshoplaw22.ScopeFinds", spec := "scopeFinds", inPlace := ["slices.overlaps[int]"], unfollowed := true, recurses := true, apart := false }
def ScopeFindsSaid : Prop := scopeFindsRow.holds Tryz.pinned (OpenSpec.ofChange scopeFindsSpec)

/-- ITS FALSE NEIGHBOUR: 'it returns false'. Refute it at one input. -/
def scopeFindsWrong : ChangeSpec := { name := "scopeFinds", fn := fun _ => fun
  | [d] => { results := [.lit (.bool false)], args := [d] }
  | _ => none }
def ScopeFindsWrongFalsely : Prop := scopeFindsRow.holds Tryz.pinned (OpenSpec.ofChange scopeFindsWrong)

/- THE SECOND FORM. 'bulk': how many values and letters a reading holds, each counted each time it is reached (what is shared counts as often as it is met; a slice's spare places count too). A statement '..UptoSaid' is the law's where the arguments, and the package variables that the reading takes, are together of bulk at most 1048576: NARROWER than '..Said'. Prove '..Said' where nothing that the law and all that it calls make is longer than what came in: it says more and counts as full. Else prove '..UptoSaid'. A law counts once. -/
mutual
def uptoBulk {H : Type} : DataW H → Nat
  | .lit (.string bytes) => bytes.length + 1
  | .lit _ => 1
  | .nil => 1
  | .ptr d => uptoBulk d + 1
  | .slice elems spare => uptoBulkAll elems + uptoBulkAll spare + 1
  | .agg parts => uptoBulkAll parts + 1
  | .iface _ d => uptoBulk d + 1
  | .map entries => uptoBulkEntries entries + 1
  | .held _ => 1
def uptoBulkAll {H : Type} : List (DataW H) → Nat
  | [] => 0
  | d :: r => uptoBulk d + uptoBulkAll r
def uptoBulkEntries {H : Type} : List (Lit × DataW H) → Nat
  | [] => 0
  | x :: r => uptoBulkEntry x + uptoBulkEntries r
def uptoBulkEntry {H : Type} : Lit × DataW H → Nat
  | (.string bytes, d) => bytes.length + uptoBulk d + 1
  | (_, d) => uptoBulk d + 1
 end
def uptoSmall : (H : Type) → List (DataW H) → Bool := fun _ ds => decide (uptoBulkAll ds ≤ 1048576)
def OpenSpec.upto (s : _root_.Go.ChangeSpec) : _root_.Go.OpenSpec := { _root_.Go.OpenSpec.ofChange s with cond := some uptoSmall }

/-- 'pawnshoplaw24.CheckerExact', WHERE WHAT IT READS IS OF BULK AT MOST 1048576: true; the input reads as it did. -/
def checkerExactUptoRow : OpenClaim := { program := "ytemnfncbgalljaagreat", sum := "aa19c6a7de94ed06a2dab17717d284bbb0c207173a4556f8505fe6df96e93b73", func := "pawnshop/pawnshoplaw24.CheckerExact", spec := "checkerExact", inPlace := ["slices.overlaps[int]"], unfollowed := true, recurses := true, apart := false, narrowed := true }
def CheckerExactUptoSaid : Prop := checkerExactUptoRow.holds Tryz.pinned (OpenSpec.upto checkerExactSpec)

/-- 'pawnshoplaw24.CheckerBare', WHERE WHAT IT READS IS OF BULK AT MOST 1048576: true; the input reads as it did. -/
def checkerBareUptoRow : OpenClaim := { program := "ytemnfncbgalljaagreat", sum := "aa19c6a7de94ed06a2dab17717d284bbb0c207173a4556f8505fe6df96e93b73", func := "pawnshop/pawnshoplaw24.CheckerBare", spec := "checkerBare", inPlace := ["slices.overlaps[int]"], unfollowed := true, recurses := true, apart := false, narrowed := true }
def CheckerBareUptoSaid : Prop := checkerBareUptoRow.holds Tryz.pinned (OpenSpec.upto checkerBareSpec)

/-- 'pawnshoplaw24.CheckerFuncs', WHERE WHAT IT READS IS OF BULK AT MOST 1048576: true; the input reads as it did. -/
def checkerFuncsUptoRow : OpenClaim := { program := "ytemnfncbgalljaagreat", sum := "aa19c6a7de94ed06a2dab17717d284bbb0c207173a4556f8505fe6df96e93b73", func := "pawnshop/pawnshoplaw24.CheckerFuncs", spec := "checkerFuncs", inPlace := ["slices.overlaps[int]"], unfollowed := true, recurses := true, apart := false, narrowed := true }
def CheckerFuncsUptoSaid : Prop := checkerFuncsUptoRow.holds Tryz.pinned (OpenSpec.upto checkerFuncsSpec)

/-- 'pawnshoplaw24.CheckerOrder', WHERE WHAT IT READS IS OF BULK AT MOST 1048576: true; the input reads as it did. -/
def checkerOrderUptoRow : OpenClaim := { program := "ytemnfncbgalljaagreat", sum := "aa19c6a7de94ed06a2dab17717d284bbb0c207173a4556f8505fe6df96e93b73", func := "pawnshop/pawnshoplaw24.CheckerOrder", spec := "checkerOrder", inPlace := ["slices.overlaps[int]"], unfollowed := true, recurses := true, apart := false, narrowed := true }
def CheckerOrderUptoSaid : Prop := checkerOrderUptoRow.holds Tryz.pinned (OpenSpec.upto checkerOrderSpec)

/-- 'pawnshoplaw24.CheckerPrints', WHERE WHAT IT READS IS OF BULK AT MOST 1048576: true; the input reads as it did. -/
def checkerPrintsUptoRow : OpenClaim := { program := "ytemnfncbgalljaagreat", sum := "aa19c6a7de94ed06a2dab17717d284bbb0c207173a4556f8505fe6df96e93b73", func := "pawnshop/pawnshoplaw24.CheckerPrints", spec := "checkerPrints", inPlace := ["slices.overlaps[int]"], unfollowed := true, recurses := true, apart := false, narrowed := true }
def CheckerPrintsUptoSaid : Prop := checkerPrintsUptoRow.holds Tryz.pinned (OpenSpec.upto checkerPrintsSpec)

/-- 'pawnshoplaw24.CheckerChecks', WHERE WHAT IT READS IS OF BULK AT MOST 1048576: true; the input reads as it did. -/
def checkerChecksUptoRow : OpenClaim := { program := "ytemnfncbgalljaagreat", sum := "aa19c6a7de94ed06a2dab17717d284bbb0c207173a4556f8505fe6df96e93b73", func := "pawnshop/pawnshoplaw24.CheckerChecks", spec := "checkerChecks", inPlace := ["slices.overlaps[int]"], unfollowed := true, recurses := true, apart := false, narrowed := true }
def CheckerChecksUptoSaid : Prop := checkerChecksUptoRow.holds Tryz.pinned (OpenSpec.upto checkerChecksSpec)

/-- 'pawnshoplaw24.CheckerNames', WHERE WHAT IT READS IS OF BULK AT MOST 1048576: true; the input reads as it did. -/
def checkerNamesUptoRow : OpenClaim := { program := "ytemnfncbgalljaagreat", sum := "aa19c6a7de94ed06a2dab17717d284bbb0c207173a4556f8505fe6df96e93b73", func := "pawnshop/pawnshoplaw24.CheckerNames", spec := "checkerNames", inPlace := ["slices.overlaps[int]"], unfollowed := true, recurses := true, apart := false, narrowed := true }
def CheckerNamesUptoSaid : Prop := checkerNamesUptoRow.holds Tryz.pinned (OpenSpec.upto checkerNamesSpec)

/-- 'pawnshoplaw23.ClashFinds', WHERE WHAT IT READS IS OF BULK AT MOST 1048576: true; the input reads as it did. -/
def clashFindsUptoRow : OpenClaim := { program := "ytemnfncbgalljaagreat", sum := "aa19c6a7de94ed06a2dab17717d284bbb0c207173a4556f8505fe6df96e93b73", func := "pawnshop/pawnshoplaw23.ClashFinds", spec := "clashFinds", inPlace := ["slices.overlaps[int]"], unfollowed := true, recurses := true, apart := false, narrowed := true }
def ClashFindsUptoSaid : Prop := clashFindsUptoRow.holds Tryz.pinned (OpenSpec.upto clashFindsSpec)

/-- 'pawnshoplaw23.ClashNames', WHERE WHAT IT READS IS OF BULK AT MOST 1048576: true; the input reads as it did. -/
def clashNamesUptoRow : OpenClaim := { program := "ytemnfncbgalljaagreat", sum := "aa19c6a7de94ed06a2dab17717d284bbb0c207173a4556f8505fe6df96e93b73", func := "pawnshop/pawnshoplaw23.ClashNames", spec := "clashNames", inPlace := ["slices.overlaps[int]"], unfollowed := true, recurses := true, apart := false, narrowed := true }
def ClashNamesUptoSaid : Prop := clashNamesUptoRow.holds Tryz.pinned (OpenSpec.upto clashNamesSpec)

/-- 'pawnshoplaw23.ClashAll', WHERE WHAT IT READS IS OF BULK AT MOST 1048576: true; the input reads as it did. -/
def clashAllUptoRow : OpenClaim := { program := "ytemnfncbgalljaagreat", sum := "aa19c6a7de94ed06a2dab17717d284bbb0c207173a4556f8505fe6df96e93b73", func := "pawnshop/pawnshoplaw23.ClashAll", spec := "clashAll", inPlace := ["slices.overlaps[int]"], unfollowed := true, recurses := true, apart := false, narrowed := true }
def ClashAllUptoSaid : Prop := clashAllUptoRow.holds Tryz.pinned (OpenSpec.upto clashAllSpec)

/-- 'pawnshoplaw23.ClashLess', WHERE WHAT IT READS IS OF BULK AT MOST 1048576: true; the input reads as it did. -/
def clashLessUptoRow : OpenClaim := { program := "ytemnfncbgalljaagreat", sum := "aa19c6a7de94ed06a2dab17717d284bbb0c207173a4556f8505fe6df96e93b73", func := "pawnshop/pawnshoplaw23.ClashLess", spec := "clashLess", inPlace := ["slices.overlaps[int]"], unfollowed := true, recurses := true, apart := false, narrowed := true }
def ClashLessUptoSaid : Prop := clashLessUptoRow.holds Tryz.pinned (OpenSpec.upto clashLessSpec)

/-- 'pawnshoplaw22.ScopeFinds', WHERE WHAT IT READS IS OF BULK AT MOST 1048576: true; the input reads as it did. -/
def scopeFindsUptoRow : OpenClaim := { program := "ytemnfncbgalljaagreat", sum := "aa19c6a7de94ed06a2dab17717d284bbb0c207173a4556f8505fe6df96e93b73", func := "pawnshop/pawnshoplaw22.ScopeFinds", spec := "scopeFinds", inPlace := ["slices.overlaps[int]"], unfollowed := true, recurses := true, apart := false, narrowed := true }
def ScopeFindsUptoSaid : Prop := scopeFindsUptoRow.holds Tryz.pinned (OpenSpec.upto scopeFindsSpec)

end Rows
end Go.Proofs.YtemnfncbgalljaaGreat
