/- A second way to walk: the types of this seat. No condition. -/
import Derived.Test.YtbimggeapaaliaaSxJ
namespace Go.Proofs.Ytbimggeapaaliaa
open Go.RowKit
set_option linter.unusedVariables false
set_option linter.unusedSimpArgs false

def lookT : List (Nat × Ty) → Nat → Option Ty
  | [], _ => none
  | (t, y) :: l, s => if s = t then some y else lookT l s
theorem lookT_mem : ∀ {l : List (Nat × Ty)} {t : Nat} {y : Ty}, lookT l t = some y → (t, y) ∈ l
  | [], _, _, h => by cases h
  | (t', y') :: l, t, y, h => by
    unfold lookT at h
    split at h
    · rename_i e; subst e; cases h; exact List.mem_cons_self ..
    · exact List.mem_cons_of_mem _ (lookT_mem h)
def tabL : List (Nat × Ty) :=
  (5, .one (.int .u8 0)) ::
  (3, .one (.int .i64 0)) ::
  (2, .one (.int .i64 0)) ::
  (29, .one (.int .i64 0)) ::
  (118, .one (.int .u32 0)) ::
  (4, .one (.lit false)) ::
  (50, .struct 2 [.int .u8 0, .int .u8 0] [(0, 1, false), (1, 1, false)] true) ::
  (38, .struct 3 [.int .i64 0, .lit false, .int .u8 0] [(0, 1, false), (1, 1, false), (2, 1, false)] true) ::
  (40, .struct 5 [.int .u8 0, .int .i64 0, .int .i64 0, .lit false, .int .u8 0] [(0, 1, false), (1, 1, false), (2, 3, true)] true) ::
  (42, .struct 16 [.int .u8 0, .int .u8 0, .int .u8 0, .int .u8 0, .int .i64 0, .int .i64 0, .lit false, .int .u8 0, .int .u8 0, .int .i64 0, .int .i64 0, .lit false, .int .u8 0, .int .i64 0, .lit false, .int .u8 0] [(0, 1, false), (1, 1, false), (2, 1, false), (3, 5, true), (8, 5, true), (13, 3, true)] true) ::
  (44, .struct 26 [.int .u8 0, .int .i64 0, .lit false, .int .u8 0, .int .u8 0, .int .u8 0, .int .u8 0, .int .u8 0, .int .i64 0, .int .i64 0, .lit false, .int .u8 0, .int .u8 0, .int .i64 0, .int .i64 0, .lit false, .int .u8 0, .int .i64 0, .lit false, .int .u8 0, .int .u8 0, .int .i64 0, .int .i64 0, .lit false, .int .u8 0, .int .i64 0] [(0, 1, false), (1, 3, true), (4, 16, true), (20, 5, true), (25, 1, false)] true) ::
  (54, .struct 13 [.int .u8 0, .int .u8 0, .int .i64 0, .int .i64 0, .lit false, .int .u8 0, .int .i64 0, .int .i64 0, .int .i64 0, nilSlice, .int .i64 0, .lit false, .int .u8 0] [(0, 1, false), (1, 5, true), (6, 1, false), (7, 1, false), (8, 1, false), (9, 1, false), (10, 3, true)] false) ::
  (56, .struct 14 [nilSlice, .int .u8 0, .int .u8 0, .int .i64 0, .int .i64 0, .lit false, .int .u8 0, .int .i64 0, .int .i64 0, .int .i64 0, nilSlice, .int .i64 0, .lit false, .int .u8 0] [(0, 1, false), (1, 13, true)] false) ::
  (25, .struct 4 [.int .i64 0, .lit false, nilSlice, nilSlice] [(0, 1, false), (1, 1, false), (2, 1, false), (3, 1, false)] false) ::
  (66, .struct 2 [.int .i64 0, .int .i64 0] [(0, 1, false), (1, 1, false)] true) ::
  (35, .struct 4 [.int .i64 0, .int .i64 0, .int .i64 0, .int .u8 0] [(0, 1, false), (1, 1, false), (2, 1, false), (3, 1, false)] true) ::
  (22, .slice 2 true [.int .u8 0, .int .u8 0]) ::
  (52, .slice 5 true [.int .u8 0, .int .i64 0, .int .i64 0, .lit false, .int .u8 0]) ::
  (51, .slice 26 true [.int .u8 0, .int .i64 0, .lit false, .int .u8 0, .int .u8 0, .int .u8 0, .int .u8 0, .int .u8 0, .int .i64 0, .int .i64 0, .lit false, .int .u8 0, .int .u8 0, .int .i64 0, .int .i64 0, .lit false, .int .u8 0, .int .i64 0, .lit false, .int .u8 0, .int .u8 0, .int .i64 0, .int .i64 0, .lit false, .int .u8 0, .int .i64 0]) ::
  (23, .slice 14 true [nilSlice, .int .u8 0, .int .u8 0, .int .i64 0, .int .i64 0, .lit false, .int .u8 0, .int .i64 0, .int .i64 0, .int .i64 0, nilSlice, .int .i64 0, .lit false, .int .u8 0]) ::
  (62, .slice 2 true [.int .i64 0, .int .i64 0]) ::
  (28, .slice 4 true [.int .i64 0, .int .i64 0, .int .i64 0, .int .u8 0]) ::
  (32, .slice 1 false [.int .i64 0]) ::
  (109, .arr 2 5 true [.int .u8 0, .int .i64 0, .int .i64 0, .lit false, .int .u8 0, .int .u8 0, .int .i64 0, .int .i64 0, .lit false, .int .u8 0]) ::
  (79, .arr 16 1 false [.int .i64 0, .int .i64 0, .int .i64 0, .int .i64 0, .int .i64 0, .int .i64 0, .int .i64 0, .int .i64 0, .int .i64 0, .int .i64 0, .int .i64 0, .int .i64 0, .int .i64 0, .int .i64 0, .int .i64 0, .int .i64 0]) ::
  (69, .arr 16 1 false [.lit false, .lit false, .lit false, .lit false, .lit false, .lit false, .lit false, .lit false, .lit false, .lit false, .lit false, .lit false, .lit false, .lit false, .lit false, .lit false]) ::
  []
def cmpRow (P : Program) (p : Nat × Ty) : Bool := match p.2 with
  | .struct _ z _ true => cmpB P 5 p.1 z
  | _ => true
theorem tab_ty : tabL.all (fun p => tyB Try.prog p.1 p.2) = true := by kernel_rfl
theorem tab_cmp : tabL.all (cmpRow Try.prog) = true := by kernel_rfl
theorem T0_ok {nd : Bool → Bool → Bool} {nt : Bool → Bool} {ar : BinOp → IntKind → Int → Int → Int} {cm : BinOp → Int → Int → Bool} {mx mn : Int → Int → Int} {pl : Nat → Nat → Nat} {jn : Nat → (Nat → List SC) → (Nat → List SC) → Nat → List SC} {up : (Nat → List SC) → Nat → Nat → List SC → Nat → List SC} {mi : Nat → Nat → Nat} {dp : Nat → (Nat → List SC) → Nat → List SC} (h1 : nd = and) (h2 : nt = not) (h3 : ar = rAr) (h4 : cm = rCm) (h5 : mx = rMx) (h6 : mn = rMn) (h7 : pl = fun x y => x + y) (h8 : jn = rJn) (h9 : up = rUp) (h10 : mi = fun x y => x - y) (h11 : dp = rDp) :
    TOk Try.prog ⟨lookT tabL, nd, nt, ar, cm, mx, mn, pl, jn, up, mi, dp⟩ :=
  ⟨fun t y h => List.all_eq_true.1 tab_ty (t, y) (lookT_mem h), fun t s z l h => by
    have := List.all_eq_true.1 tab_cmp (t, _) (lookT_mem h)
    exact this, h1, h2, h3, h4, h5, h6, h7, h8, h9, h10, h11⟩

end Go.Proofs.Ytbimggeapaaliaa
