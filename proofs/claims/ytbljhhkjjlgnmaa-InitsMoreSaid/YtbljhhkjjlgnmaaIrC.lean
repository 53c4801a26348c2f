/- Layer 15 of the reference: what points move, set, unset, read. No condition. -/
import Derived.Test.YtbljhhkjjlgnmaaIrA
import Derived.Test.YtbljhhkjjlgnmaaInC
namespace Go.Proofs.Ytbljhhkjjlgnmaa
open Go.RowKit
set_option linter.unusedVariables false
set_option linter.unusedSimpArgs false

/-- How many of the first k operands move a local. -/
def mvN (g : Nat → GOper) (x : Int) : Nat → Nat
  | 0 => 0
  | k + 1 => mvN g x k + if (g k).k = 3 ∧ (g k).p.l = x then 1 else 0

theorem mvN_le (g : Nat → GOper) (x : Int) : ∀ k, mvN g x k ≤ k
  | 0 => Nat.le_refl _
  | k + 1 => by have := mvN_le g x k; simp only [mvN]; split <;> omega

/-- How many of the first k operands have places. -/
def plN (g : Nat → GOper) : Nat → Nat
  | 0 => 0
  | k + 1 => plN g k + if (g k).k = 1 then 0 else 1

theorem plN_le (g : Nat → GOper) : ∀ k, plN g k ≤ k
  | 0 => Nat.le_refl _
  | k + 1 => by have := plN_le g k; simp only [plN]; split <;> omega

/-- The locals of the first k operands that have places. -/
def rdO (g : Nat → GOper) : Nat → List Int
  | 0 => []
  | k + 1 => rdO g k ++ if (g k).k = 1 then [] else [(g k).p.l]

theorem rdO_len (g : Nat → GOper) : ∀ k, (rdO g k).length = plN g k
  | 0 => rfl
  | k + 1 => by
    simp only [rdO, plN, List.length_append, rdO_len g k]
    split <;> simp

/-- What a point reads besides its operands. -/
def rdT (F : GFun) (n : Nat) : List Int :=
  (if isAt F n = true ∧ (stAt F n).k = 1 ∧ 4 ≤ (stAt F n).r.k then [(stAt F n).r.p.l] else []) ++
  ((if tgW F n = true ∧ wholeP (tgP F n) = false then [(tgP F n).l] else []) ++
  (if isAt F n = false ∧ F.jk (pbN F n) = 3 then [0] else []))


theorem opN_B {F : GFun} {n : Nat} (h : ¬ (isAt F n = true ∨ F.jk (pbN F n) = 2)) : opN F n = F.jn (pbN F n) ∧ opG F n = F.ja (pbN F n) := by
  unfold opN opG
  rw [if_neg (fun g => h (.inl g)), if_neg (fun g => h (.inr g)), if_neg (fun g => h (.inl g)), if_neg (fun g => h (.inr g))]
  exact ⟨rfl, rfl⟩

theorem quo_u64 {ar : BinOp → IntKind → Int → Int → Int} (har : ar = rAr) {x : Int} (h0 : 0 ≤ x) (h1 : x < 1000) : ar .quo .u64 x 0 = .ofNat x.toNat := by
  rw [har]
  show IntKind.u64.wrap x = _
  have e : IntKind.u64.wrap x = x % (2 ^ 64 : Int) := by simp [IntKind.wrap, IntKind.bits, IntKind.signed]
  rw [e]
  simp only [Int.ofNat_eq_natCast]
  omega

theorem intLe_app {pl : Nat → Nat → Nat} {jn : Nat → (Nat → List SC) → (Nat → List SC) → Nat → List SC} (hpl : pl = fun x y => x + y) (hjn : jn = rJn) {n : Nat} {el : Nat → List SC} {L : List Int} {x : Int} (h : RowLe ⟨n, 1, el⟩ (intR L)) : RowLe ⟨pl n 1, 1, jn n el (fun j => cutL [.int .i64 x] (0 + j * 1) 1)⟩ (intR (L ++ [x])) := by
  have hn : n = L.length := h.n
  refine rowLe_snoc hpl hjn (by rw [List.length_append, ← hn]; rfl) (fun j hj => ?_) ?_
  · have := h.el j hj
    simp only [intR] at this
    rw [show (L ++ [x]).getD j 0 = L.getD j 0 by simp [List.getD, List.getElem?_append_left (show j < L.length by omega)]]
    exact this
  · rw [hn, show (L ++ [x]).getD L.length 0 = x by simp [List.getD]]
    exact ⟨⟨rfl, rfl⟩, trivial⟩

theorem intR_plain (L : List Int) : plainR [intR L] := ⟨fun _ _ => rfl, trivial⟩










end Go.Proofs.Ytbljhhkjjlgnmaa
