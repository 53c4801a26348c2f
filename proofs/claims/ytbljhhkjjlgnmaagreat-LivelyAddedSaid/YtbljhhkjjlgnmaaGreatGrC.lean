/- Layer 11: lists of points: whether one is in it, whether two are the same. No condition. -/
import Derived.Test.YtbljhhkjjlgnmaaGreatGrB
namespace Go.Proofs.YtbljhhkjjlgnmaaGreat
open Go.RowKit
set_option linter.unusedVariables false
set_option linter.unusedSimpArgs false

/-- A slice of a caller's own, seen from a callee. -/
theorem RowIs.one {c : Nat → Nat → Row} {w : World} {R : ORow} {v : Value} (h : RowIs c w R v) (hp : ∀ j, j < R.n → plainL (R.el j) = true) : ∃ a cap, v = .slice a R.n cap ∧ XOk ⟨[], OneR a R.n cap R.es R.el, []⟩ ⟨w, []⟩ := by
  obtain ⟨a, cap, rfl⟩ := h.form
  refine ⟨a, cap, rfl, fun q i j hj => ?_⟩
  obtain ⟨b, p, h1, h2, vs, h3, h4⟩ := h.row (c' := OneR a R.n cap R.es R.el) hp (j := j) hj
  exact ⟨b, p, h1, h2, by simp, vs, h3, h4⟩
theorem mem_of_getD {L : List (Nat × Nat)} {p : Nat × Nat} {j : Nat} (hj : j < L.length) (h : L.getD j (0, 0) = p) : p ∈ L := by
  rw [← h]; simp only [List.getD, List.getElem?_eq_getElem hj, Option.getD_some]; exact List.getElem_mem hj
theorem not_mem_getD {L : List (Nat × Nat)} {p : Nat × Nat} (h : ∀ j, j < L.length → L.getD j (0, 0) ≠ p) : p ∉ L := fun hm => by
  obtain ⟨j, hj, e⟩ := List.getElem_of_mem hm
  exact h j hj (by simp only [List.getD, List.getElem?_eq_getElem hj, Option.getD_some, e])


end Go.Proofs.YtbljhhkjjlgnmaaGreat
