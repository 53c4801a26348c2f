/- A second way to walk: contracts that name no outside rows hold among whatever rows. No condition. -/
import Derived.Test.YtbimggeapaaliaaSxK
namespace Go.Proofs.Ytbimggeapaaliaa
open Go.RowKit
set_option linter.unusedVariables false
set_option linter.unusedSimpArgs false

/-! A contract that names no outside rows holds among whatever rows. -/
def SC.noX : SC → Bool
  | .xs .. | .xp .. => false
  | _ => true
def noXL : List SC → Bool
  | [] => true
  | c :: l => c.noX && noXL l
def SA.noX : SA → Bool
  | .one c => c.noX
  | .agg l => noXL l
def noXA : List SA → Bool
  | [] => true
  | c :: l => c.noX && noXA l
def SV.noX : SV → Bool
  | .pt a => a.noX
  | .tup l => noXA l
section
variable {c c' : Nat → Nat → Row} {g : List Value}
theorem noX_is {x : SC} {v : Value} (hk : x.noX = true) (h : x.is ⟨[], c, g⟩ v) : x.is ⟨[], c', g⟩ v := by
  cases x with
  | fn f cap =>
    obtain ⟨vs, rfl, h2⟩ := h
    refine ⟨vs, rfl, ?_⟩
    have : ∀ (l : List (Nat × Nat)) (vs : List Value), capIs ⟨[], c, g⟩ l vs → capIs ⟨[], c', g⟩ l vs := by
      intro l
      induction l with
      | nil => intro vs h; cases vs <;> simp_all [capIs]
      | cons p l ih =>
        intro vs h
        cases vs with
        | nil => simp [capIs] at h
        | cons v vs => exact ⟨h.1, ih vs h.2⟩
    exact this _ _ h2
  | xs q i => simp [SC.noX] at hk
  | xp q i j o => simp [SC.noX] at hk
  | _ => exact h
theorem noXL_is : ∀ {x : List SC} {v : List Value}, noXL x = true → isL ⟨[], c, g⟩ x v → isL ⟨[], c', g⟩ x v
  | [], [], _, _ => trivial
  | _ :: _, _ :: _, hk, h => by
    simp only [noXL, Bool.and_eq_true] at hk
    exact ⟨noX_is hk.1 h.1, noXL_is hk.2 h.2⟩
  | [], _ :: _, _, h => h.elim
  | _ :: _, [], _, h => h.elim
theorem noXA1_is {x : SA} {v : Value} (hk : x.noX = true) (h : x.is ⟨[], c, g⟩ v) : x.is ⟨[], c', g⟩ v := by
  cases x
  · exact noX_is hk h
  · obtain ⟨vs, rfl, hl⟩ := h; exact ⟨vs, rfl, noXL_is hk hl⟩
theorem noXA_is : ∀ {x : List SA} {v : List Value}, noXA x = true → isA ⟨[], c, g⟩ x v → isA ⟨[], c', g⟩ x v
  | [], [], _, _ => trivial
  | _ :: _, _ :: _, hk, h => by
    simp only [noXA, Bool.and_eq_true] at hk
    exact ⟨noXA1_is hk.1 h.1, noXA_is hk.2 h.2⟩
  | [], _ :: _, _, h => h.elim
  | _ :: _, [], _, h => h.elim
theorem noXV_is {x : SV} {v : Value} (hk : x.noX = true) (h : x.is ⟨[], c, g⟩ v) : x.is ⟨[], c', g⟩ v := by
  cases x
  · exact noXA1_is hk h
  · obtain ⟨vs, rfl, hl⟩ := h; exact ⟨vs, rfl, noXA_is hk hl⟩
end
def plainR : List ORow → Prop
  | [] => True
  | R :: l => (∀ j, j < R.n → plainL (R.el j) = true) ∧ plainR l
theorem plainR_get : ∀ {r : List ORow}, plainR r → ∀ (i : Nat) (R : ORow), r[i]? = some R → ∀ j, j < R.n → plainL (R.el j) = true
  | [], _, i, R, h => by simp at h
  | S :: l, hp, i, R, h => by
    cases i with
    | zero => simp at h; subst h; exact hp.1
    | succ i => exact plainR_get hp.2 i R (by simpa using h)
theorem RetR.to {w w' : World} {c c' : Nat → Nat → Row} {x : SV} {r : List ORow} {en : Ending} (hr : plainR r) (hx : x.noX = true) (h : RetR w c x r en w') : RetR w c' x r en w' := by
  obtain ⟨v, g, h1, h2, h3, h4⟩ := h
  refine ⟨v, g, h1, h2, ⟨h3.len, fun i R hi => ?_, h3.nd⟩, noXV_is hx h4⟩
  obtain ⟨v, xs, a1, a2, a3, a4⟩ := h3.row i R hi
  exact ⟨v, xs, a1, a2, fun j hj => plainL_is (plainR_get hr i R hi j hj) (a3 j hj), a4⟩
theorem Calls.to {P : Program} {f : Nat} {args : Array Value} {w : World} {c c' : Nat → Nat → Row} {x : SV} {r : List ORow} (hr : plainR r) (hx : x.noX = true) (h : Calls P f args w (RetR w c x r)) : Calls P f args w (RetR w c' x r) :=
  h.mono fun _ _ h => h.to hr hx

end Go.Proofs.Ytbimggeapaaliaa
