/- LivelyLeast, plain: a sweep downward over the points, round by round. No condition. -/
import Derived.Test.YtmceonmlgcbcmaaGreatLwB
import Derived.Test.YtmceonmlgcbcmaaGreatIrA
namespace Go.Proofs.YtmceonmlgcbcmaaGreat
open Go.RowKit
set_option linter.unusedVariables false
set_option linter.unusedSimpArgs false

namespace DnG
abbrev DS := (Nat → Bool) × Bool
variable (rs : Nat → List Nat) (st : Nat → Bool)
def step (x : DS) (n : Nat) : DS := if (x.1 n || st n) = true then x else (fun j => if j = n then (rs n).any x.1 else x.1 j, x.2 || (rs n).any x.1)
def dn (R : Nat → Bool) (N : Nat) : Nat → DS
  | 0 => (R, false)
  | k + 1 => step rs st (dn R N k) (N - 1 - k)
/-- What holds before point t is looked at, points from above on. -/
def W (R : Nat → Bool) (N t : Nat) : DS := dn rs st R N (N - t)
theorem W_top (R : Nat → Bool) (N : Nat) : W rs st R N N = (R, false) := by simp [W, dn]
theorem W_step {R : Nat → Bool} {N t : Nat} (h : t < N) : W rs st R N t = step rs st (W rs st R N (t + 1)) t := by
  unfold W
  have e : N - t = (N - (t + 1)) + 1 := by omega
  rw [e, dn]
  congr 1
  omega
/-- Within a point: so many of the next ones taken. -/
def inn (R : Nat → Bool) (n k : Nat) : Nat → Bool := fun j => if j = n then ((rs n).take k).any R else R j
theorem step_up {x : DS} {n j : Nat} (h : x.1 j = true) : (step rs st x n).1 j = true := by
  unfold step
  split
  · exact h
  · rename_i g
    by_cases e : j = n
    · subst e; rw [h] at g; simp at g
    · simp only [if_neg e]; exact h
theorem dn_up {R : Nat → Bool} {N j : Nat} (h : R j = true) : ∀ k, (dn rs st R N k).1 j = true
  | 0 => h
  | k + 1 => step_up rs st (dn_up h k)
theorem dn_new {R : Nat → Bool} {N : Nat} : ∀ k, k ≤ N → (dn rs st R N k).2 = true → ∃ n, n < N ∧ R n = false ∧ (dn rs st R N k).1 n = true
  | 0, _, h => by simp [dn] at h
  | k + 1, hk, h => by
    have ih := dn_new (R := R) (N := N) k (by omega)
    simp only [dn] at h ⊢
    generalize hx : dn rs st R N k = x at h ih
    by_cases g : (x.1 (N - 1 - k) || st (N - 1 - k)) = true
    · have e : step rs st x (N - 1 - k) = x := by unfold step; rw [if_pos g]
      rw [e] at h ⊢
      exact ih h
    · by_cases h2 : x.2 = true
      · obtain ⟨n, h3, h4, h5⟩ := ih h2
        exact ⟨n, h3, h4, step_up rs st h5⟩
      · have e : step rs st x (N - 1 - k) = (fun j => if j = N - 1 - k then (rs (N - 1 - k)).any x.1 else x.1 j, x.2 || (rs (N - 1 - k)).any x.1) := by unfold step; rw [if_neg g]
        rw [e] at h ⊢
        have h2 : x.2 = false := by simpa using h2
        simp only [h2, Bool.false_or] at h
        refine ⟨N - 1 - k, by omega, ?_, by simp only [if_true]; exact h⟩
        cases hR : R (N - 1 - k)
        · rfl
        · have := dn_up rs st (N := N) hR k
          rw [hx] at this
          rw [this] at g; simp at g
theorem dn_no {R : Nat → Bool} {N : Nat} : ∀ k, k ≤ N → (dn rs st R N k).2 = false → (dn rs st R N k).1 = R ∧ ∀ n, N - k ≤ n → n < N → (R n || st n) = false → (rs n).any R = false
  | 0, _, _ => ⟨rfl, fun n h1 h2 => by omega⟩
  | k + 1, hk, h => by
    have ih := dn_no (R := R) (N := N) k (by omega)
    simp only [dn] at h ⊢
    generalize hx : dn rs st R N k = x at h ih
    by_cases g : (x.1 (N - 1 - k) || st (N - 1 - k)) = true
    · have e : step rs st x (N - 1 - k) = x := by unfold step; rw [if_pos g]
      rw [e] at h ⊢
      have h2 := ih h
      refine ⟨h2.1, fun n h3 h4 h5 => ?_⟩
      by_cases e2 : n = N - 1 - k
      · subst e2; rw [h2.1] at g; rw [h5] at g; simp at g
      · exact h2.2 n (by omega) h4 h5
    · have e : step rs st x (N - 1 - k) = (fun j => if j = N - 1 - k then (rs (N - 1 - k)).any x.1 else x.1 j, x.2 || (rs (N - 1 - k)).any x.1) := by unfold step; rw [if_neg g]
      rw [e] at h ⊢
      simp only [Bool.or_eq_false_iff] at h
      have h2 := ih h.1
      refine ⟨?_, fun n h3 h4 h5 => ?_⟩
      · funext j
        by_cases e2 : j = N - 1 - k
        · subst e2
          simp only [if_true]
          rw [h.2]
          cases hR : R (N - 1 - k)
          · rfl
          · rw [h2.1, hR] at g; simp at g
        · simp only [if_neg e2]; rw [h2.1]
      · by_cases e2 : n = N - 1 - k
        · subst e2; rw [h2.1] at h; exact h.2
        · exact h2.2 n (by omega) h4 h5
theorem W_cnt {R : Nat → Bool} {N : Nat} (h : (W rs st R N 0).2 = true) : FlowG.cnt R N < FlowG.cnt (W rs st R N 0).1 N := by
  obtain ⟨n, h1, h2, h3⟩ := dn_new rs st (N - 0) (by omega) h
  exact FlowG.cnt_lt (fun l hl => dn_up rs st hl _) h2 h3 N h1
theorem cnt_all {S : Nat → Bool} : ∀ n, n ≤ FlowG.cnt S n → ∀ j, j < n → S j = true
  | 0, _, j, hj => by omega
  | n + 1, h, j, hj => by
    have := FlowG.cnt_le S n
    simp only [FlowG.cnt] at h
    split at h
    · rename_i g
      rcases Nat.lt_or_eq_of_le (Nat.le_of_lt_succ hj) with h2 | rfl
      · exact cnt_all n (by omega) j h2
      · exact g
    · omega
end DnG

theorem least_fin {F : GFun} {l : Nat} {R : Nat → Bool} (hu : ∀ n, n < stN F.sn F.bn → uB F (pbN F n) (piN F n) l = true → R n = true)
    (hc : ∀ n, n < stN F.sn F.bn → (R n || decide (smN F n = Int.ofNat l)) = false → (rsucc F n).any R = false) {n : Nat} (h : (liveG F).liB l n = true) : R n = true := by
  have h := clB_iff.1 h
  have key : ∀ n, Cl ((liveG F).Z l) ((liveG F).R l) n → R n = true := fun n h => by
    induction h with
    | zero h => exact hu _ h.1 h.2
    | step _ hr ih =>
      rename_i m n _
      cases hR : R n
      · exfalso
        have hs : decide (smN F n = Int.ofNat l) = false := decide_eq_false (fun e => by
          have := of_decide_eq_false (show decide (Int.ofNat l = sI F (pbN F n) (piN F n)) = false from hr.2.2)
          exact this e.symm)
        have := hc n hr.1 (by rw [hR, hs]; rfl)
        have h2 : (rsucc F n).any R = true := List.any_eq_true.2 ⟨m, (rsucc_mem hr.1).2 hr.2.1, ih⟩
        rw [h2] at this; cases this
      · rfl
  exact key n h

end Go.Proofs.YtmceonmlgcbcmaaGreat
