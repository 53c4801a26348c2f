/- The types of the reference, and texts: what each call comes to. No condition. -/
import Derived.Test.YtbimggeapaaliaaShapeA
import Derived.Test.YtbimggeapaaliaaEqType
namespace Go.Proofs.Ytbimggeapaaliaa
open Go.RowKit
set_option linter.unusedVariables false
set_option linter.unusedSimpArgs false

def numV (k t : Int) : Int := if okB k t then codeV k t else -1
theorem w_iff {j k t : Int} (h0 : 0 ≤ j) (h7 : j ≤ 7) : (wK j = k ∧ wT j = t) ↔ (okB k t = true ∧ codeV k t = j) := by
  have e : (okB k t = true ∧ codeV k t = j) ↔ (((k = 1 ∨ k = 2) ∧ t = 0) ∨ (3 ≤ k ∧ k ≤ 5 ∧ (t = 1 ∨ t = 2))) ∧ (if t = 0 then k - 1 else 2 * (k - 2) + (t - 1)) = j := by
    rw [← okB_iff]
    constructor
    · rintro ⟨h, h1⟩; rw [codeV, if_pos h] at h1; exact ⟨h, h1⟩
    · rintro ⟨h, h1⟩; exact ⟨h, by rw [codeV, if_pos h]; exact h1⟩
  rw [e]
  clear e
  unfold wK wT
  constructor
  · rintro ⟨h1, h2⟩
    have h : ((k = 1 ∨ k = 2) ∧ t = 0) ∨ (3 ≤ k ∧ k ≤ 5 ∧ (t = 1 ∨ t = 2)) := by
      split at h1 <;> split at h2 <;> omega
    refine ⟨h, ?_⟩
    split at h1 <;> split at h2 <;> split <;> omega
  · rintro ⟨h, h1⟩
    split at h1 <;> split <;> omega
theorem code_range {k t : Int} (h : okB k t = true) : 0 ≤ codeV k t ∧ codeV k t ≤ 7 := by
  unfold codeV
  rw [if_pos h]
  rw [okB_iff] at h
  split <;> omega

set_option maxHeartbeats 400000 in
theorem number_any (k t : Int) (w : World) (hk : 0 ≤ k) (hk' : k ≤ 255) (ht : 0 ≤ t) (ht' : t ≤ 255) :
    Calls Try.prog 53 #[.agg #[.int .u8 k, .int .u8 t]] w (Ret w (.int .i64 (numV k t))) := by
  go_enter Try.func53, Try.ntmps53
  go_wp2
  go_loopw [3] (fun i wr => ∃ j : Nat, j ≤ 8 ∧ i = .int .i64 j ∧ (∀ m : Nat, m < j → ¬ (wK m = k ∧ wT m = t)) ∧ Below w.heap.size w wr ∧ w.heap.size < wr.heap.size ∧
      (∀ o, wr.cell? ⟨w.heap.size, o, none⟩ = (w.alloc (.cells #[.int .u8 k, .int .u8 t] 50)).cell? ⟨w.heap.size, o, none⟩)) (fun i _ => (8 - intOf i).toNat)
  case atStart => exact ⟨0, by omega, rfl, fun m hm => by omega, (Below.refl _ _).alloc (Nat.le_refl _) _, by simp, fun _ => rfl⟩
  case round =>
    obtain ⟨j, hj, rfl, hno, hB, hz, hcell⟩ := hrel
    have Hno := Lib.hid hno
    clear hno
    by_cases hlt : j < 8
    · have c0 := hcell 0
      have c1 := hcell 1
      simp at c0 c1
      have d0 := Later.cell c0 hz
      have d1 := Later.cell c1 hz
      have HC := Lib.hid hcell
      clear hcell
      go_wp2
      refine wp_region_later (by kernel_rfl) (by kernel_rfl) ?_
      repeat go_big_quiet_step ((go_at_call 67; exact Later.call (with_any _ _ (by omega) (by omega))))
      refine wpQuiet_nil ?_
      rintro _ ⟨x, rfl⟩
      have hBx : Below w.heap.size w x.wd := hB.trans (x.below.mono (by omega))
      have hzx : w.heap.size < x.wd.heap.size := Nat.lt_of_lt_of_le hz x.below.size
      have e0 := d0 x
      have e1 := d1 x
      clear d0 d1 c0 c1
      generalize hq : (wK ↑j == k && wT ↑j == t) = q
      have Hq := Lib.hid hq
      clear hq
      cases q
      · go_wp2
        go_roundw
        case rel =>
          refine ⟨j + 1, by omega, by go_num, fun m hm => ?_, hBx, hzx, fun o => ?_⟩
          · rcases Nat.lt_or_eq_of_le (Nat.le_of_lt_succ hm) with h | rfl
            · exact Hno.out m h
            · simpa using Hq.out
          · exact (x.below.cell (p := ⟨w.heap.size, o, none⟩) hz).trans (HC.out o)
        case measure => simp [intOf]; omega
      · go_wp2
        go_ret
        rw [show numV k t = j from by
          have hq := Hq.out
          simp only [Bool.and_eq_true, beq_iff_eq] at hq
          have := (w_iff (by omega) (by omega)).1 hq
          rw [numV, if_pos this.1, this.2]]
        exact ⟨rfl, hBx⟩
    · have : j = 8 := by omega
      subst this
      go_wp2
      go_ret
      refine ⟨ret_eq (int_eq ?_), hB⟩
      rcases okB_cases k t with h | h
      · have := code_range h
        have h2 := Hno.out (codeV k t).toNat (by omega)
        rw [w_iff (by omega) (by omega)] at h2
        exact absurd ⟨h, by omega⟩ h2
      · rw [numV, h]; rfl

set_option maxHeartbeats 400000 in
theorem refcheck_any (k t : Int) (w : World) (hk : 0 ≤ k) (hk' : k ≤ 255) (ht : 0 ≤ t) (ht' : t ≤ 255) :
    Calls Try.prog 37 #[.agg #[.int .u8 k, .int .u8 t]] w (Ret w (.int .i64 (chk k t))) := by
  go_enter Try.func37, Try.ntmps37
  go_wp2_with fail
  refine (number_any k t _ (by omega) (by omega) (by omega) (by omega)).mono ?_
  rintro e w1 ⟨rfl, hb⟩
  obtain ⟨hc, hf⟩ := bcell hb
  have hB : Below w.heap.size w w1 := ((Below.refl _ _).alloc (Nat.le_refl _) _).trans (hb.mono (by simp))
  rcases okB_cases k t with h | h
  · have hr := code_range h
    rw [numV, if_pos h]
    have Hc := Lib.hid (chk_ok h)
    generalize codeV k t = c at *
    clear h
    go_wp2
    go_ret
    rw [Hc.out]
    exact ⟨rfl, hB⟩
  · rw [numV, if_neg (by simp [h])]
    have Hc := Lib.hid (chk_no h)
    clear h
    go_wp2
    go_ret
    rw [Hc.out]
    exact ⟨rfl, hB⟩

end Go.Proofs.Ytbimggeapaaliaa
