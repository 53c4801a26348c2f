/- The types of the program and of its reference: what each call comes to. No condition. -/
import Derived.Test.YtbimggeapaaliaaBase
namespace Go.Proofs.Ytbimggeapaaliaa
open Go.RowKit
set_option linter.unusedVariables false
set_option linter.unusedSimpArgs false

def okB (k t : Int) : Bool := ((k == 1 || k == 2) && t == 0) || (3 ≤ k && k ≤ 5 && (t == 1 || t == 2))
def chk (k t : Int) : Int := if okB k t then 0 else 8
theorem chk_ok {k t : Int} (h : okB k t = true) : chk k t = 0 := by simp [chk, h]
theorem chk_no {k t : Int} (h : okB k t = false) : chk k t = 8 := by simp [chk, h]
theorem okB_iff (k t : Int) : okB k t = true ↔ ((k = 1 ∨ k = 2) ∧ t = 0) ∨ (3 ≤ k ∧ k ≤ 5 ∧ (t = 1 ∨ t = 2)) := by simp [okB, and_assoc]
theorem okB_not (k t : Int) : okB k t = false ↔ ¬ (((k = 1 ∨ k = 2) ∧ t = 0) ∨ (3 ≤ k ∧ k ≤ 5 ∧ (t = 1 ∨ t = 2))) := by rw [← okB_iff]; simp
theorem bdd {k t : Int} (h : okB k t = true) : 1 ≤ k ∧ k ≤ 5 ∧ 0 ≤ t ∧ t ≤ 2 := by rw [okB_iff] at h; omega

set_option maxHeartbeats 400000 in
theorem check_any (k t : Int) (w : World) (hk : 0 ≤ k) (hk' : k ≤ 255) (ht : 0 ≤ t) (ht' : t ≤ 255) :
    Calls Try.prog 60 #[.agg #[.int .u8 k, .int .u8 t]] w (Ret w (.int .i64 (chk k t))) := by
  go_enter Try.func60, Try.ntmps60
  go_wp2
  all_goals go_ret
  all_goals refine ⟨ret_eq (int_eq ?_), (Below.refl _ _).alloc (Nat.le_refl _) _⟩
  all_goals try simp only [beq_iff_eq, beq_eq_false_iff_ne] at *
  all_goals first | (rw [chk_ok (by rw [okB_iff]; omega)]) | (rw [chk_no (by rw [okB_not]; omega)])

def sizeOf_ (k : Int) : Int := if k = 2 then 2 else 1
def sizeV (k t : Int) : Int := if okB k t then sizeOf_ k else 0
theorem okB_cases (k t : Int) : okB k t = true ∨ okB k t = false := by cases okB k t <;> simp

theorem beqT {a b : Int} (h : a = b) : (a == b) = true := by simpa using h
theorem beqF {a b : Int} (h : ¬ a = b) : (a == b) = false := by simpa using h


def tgtK (k t : Int) : Int := if okB k t then t else 0
def tgtE (k t : Int) : Int := if okB k t then (if t = 0 then 6 else 0) else 8

set_option maxHeartbeats 400000 in
theorem target_any (k t : Int) (w : World) (hk : 0 ≤ k) (hk' : k ≤ 255) (ht : 0 ≤ t) (ht' : t ≤ 255) :
    Calls Try.prog 61 #[.agg #[.int .u8 k, .int .u8 t]] w (Ret w (.tuple #[.agg #[.int .u8 (tgtK k t), .int .u8 0], .int .i64 (tgtE k t)])) := by
  go_enter Try.func61, Try.ntmps61
  go_wp2_with fail
  refine (check_any k t _ (by omega) (by omega) (by omega) (by omega)).mono ?_
  rintro e w1 ⟨rfl, hb⟩
  obtain ⟨hc, hf⟩ := bcell hb
  have hz : w.heap.size + 1 < w1.heap.size := by have := hb.size; simp at this; omega
  have hB : Below w.heap.size w w1 := (((Below.refl _ _).alloc (Nat.le_refl _) _).alloc (by simp) _).trans (hb.mono (by simp; omega))
  rcases okB_cases k t with h | h <;> simp only [chk, h]
  all_goals
    go_wp2
    all_goals
      refine bodyPost_ret (by simp [results, Try.results61, go_sem, hc, hz]; try rfl) rfl ⟨ret_eq ?_, ?_⟩
      · simp_all [tgtK, tgtE]
      · repeat (first | exact hB | exact Below.refl _ _ | (refine Below.setCell ?_ (by simp) _) | (refine Below.alloc ?_ (by simp) _) | refine Below.drew ?_)

def codeV (k t : Int) : Int := if okB k t then (if t = 0 then k - 1 else 2 * (k - 2) + (t - 1)) else 0


/-! The reference. -/
def wK (j : Int) : Int := if j < 2 then j + 1 else j / 2 + 2
def wT (j : Int) : Int := if j < 2 then 0 else j % 2 + 1

set_option maxHeartbeats 400000 in
theorem with_any (j : Int) (w : World) (h0 : 0 ≤ j) (h7 : j ≤ 7) :
    Calls Try.prog 67 #[.int .i64 j] w (Ret w (.agg #[.int .u8 (wK j), .int .u8 (wT j)])) := by
  by_cases h2 : j < 2
  · have hk := Lib.hid (show wK j = j + 1 from by rw [wK, if_pos h2])
    have ht := Lib.hid (show wT j = 0 from by rw [wT, if_pos h2])
    go_enter Try.func67, Try.ntmps67
    go_wp2
    rw [hk.out, ht.out]
    refine bodyPost_ret (by simp [results, Try.results67, go_sem]; try rfl) rfl ⟨rfl, ?_⟩
    repeat (first | exact Below.refl _ _ | (refine Below.setCell ?_ (by simp) _) | (refine Below.alloc ?_ (by simp) _) | refine Below.drew ?_)
  · have hk := Lib.hid (show wK j = j / 2 + 2 from by rw [wK, if_neg h2])
    have ht := Lib.hid (show wT j = j % 2 + 1 from by rw [wT, if_neg h2])
    go_enter Try.func67, Try.ntmps67
    go_wp2
    rw [hk.out, ht.out]
    refine bodyPost_ret (by simp [results, Try.results67, go_sem]; try rfl) rfl ⟨rfl, ?_⟩
    repeat (first | exact Below.refl _ _ | (refine Below.setCell ?_ (by simp) _) | (refine Below.alloc ?_ (by simp) _) | refine Below.drew ?_)

end Go.Proofs.Ytbimggeapaaliaa
