/- The types of the reference: what each call comes to. No condition. -/
import Derived.Test.YthkfadnkonokdaaShapeB
namespace Go.Proofs.Ythkfadnkonokdaa
open Go.RowKit

set_option maxHeartbeats 400000 in
theorem refcells_any (k t : Int) (w : World) : Calls Try.prog 24 #[.agg #[.int .u8 k, .int .u8 t]] w (Ret w (.int .i64 (sizeOf_ k))) := by
  by_cases h2 : k = 2
  · have Hv := Lib.hid (show sizeOf_ k = 2 from by rw [sizeOf_, if_pos h2])
    have hq := beqT h2
    clear h2
    go_enter Try.func24, Try.ntmps24
    go_wp2
    go_ret
    rw [Hv.out]
    exact ⟨rfl, (Below.refl _ _).alloc (Nat.le_refl _) _⟩
  · have Hv := Lib.hid (show sizeOf_ k = 1 from by rw [sizeOf_, if_neg h2])
    have hq := beqF h2
    clear h2
    go_enter Try.func24, Try.ntmps24
    go_wp2
    go_ret
    rw [Hv.out]
    exact ⟨rfl, (Below.refl _ _).alloc (Nat.le_refl _) _⟩

set_option maxHeartbeats 400000 in
theorem refpointer_any (k t : Int) (w : World) : Calls Try.prog 25 #[.agg #[.int .u8 k, .int .u8 t]] w (Ret w (.bool (decide (3 ≤ k)))) := by
  go_enter Try.func25, Try.ntmps25
  go_wp2
  go_ret
  refine ⟨ret_eq ?_, (Below.refl _ _).alloc (Nat.le_refl _) _⟩
  simp <;> omega

set_option maxHeartbeats 400000 in
theorem refsize_any (k t : Int) (w : World) (hk : 0 ≤ k) (hk' : k ≤ 255) (ht : 0 ≤ t) (ht' : t ≤ 255) :
    Calls Try.prog 10 #[.agg #[.int .u8 k, .int .u8 t]] w (Ret w (.tuple #[.int .i64 (sizeV k t), .int .i64 (chk k t)])) := by
  go_enter Try.func10, Try.ntmps10
  go_wp2_with fail
  refine (refcheck_any k t _ (by omega) (by omega) (by omega) (by omega)).mono ?_
  rintro e w1 ⟨rfl, hb⟩
  obtain ⟨hc, hf⟩ := bcell hb
  have hB : Below w.heap.size w w1 := ((Below.refl _ _).alloc (Nat.le_refl _) _).trans (hb.mono (by simp))
  rcases okB_cases k t with h | h
  · rw [chk_ok h]
    have Hc := Lib.hid (chk_ok h)
    have Hv := Lib.hid (show sizeV k t = sizeOf_ k from by rw [sizeV, if_pos h])
    clear h
    go_wp2_with fail
    refine (refcells_any k t _).mono ?_
    rintro e w2 ⟨rfl, hb2⟩
    go_wp2
    go_ret2
    rw [Hc.out, Hv.out]
    exact ⟨rfl, hB.trans (hb2.mono hB.size)⟩
  · rw [chk_no h]
    have Hc := Lib.hid (chk_no h)
    have Hv := Lib.hid (show sizeV k t = 0 from by rw [sizeV, h]; rfl)
    clear h
    go_wp2
    go_ret2
    rw [Hc.out, Hv.out]
    exact ⟨rfl, hB⟩

set_option maxHeartbeats 400000 in
theorem reftarget_any (k t : Int) (w : World) (hk : 0 ≤ k) (hk' : k ≤ 255) (ht : 0 ≤ t) (ht' : t ≤ 255) :
    Calls Try.prog 12 #[.agg #[.int .u8 k, .int .u8 t]] w (Ret w (.tuple #[.agg #[.int .u8 (tgtK k t), .int .u8 0], .int .i64 (tgtE k t)])) := by
  go_enter Try.func12, Try.ntmps12
  go_wp2_with fail
  refine (refcheck_any k t _ (by omega) (by omega) (by omega) (by omega)).mono ?_
  rintro e w1 ⟨rfl, hb⟩
  obtain ⟨hc, hf⟩ := bcell hb
  have hz : w.heap.size + 1 < w1.heap.size := by have := hb.size; simp at this; omega
  have hB : Below w.heap.size w w1 := (((Below.refl _ _).alloc (Nat.le_refl _) _).alloc (by simp) _).trans (hb.mono (by simp; omega))
  rcases okB_cases k t with h | h
  · rw [chk_ok h]
    go_wp2_with fail
    refine (refpointer_any k t _).mono ?_
    rintro e w2 ⟨rfl, hb2⟩
    obtain ⟨hc2, hf2⟩ := bcell hb2
    have hz2 : w.heap.size + 1 < w2.heap.size := by have := hb2.size; omega
    have hz1 : w.heap.size < w1.heap.size := by omega
    have hB2 : Below w.heap.size w w2 := hB.trans (hb2.mono hB.size)
    by_cases h3 : 3 ≤ k
    · have Hv := Lib.hid (show tgtK k t = t from by rw [tgtK, if_pos h])
      have He := Lib.hid (show tgtE k t = 0 from by rw [tgtE, if_pos h, if_neg (by rw [okB_iff] at h; omega)])
      have hq : decide (3 ≤ k) = true := by simpa using h3
      clear h h3
      go_wp2
      rw [Hv.out, He.out]
      refine bodyPost_ret (by simp [results, Try.results12, go_sem, hc, hz, hc2, hz2]; try rfl) rfl ⟨rfl, ?_⟩
      repeat (first | exact hB2 | exact Below.refl _ _ | (refine Below.setCell ?_ (by simp) _) | (refine Below.alloc ?_ (by simp) _) | refine Below.drew ?_)
    · have Hv := Lib.hid (show tgtK k t = 0 from by rw [tgtK, if_pos h]; rw [okB_iff] at h; omega)
      have He := Lib.hid (show tgtE k t = 6 from by rw [tgtE, if_pos h, if_pos (by rw [okB_iff] at h; omega)])
      have hq : decide (3 ≤ k) = false := by simpa using h3
      clear h h3
      go_wp2
      rw [Hv.out, He.out]
      refine bodyPost_ret (by simp [results, Try.results12, go_sem, hc, hz, hc2, hz2]; try rfl) rfl ⟨rfl, ?_⟩
      repeat (first | exact hB2 | exact Below.refl _ _ | (refine Below.setCell ?_ (by simp) _) | (refine Below.alloc ?_ (by simp) _) | refine Below.drew ?_)
  · rw [chk_no h]
    have Hv := Lib.hid (show tgtK k t = 0 from by rw [tgtK, h]; rfl)
    have He := Lib.hid (show tgtE k t = 8 from by rw [tgtE, h]; rfl)
    clear h
    go_wp2
    rw [Hv.out, He.out]
    refine bodyPost_ret (by simp [results, Try.results12, go_sem, hc, hz]; try rfl) rfl ⟨rfl, ?_⟩
    repeat (first | exact hB | exact Below.refl _ _ | (refine Below.setCell ?_ (by simp) _) | (refine Below.alloc ?_ (by simp) _) | refine Below.drew ?_)

set_option maxHeartbeats 400000 in
theorem refcode_any (k t : Int) (w : World) (hk : 0 ≤ k) (hk' : k ≤ 255) (ht : 0 ≤ t) (ht' : t ≤ 255) :
    Calls Try.prog 14 #[.agg #[.int .u8 k, .int .u8 t]] w (Ret w (.tuple #[.int .i64 (codeV k t), .int .i64 (chk k t)])) := by
  go_enter Try.func14, Try.ntmps14
  go_wp2_with fail
  refine (number_any k t _ (by omega) (by omega) (by omega) (by omega)).mono ?_
  rintro e w1 ⟨rfl, hb⟩
  obtain ⟨hc, hf⟩ := bcell hb
  have hB : Below w.heap.size w w1 := ((Below.refl _ _).alloc (Nat.le_refl _) _).trans (hb.mono (by simp))
  rcases okB_cases k t with h | h
  · have hr := code_range h
    rw [numV, if_pos h]
    have Hc := Lib.hid (chk_ok h)
    clear h
    generalize codeV k t = c at *
    go_wp2
    go_ret2
    rw [Hc.out]
    exact ⟨rfl, hB⟩
  · rw [numV, if_neg (by simp [h])]
    have Hc := Lib.hid (chk_no h)
    have Hv := Lib.hid (show codeV k t = 0 from by rw [codeV, h]; rfl)
    clear h
    go_wp2
    go_ret2
    rw [Hc.out, Hv.out]
    exact ⟨rfl, hB⟩

end Go.Proofs.Ythkfadnkonokdaa
