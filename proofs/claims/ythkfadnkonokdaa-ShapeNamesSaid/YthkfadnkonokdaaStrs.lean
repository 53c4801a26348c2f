/- strings.HasPrefix, strings.TrimPrefix: what each call comes to. No condition but that a string fits into memory. -/
import Derived.Test.YthkfadnkonokdaaBase
namespace Go.Proofs.Ythkfadnkonokdaa
open Go.RowKit

/-- Does s begin with m? -/
def hp (s m : ByteArray) : Bool := decide (m.size ≤ s.size) && ((s.extract 0 m.size).toList == m.toList)

set_option maxHeartbeats 400000 in
theorem slHasPrefix_any (s m : ByteArray) (w : World) (hs : s.size ≤ maxLen) (hm : m.size ≤ maxLen) :
    Calls Try.prog 33 #[.string s, .string m] w (Ret w (.bool (hp s m))) := by
  unfold maxLen at hs hm
  by_cases h : m.size ≤ s.size
  · have hd : decide ((m.size : Int) ≤ (s.size : Int)) = true := by simpa using h
    have H := Lib.hid (show hp s m = ((s.extract 0 m.size).toList == m.toList) from by rw [hp, decide_eq_true h, Bool.true_and])
    go_enter Try.func33, Try.ntmps33
    go_wp2
    go_ret
    rw [H.out]
    exact ⟨rfl, Below.refl _ _⟩
  · have hd : decide ((m.size : Int) ≤ (s.size : Int)) = false := by simp; omega
    have H := Lib.hid (show hp s m = false from by rw [hp, decide_eq_false h, Bool.false_and])
    go_enter Try.func33, Try.ntmps33
    go_wp2
    go_ret
    rw [H.out]
    exact ⟨rfl, Below.refl _ _⟩

set_option maxHeartbeats 400000 in
theorem hasPrefix_any (s m : ByteArray) (w : World) (hs : s.size ≤ maxLen) (hm : m.size ≤ maxLen) :
    Calls Try.prog 31 #[.string s, .string m] w (Ret w (.bool (hp s m))) := by
  go_enter Try.func31, Try.ntmps31
  go_wp2_with fail
  refine (slHasPrefix_any s m _ hs hm).mono ?_
  rintro e w1 ⟨rfl, hb1⟩
  have hB1 : Below w.heap.size w w1 := Below.call (by repeat (first | exact Below.refl _ _ | (refine Below.setCell ?_ (by first | omega | (simp; done) | (simp; omega)) _) | (refine Below.alloc ?_ (by first | omega | (simp; done) | (simp; omega)) _) | refine Below.drew ?_)) hb1
  have hS1 : w.heap.size ≤ w1.heap.size := hB1.size
  obtain ⟨hc1, hf1⟩ := bcell hb1
  go_wp2
  go_ret
  exact ⟨rfl, hB1⟩

/-- s without m ahead of it. -/
def trimP (s m : ByteArray) : ByteArray := if hp s m then s.extract m.size s.size else s

set_option maxHeartbeats 400000 in
theorem slTrimPrefix_any (s m : ByteArray) (w : World) (hs : s.size ≤ maxLen) (hm : m.size ≤ maxLen) :
    Calls Try.prog 34 #[.string s, .string m] w (Ret w (.string (trimP s m))) := by
  have h1 := hs
  have h2 := hm
  unfold maxLen at h1 h2
  go_enter Try.func34, Try.ntmps34
  go_wp2_with fail
  refine (slHasPrefix_any s m _ hs hm).mono ?_
  rintro e w1 ⟨rfl, hb1⟩
  have hB1 : Below w.heap.size w w1 := Below.call (by repeat (first | exact Below.refl _ _ | (refine Below.setCell ?_ (by first | omega | (simp; done) | (simp; omega)) _) | (refine Below.alloc ?_ (by first | omega | (simp; done) | (simp; omega)) _) | refine Below.drew ?_)) hb1
  have hS1 : w.heap.size ≤ w1.heap.size := hB1.size
  obtain ⟨hc1, hf1⟩ := bcell hb1
  cases hq : hp s m
  · have H := Lib.hid (show trimP s m = s from by rw [trimP, if_neg (by simp [hq])])
    clear hq
    go_wp2
    go_ret
    rw [H.out]
    exact ⟨rfl, hB1⟩
  · have H := Lib.hid (show trimP s m = s.extract m.size s.size from by rw [trimP, if_pos hq])
    have hle : m.size ≤ s.size := by simp [hp] at hq; exact hq.1
    clear hq
    go_wp2
    go_ret
    rw [H.out]
    exact ⟨rfl, hB1⟩

set_option maxHeartbeats 400000 in
theorem trimPrefix_any (s m : ByteArray) (w : World) (hs : s.size ≤ maxLen) (hm : m.size ≤ maxLen) :
    Calls Try.prog 32 #[.string s, .string m] w (Ret w (.string (trimP s m))) := by
  go_enter Try.func32, Try.ntmps32
  go_wp2_with fail
  refine (slTrimPrefix_any s m _ hs hm).mono ?_
  rintro e w1 ⟨rfl, hb1⟩
  have hB1 : Below w.heap.size w w1 := Below.call (by repeat (first | exact Below.refl _ _ | (refine Below.setCell ?_ (by first | omega | (simp; done) | (simp; omega)) _) | (refine Below.alloc ?_ (by first | omega | (simp; done) | (simp; omega)) _) | refine Below.drew ?_)) hb1
  have hS1 : w.heap.size ≤ w1.heap.size := hB1.size
  obtain ⟨hc1, hf1⟩ := bcell hb1
  go_wp2
  go_ret
  exact ⟨rfl, hB1⟩

theorem bytes_ext {a b : ByteArray} (h : a.data.toList = b.data.toList) : a = b := by
  cases a; cases b; simp at h; simp [h]
theorem hp_iff (s m : ByteArray) : hp s m = true ↔ ∃ r, s.data.toList = m.data.toList ++ r := by
  simp only [hp, Bool.and_eq_true, decide_eq_true_eq, beq_iff_eq, ByteArray.toList_eq, ByteArray.data_extract, Array.toList_extract, List.extract_eq_take_drop, List.drop_zero, Nat.sub_zero]
  constructor
  · rintro ⟨_, h2⟩
    refine ⟨s.data.toList.drop m.size, ?_⟩
    rw [← h2, List.take_append_drop]
  · rintro ⟨r, h⟩
    have e : m.size = m.data.toList.length := rfl
    have e2 : s.size = s.data.toList.length := rfl
    refine ⟨by rw [e, e2, h]; simp, ?_⟩
    rw [h, e, List.take_left]
theorem trimP_eq (s m : ByteArray) (r : List UInt8) (h : s.data.toList = m.data.toList ++ r) : (trimP s m).data.toList = r := by
  have hq := (hp_iff s m).2 ⟨r, h⟩
  have e : m.size = m.data.toList.length := rfl
  have e2 : s.size = s.data.toList.length := rfl
  rw [trimP, if_pos hq, ByteArray.data_extract, Array.toList_extract, List.extract_eq_take_drop, e2, h, e, List.drop_left]
  simp

end Go.Proofs.Ythkfadnkonokdaa
