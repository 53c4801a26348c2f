/- The statements ShapeReads and ShapeTexts: their walks. -/
import Derived.Test.YthkfadnkonokdaaRefRead
namespace Go.Proofs.Ythkfadnkonokdaa
open Go.RowKit

set_option maxHeartbeats 1000000 in
theorem reads_walk (c : Int) (s : ByteArray) (w : World) (hlo : -9223372036854775808 ≤ c) (hhi : c ≤ 9223372036854775807) (hs : s.size ≤ maxLen) :
    Calls Try.prog 5 #[.int .i64 c, .string s] w (Ret w (.bool true)) := by
  have hs2 := hs
  unfold maxLen at hs2
  by_cases h : 100 < s.size
  · go_enter Try.func5, Try.ntmps5
    go_wp2
    go_ret
    exact ⟨rfl, Below.refl _ _⟩
  · have h100 : s.size ≤ 100 := by omega
    clear h
    go_enter Try.func5, Try.ntmps5
    go_wp2_with fail
    refine (of_any c _ hlo hhi).mono ?_
    rintro e w1 ⟨rfl, hb1⟩
    have hB1 : Below w.heap.size w w1 := Below.call (by repeat (first | exact Below.refl _ _ | (refine Below.setCell ?_ (by first | omega | (simp; done) | (simp; omega)) _) | (refine Below.alloc ?_ (by first | omega | (simp; done) | (simp; omega)) _) | refine Below.drew ?_)) hb1
    have hS1 : w.heap.size ≤ w1.heap.size := hB1.size
    obtain ⟨hc1, hf1⟩ := bcell hb1
    go_wp2_with fail
    refine (refof_any c _ hlo hhi).mono ?_
    rintro e w2 ⟨rfl, hb2⟩
    have hB2 : Below w.heap.size w w2 := Below.call (by repeat (first | exact hB1 | exact Below.refl _ _ | (refine Below.setCell ?_ (by first | omega | (simp; done) | (simp; omega)) _) | (refine Below.alloc ?_ (by first | omega | (simp; done) | (simp; omega)) _) | refine Below.drew ?_)) hb2
    have hS2 : w.heap.size ≤ w2.heap.size := hB2.size
    obtain ⟨hc2, hf2⟩ := bcell hb2
    have hz2_0 : w1.heap.size < w2.heap.size := by have := hb2.size; first | omega | (simp at this; omega)
    go_wp2_with fail
    refine (read_any s _ hs).mono ?_
    rintro e w3 ⟨rfl, hb3⟩
    have hB3 : Below w.heap.size w w3 := Below.call (by repeat (first | exact hB2 | exact Below.refl _ _ | (refine Below.setCell ?_ (by first | omega | (simp; done) | (simp; omega)) _) | (refine Below.alloc ?_ (by first | omega | (simp; done) | (simp; omega)) _) | refine Below.drew ?_)) hb3
    have hS3 : w.heap.size ≤ w3.heap.size := hB3.size
    obtain ⟨hc3, hf3⟩ := bcell hb3
    have hz3_0 : w1.heap.size < w3.heap.size := by have := hb3.size; first | omega | (simp at this; omega)
    have hz3_1 : w2.heap.size < w3.heap.size := by have := hb3.size; first | omega | (simp at this; omega)
    go_wp2_with fail
    refine (refread_any s _ hs).mono ?_
    rintro e w4 ⟨rfl, hb4⟩
    have hB4 : Below w.heap.size w w4 := Below.call (by repeat (first | exact hB3 | exact Below.refl _ _ | (refine Below.setCell ?_ (by first | omega | (simp; done) | (simp; omega)) _) | (refine Below.alloc ?_ (by first | omega | (simp; done) | (simp; omega)) _) | refine Below.drew ?_)) hb4
    have hS4 : w.heap.size ≤ w4.heap.size := hB4.size
    obtain ⟨hc4, hf4⟩ := bcell hb4
    have hz4_0 : w1.heap.size < w4.heap.size := by have := hb4.size; first | omega | (simp at this; omega)
    have hz4_1 : w2.heap.size < w4.heap.size := by have := hb4.size; first | omega | (simp at this; omega)
    have hz4_2 : w3.heap.size < w4.heap.size := by have := hb4.size; first | omega | (simp at this; omega)
    have k0 : w4.cell? ⟨w1.heap.size, 0, none⟩ = some (.int .u8 (ofK c)) := by go_simp
    have k1 : w4.cell? ⟨w1.heap.size, 1, none⟩ = some (.int .u8 (ofT c)) := by go_simp
    have k2 : w4.cell? ⟨w2.heap.size, 0, none⟩ = some (.int .u8 (ofK c)) := by go_simp
    have k3 : w4.cell? ⟨w2.heap.size, 1, none⟩ = some (.int .u8 (ofT c)) := by go_simp
    have k4 : w4.cell? ⟨w3.heap.size, 0, none⟩ = some (.int .u8 (readK s)) := by go_simp
    have k5 : w4.cell? ⟨w3.heap.size, 1, none⟩ = some (.int .u8 (readT s)) := by go_simp
    clear hc1 hc2 hc3 hc4 hf1 hf2 hf3 hf4
    go_wp2
    go_ret
    exact ⟨rfl, (by repeat (first | exact hB4 | exact Below.refl _ _ | (refine Below.setCell ?_ (by first | omega | (simp; done) | (simp; omega)) _) | (refine Below.alloc ?_ (by first | omega | (simp; done) | (simp; omega)) _) | refine Below.drew ?_))⟩

theorem read_text (s : ByteArray) (h : ¬ readC s < 0) : textV (readK s) (readT s) = s ∧ chk (readK s) (readT s) = 0 ∧ readE s = 0 ∧ (0 ≤ readK s ∧ readK s ≤ 255 ∧ 0 ≤ readT s ∧ readT s ≤ 255) := by
  rcases readC_cases s with ⟨j, h0, h7, hj, hc⟩ | hc
  · have e1 : readK s = wK j := by rw [readK, hc, if_neg (by omega)]
    have e2 : readT s = wT j := by rw [readT, hc, if_neg (by omega)]
    have e3 : readE s = 0 := by rw [readE, hc, if_neg (by omega)]
    have hw := (w_iff (j := j) (k := wK j) (t := wT j) h0 h7).1 ⟨rfl, rfl⟩
    have hr := w_range h0 h7
    rw [e1, e2, e3, chk_ok hw.1, textV, if_pos hw.1, hw.2]
    exact ⟨hj.symm, rfl, rfl, by omega, by omega, by omega, by omega⟩
  · omega
theorem read_none (s : ByteArray) (h : readC s < 0) : readK s = 0 ∧ readT s = 0 ∧ readE s = 12 := by
  simp only [readK, readT, readE, if_pos h]
  exact ⟨trivial, trivial, trivial⟩

set_option maxHeartbeats 1000000 in
theorem texts_walk (s : ByteArray) (w : World) (hs : s.size ≤ maxLen) :
    Calls Try.prog 6 #[.string s] w (Ret w (.bool true)) := by
  have hs2 := hs
  unfold maxLen at hs2
  by_cases h : 100 < s.size
  · go_enter Try.func6, Try.ntmps6
    go_wp2_with fail
    refine (alive_any _).mono ?_
    rintro e w1 ⟨rfl, hb1⟩
    have hB1 : Below w.heap.size w w1 := Below.call (by repeat (first | exact Below.refl _ _ | (refine Below.setCell ?_ (by first | omega | (simp; done) | (simp; omega)) _) | (refine Below.alloc ?_ (by first | omega | (simp; done) | (simp; omega)) _) | refine Below.drew ?_)) hb1
    have hS1 : w.heap.size ≤ w1.heap.size := hB1.size
    obtain ⟨hc1, hf1⟩ := bcell hb1
    go_wp2
    go_ret
    exact ⟨rfl, hB1⟩
  · have h100 : s.size ≤ 100 := by omega
    clear h
    by_cases hn : readC s < 0
    · obtain ⟨e1, e2, e3⟩ := read_none s hn
      have E1 := Lib.hid e1
      have E2 := Lib.hid e2
      have E3 := Lib.hid e3
      clear hn e1 e2 e3
      go_enter Try.func6, Try.ntmps6
      go_wp2_with fail
      refine (read_any s _ hs).mono ?_
      rintro e w1 ⟨rfl, hb1⟩
      have hB1 : Below w.heap.size w w1 := Below.call (by repeat (first | exact Below.refl _ _ | (refine Below.setCell ?_ (by first | omega | (simp; done) | (simp; omega)) _) | (refine Below.alloc ?_ (by first | omega | (simp; done) | (simp; omega)) _) | refine Below.drew ?_)) hb1
      have hS1 : w.heap.size ≤ w1.heap.size := hB1.size
      obtain ⟨hc1, hf1⟩ := bcell hb1
      rw [E1.out, E2.out, E3.out]
      go_wp2_with fail
      refine (alive_any _).mono ?_
      rintro e w2 ⟨rfl, hb2⟩
      have hB2 : Below w.heap.size w w2 := Below.call (by repeat (first | exact hB1 | exact Below.refl _ _ | (refine Below.setCell ?_ (by first | omega | (simp; done) | (simp; omega)) _) | (refine Below.alloc ?_ (by first | omega | (simp; done) | (simp; omega)) _) | refine Below.drew ?_)) hb2
      have hS2 : w.heap.size ≤ w2.heap.size := hB2.size
      obtain ⟨hc2, hf2⟩ := bcell hb2
      go_wp2
      go_ret
      exact ⟨rfl, (by repeat (first | exact hB2 | exact Below.refl _ _ | (refine Below.setCell ?_ (by first | omega | (simp; done) | (simp; omega)) _) | (refine Below.alloc ?_ (by first | omega | (simp; done) | (simp; omega)) _) | refine Below.drew ?_))⟩
    · obtain ⟨e1, e2, e3, b1, b2, b3, b4⟩ := read_text s hn
      have C := fun W => read_any s W hs
      rw [e3] at C
      have E1 := Lib.hid e1
      have E2 := Lib.hid e2
      clear hn e1 e2 e3
      generalize readK s = k at *
      generalize readT s = t at *
      go_enter Try.func6, Try.ntmps6
      go_wp2_with fail
      refine (C w).mono ?_
      rintro e w1 ⟨rfl, hb1⟩
      have hB1 : Below w.heap.size w w1 := hb1
      have hS1 : w.heap.size ≤ w1.heap.size := hB1.size
      go_wp2_with fail
      refine (text_any k t _ b1 b2 b3 b4).mono ?_
      rintro e w2 ⟨rfl, hb2⟩
      have hB2 : Below w.heap.size w w2 := Below.call (by repeat (first | exact hB1 | exact Below.refl _ _ | (refine Below.setCell ?_ (by first | omega | (simp; done) | (simp; omega)) _) | (refine Below.alloc ?_ (by first | omega | (simp; done) | (simp; omega)) _) | refine Below.drew ?_)) hb2
      have hS2 : w.heap.size ≤ w2.heap.size := hB2.size
      obtain ⟨hc2, hf2⟩ := bcell hb2
      rw [E1.out, E2.out]
      go_wp2_with fail
      refine (check_any k t _ b1 b2 b3 b4).mono ?_
      rintro e w3 ⟨rfl, hb3⟩
      have hB3 : Below w.heap.size w w3 := Below.call (by repeat (first | exact hB2 | exact Below.refl _ _ | (refine Below.setCell ?_ (by first | omega | (simp; done) | (simp; omega)) _) | (refine Below.alloc ?_ (by first | omega | (simp; done) | (simp; omega)) _) | refine Below.drew ?_)) hb3
      have hS3 : w.heap.size ≤ w3.heap.size := hB3.size
      obtain ⟨hc3, hf3⟩ := bcell hb3
      rw [E2.out]
      go_wp2_with fail
      refine (alive_any _).mono ?_
      rintro e w4 ⟨rfl, hb4⟩
      have hB4 : Below w.heap.size w w4 := Below.call (by repeat (first | exact hB3 | exact Below.refl _ _ | (refine Below.setCell ?_ (by first | omega | (simp; done) | (simp; omega)) _) | (refine Below.alloc ?_ (by first | omega | (simp; done) | (simp; omega)) _) | refine Below.drew ?_)) hb4
      have hS4 : w.heap.size ≤ w4.heap.size := hB4.size
      obtain ⟨hc4, hf4⟩ := bcell hb4
      go_wp2
      go_ret
      exact ⟨rfl, (by repeat (first | exact hB4 | exact Below.refl _ _ | (refine Below.setCell ?_ (by first | omega | (simp; done) | (simp; omega)) _) | (refine Below.alloc ?_ (by first | omega | (simp; done) | (simp; omega)) _) | refine Below.drew ?_))⟩

end Go.Proofs.Ythkfadnkonokdaa
