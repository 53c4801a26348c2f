/- The statement ShapeTypes: its walk. No condition. -/
import Derived.Test.YthkfadnkonokdaaShapeD
namespace Go.Proofs.Ythkfadnkonokdaa
open Go.RowKit

set_option maxHeartbeats 1000000 in
theorem types_walk (k t : Int) (w : World) (hk : 0 ≤ k) (hk' : k ≤ 255) (ht : 0 ≤ t) (ht' : t ≤ 255) :
    Calls Try.prog 3 #[.agg #[.int .u8 k, .int .u8 t]] w (Ret w (.bool true)) := by
  go_enter Try.func3, Try.ntmps3
  go_wp2_with fail
  refine (size_any k t _ (by omega) (by omega) (by omega) (by omega)).mono ?_
  rintro e w1 ⟨rfl, hb1⟩
  have hB1 : Below w.heap.size w w1 := Below.call (by repeat (first | exact Below.refl _ _ | (refine Below.setCell ?_ (by first | omega | (simp; done) | (simp; omega)) _) | (refine Below.alloc ?_ (by first | omega | (simp; done) | (simp; omega)) _) | refine Below.drew ?_)) hb1
  obtain ⟨hc1, hf1⟩ := bcell hb1
  have hz1_0 : w.heap.size < w1.heap.size := by have := hb1.size; first | omega | (simp at this; omega)
  go_wp2_with fail
  refine (refsize_any k t _ (by omega) (by omega) (by omega) (by omega)).mono ?_
  rintro e w2 ⟨rfl, hb2⟩
  have hB2 : Below w.heap.size w w2 := Below.call (by repeat (first | exact hB1 | exact Below.refl _ _ | (refine Below.setCell ?_ (by first | omega | (simp; done) | (simp; omega)) _) | (refine Below.alloc ?_ (by first | omega | (simp; done) | (simp; omega)) _) | refine Below.drew ?_)) hb2
  obtain ⟨hc2, hf2⟩ := bcell hb2
  have hz2_0 : w.heap.size < w2.heap.size := by have := hb2.size; first | omega | (simp at this; omega)
  go_wp2_with fail
  refine (target_any k t _ (by omega) (by omega) (by omega) (by omega)).mono ?_
  rintro e w3 ⟨rfl, hb3⟩
  have hB3 : Below w.heap.size w w3 := Below.call (by repeat (first | exact hB2 | exact Below.refl _ _ | (refine Below.setCell ?_ (by first | omega | (simp; done) | (simp; omega)) _) | (refine Below.alloc ?_ (by first | omega | (simp; done) | (simp; omega)) _) | refine Below.drew ?_)) hb3
  obtain ⟨hc3, hf3⟩ := bcell hb3
  have hz3_0 : w.heap.size < w3.heap.size := by have := hb3.size; first | omega | (simp at this; omega)
  go_wp2_with fail
  refine (reftarget_any k t _ (by omega) (by omega) (by omega) (by omega)).mono ?_
  rintro e w4 ⟨rfl, hb4⟩
  have hB4 : Below w.heap.size w w4 := Below.call (by repeat (first | exact hB3 | exact Below.refl _ _ | (refine Below.setCell ?_ (by first | omega | (simp; done) | (simp; omega)) _) | (refine Below.alloc ?_ (by first | omega | (simp; done) | (simp; omega)) _) | refine Below.drew ?_)) hb4
  obtain ⟨hc4, hf4⟩ := bcell hb4
  have hz4_0 : w.heap.size < w4.heap.size := by have := hb4.size; first | omega | (simp at this; omega)
  have hz4_1 : w3.heap.size < w4.heap.size := by have := hb4.size; first | omega | (simp at this; omega)
  go_wp2_with fail
  refine (code_any k t _ (by omega) (by omega) (by omega) (by omega)).mono ?_
  rintro e w5 ⟨rfl, hb5⟩
  have hB5 : Below w.heap.size w w5 := Below.call (by repeat (first | exact hB4 | exact Below.refl _ _ | (refine Below.setCell ?_ (by first | omega | (simp; done) | (simp; omega)) _) | (refine Below.alloc ?_ (by first | omega | (simp; done) | (simp; omega)) _) | refine Below.drew ?_)) hb5
  obtain ⟨hc5, hf5⟩ := bcell hb5
  have hz5_0 : w.heap.size < w5.heap.size := by have := hb5.size; first | omega | (simp at this; omega)
  have hz5_1 : w3.heap.size < w5.heap.size := by have := hb5.size; first | omega | (simp at this; omega)
  have hz5_2 : w4.heap.size < w5.heap.size := by have := hb5.size; first | omega | (simp at this; omega)
  go_wp2_with fail
  refine (refcode_any k t _ (by omega) (by omega) (by omega) (by omega)).mono ?_
  rintro e w6 ⟨rfl, hb6⟩
  have hB6 : Below w.heap.size w w6 := Below.call (by repeat (first | exact hB5 | exact Below.refl _ _ | (refine Below.setCell ?_ (by first | omega | (simp; done) | (simp; omega)) _) | (refine Below.alloc ?_ (by first | omega | (simp; done) | (simp; omega)) _) | refine Below.drew ?_)) hb6
  obtain ⟨hc6, hf6⟩ := bcell hb6
  have hz6_0 : w.heap.size < w6.heap.size := by have := hb6.size; first | omega | (simp at this; omega)
  have hz6_1 : w3.heap.size < w6.heap.size := by have := hb6.size; first | omega | (simp at this; omega)
  have hz6_2 : w4.heap.size < w6.heap.size := by have := hb6.size; first | omega | (simp at this; omega)
  go_wp2_with fail
  refine (text_any k t _ (by omega) (by omega) (by omega) (by omega)).mono ?_
  rintro e w7 ⟨rfl, hb7⟩
  have hB7 : Below w.heap.size w w7 := Below.call (by repeat (first | exact hB6 | exact Below.refl _ _ | (refine Below.setCell ?_ (by first | omega | (simp; done) | (simp; omega)) _) | (refine Below.alloc ?_ (by first | omega | (simp; done) | (simp; omega)) _) | refine Below.drew ?_)) hb7
  obtain ⟨hc7, hf7⟩ := bcell hb7
  have hz7_0 : w.heap.size < w7.heap.size := by have := hb7.size; first | omega | (simp at this; omega)
  have hz7_1 : w3.heap.size < w7.heap.size := by have := hb7.size; first | omega | (simp at this; omega)
  have hz7_2 : w4.heap.size < w7.heap.size := by have := hb7.size; first | omega | (simp at this; omega)
  go_wp2_with fail
  refine (reftext_any k t _ (by omega) (by omega) (by omega) (by omega)).mono ?_
  rintro e w8 ⟨rfl, hb8⟩
  have hB8 : Below w.heap.size w w8 := Below.call (by repeat (first | exact hB7 | exact Below.refl _ _ | (refine Below.setCell ?_ (by first | omega | (simp; done) | (simp; omega)) _) | (refine Below.alloc ?_ (by first | omega | (simp; done) | (simp; omega)) _) | refine Below.drew ?_)) hb8
  obtain ⟨hc8, hf8⟩ := bcell hb8
  have hz8_0 : w.heap.size < w8.heap.size := by have := hb8.size; first | omega | (simp at this; omega)
  have hz8_1 : w3.heap.size < w8.heap.size := by have := hb8.size; first | omega | (simp at this; omega)
  have hz8_2 : w4.heap.size < w8.heap.size := by have := hb8.size; first | omega | (simp at this; omega)
  have c0 : w8.cell? ⟨w.heap.size, 0, none⟩ = some (.int .u8 k) := by go_simp
  have c1 : w8.cell? ⟨w.heap.size, 1, none⟩ = some (.int .u8 t) := by go_simp
  have c2 : w8.cell? ⟨w3.heap.size, 0, none⟩ = some (.int .u8 (tgtK k t)) := by go_simp
  have c3 : w8.cell? ⟨w3.heap.size, 1, none⟩ = some (.int .u8 0) := by go_simp
  have c4 : w8.cell? ⟨w4.heap.size, 0, none⟩ = some (.int .u8 (tgtK k t)) := by go_simp
  have c5 : w8.cell? ⟨w4.heap.size, 1, none⟩ = some (.int .u8 0) := by go_simp
  have d0 := Later.cell c0 hz8_0
  have d1 := Later.cell c1 hz8_0
  have d2 := Later.cell c2 hz8_1
  have d3 := Later.cell c3 hz8_1
  have d4 := Later.cell c4 hz8_2
  have d5 := Later.cell c5 hz8_2
  clear hc1 hc2 hc3 hc4 hc5 hc6 hc7 hc8 hf1 hf2 hf3 hf4 hf5 hf6 hf7 hf8
  go_wp2
  refine wp_region_later (by kernel_rfl) (by kernel_rfl) ?_
  repeat go_big_quiet_step ((first | (go_at_call 17; exact Later.call (check_any k t _ (by omega) (by omega) (by omega) (by omega))) | (go_at_call 18; exact Later.call (refcheck_any k t _ (by omega) (by omega) (by omega) (by omega)))))
  refine wpQuiet_nil ?_
  rintro _ ⟨x, rfl⟩
  go_wp2
  go_ret
  exact ⟨rfl, Below.call hB8 x.below⟩

end Go.Proofs.Ythkfadnkonokdaa
