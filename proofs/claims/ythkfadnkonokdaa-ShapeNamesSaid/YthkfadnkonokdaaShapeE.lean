/- The types at numbers that are written out; and the example that the statements hold against. No condition. -/
import Derived.Test.YthkfadnkonokdaaShapeD
namespace Go.Proofs.Ythkfadnkonokdaa
open Go.RowKit

@[go_sem] theorem chk_1_0 : chk 1 0 = 0 := rfl
@[go_sem] theorem sizeV_1_0 : sizeV 1 0 = 1 := rfl
@[go_sem] theorem tgtK_1_0 : tgtK 1 0 = 0 := rfl
@[go_sem] theorem tgtE_1_0 : tgtE 1 0 = 6 := rfl
@[go_sem] theorem codeV_1_0 : codeV 1 0 = 0 := rfl
@[go_sem] theorem textV_1_0 : textV 1 0 = ⟨#[105, 110, 116]⟩ := rfl
@[go_sem] theorem chk_2_0 : chk 2 0 = 0 := rfl
@[go_sem] theorem sizeV_2_0 : sizeV 2 0 = 2 := rfl
@[go_sem] theorem tgtK_2_0 : tgtK 2 0 = 0 := rfl
@[go_sem] theorem tgtE_2_0 : tgtE 2 0 = 6 := rfl
@[go_sem] theorem codeV_2_0 : codeV 2 0 = 1 := rfl
@[go_sem] theorem textV_2_0 : textV 2 0 = ⟨#[112, 97, 105, 114]⟩ := rfl
@[go_sem] theorem chk_3_1 : chk 3 1 = 0 := rfl
@[go_sem] theorem sizeV_3_1 : sizeV 3 1 = 1 := rfl
@[go_sem] theorem tgtK_3_1 : tgtK 3 1 = 1 := rfl
@[go_sem] theorem tgtE_3_1 : tgtE 3 1 = 0 := rfl
@[go_sem] theorem codeV_3_1 : codeV 3 1 = 2 := rfl
@[go_sem] theorem textV_3_1 : textV 3 1 = ⟨#[38, 105, 110, 116]⟩ := rfl
@[go_sem] theorem chk_3_2 : chk 3 2 = 0 := rfl
@[go_sem] theorem sizeV_3_2 : sizeV 3 2 = 1 := rfl
@[go_sem] theorem tgtK_3_2 : tgtK 3 2 = 2 := rfl
@[go_sem] theorem tgtE_3_2 : tgtE 3 2 = 0 := rfl
@[go_sem] theorem codeV_3_2 : codeV 3 2 = 3 := rfl
@[go_sem] theorem textV_3_2 : textV 3 2 = ⟨#[38, 112, 97, 105, 114]⟩ := rfl
@[go_sem] theorem chk_4_1 : chk 4 1 = 0 := rfl
@[go_sem] theorem sizeV_4_1 : sizeV 4 1 = 1 := rfl
@[go_sem] theorem tgtK_4_1 : tgtK 4 1 = 1 := rfl
@[go_sem] theorem tgtE_4_1 : tgtE 4 1 = 0 := rfl
@[go_sem] theorem codeV_4_1 : codeV 4 1 = 4 := rfl
@[go_sem] theorem textV_4_1 : textV 4 1 = ⟨#[38, 109, 117, 116, 32, 105, 110, 116]⟩ := rfl
@[go_sem] theorem chk_4_2 : chk 4 2 = 0 := rfl
@[go_sem] theorem sizeV_4_2 : sizeV 4 2 = 1 := rfl
@[go_sem] theorem tgtK_4_2 : tgtK 4 2 = 2 := rfl
@[go_sem] theorem tgtE_4_2 : tgtE 4 2 = 0 := rfl
@[go_sem] theorem codeV_4_2 : codeV 4 2 = 5 := rfl
@[go_sem] theorem textV_4_2 : textV 4 2 = ⟨#[38, 109, 117, 116, 32, 112, 97, 105, 114]⟩ := rfl
@[go_sem] theorem chk_5_1 : chk 5 1 = 0 := rfl
@[go_sem] theorem sizeV_5_1 : sizeV 5 1 = 1 := rfl
@[go_sem] theorem tgtK_5_1 : tgtK 5 1 = 1 := rfl
@[go_sem] theorem tgtE_5_1 : tgtE 5 1 = 0 := rfl
@[go_sem] theorem codeV_5_1 : codeV 5 1 = 6 := rfl
@[go_sem] theorem textV_5_1 : textV 5 1 = ⟨#[42, 105, 110, 116]⟩ := rfl
@[go_sem] theorem chk_5_2 : chk 5 2 = 0 := rfl
@[go_sem] theorem sizeV_5_2 : sizeV 5 2 = 1 := rfl
@[go_sem] theorem tgtK_5_2 : tgtK 5 2 = 2 := rfl
@[go_sem] theorem tgtE_5_2 : tgtE 5 2 = 0 := rfl
@[go_sem] theorem codeV_5_2 : codeV 5 2 = 7 := rfl
@[go_sem] theorem textV_5_2 : textV 5 2 = ⟨#[42, 112, 97, 105, 114]⟩ := rfl
@[go_sem] theorem chk_1_1 : chk 1 1 = 8 := rfl

set_option maxHeartbeats 1000000 in
theorem alive_any (w : World) : Calls Try.prog 19 #[] w (Ret w (.bool true)) := by
  go_enter Try.func19, Try.ntmps19
  go_wp2_with fail
  refine (text_any 4 2 _ (by omega) (by omega) (by omega) (by omega)).mono ?_
  rintro e w1 ⟨rfl, hb1⟩
  have hB1 : Below w.heap.size w w1 := Below.call (by repeat (first | exact Below.refl _ _ | (refine Below.setCell ?_ (by first | omega | (simp; done) | (simp; omega)) _) | (refine Below.alloc ?_ (by first | omega | (simp; done) | (simp; omega)) _) | refine Below.drew ?_)) hb1
  have hS1 : w.heap.size ≤ w1.heap.size := hB1.size
  obtain ⟨hc1, hf1⟩ := bcell hb1
  have hz1_0 : w.heap.size < w1.heap.size := by have := hb1.size; first | omega | (simp at this; omega)
  go_wp2_with fail
  refine (code_any 4 2 _ (by omega) (by omega) (by omega) (by omega)).mono ?_
  rintro e w2 ⟨rfl, hb2⟩
  have hB2 : Below w.heap.size w w2 := Below.call (by repeat (first | exact hB1 | exact Below.refl _ _ | (refine Below.setCell ?_ (by first | omega | (simp; done) | (simp; omega)) _) | (refine Below.alloc ?_ (by first | omega | (simp; done) | (simp; omega)) _) | refine Below.drew ?_)) hb2
  have hS2 : w.heap.size ≤ w2.heap.size := hB2.size
  obtain ⟨hc2, hf2⟩ := bcell hb2
  have hz2_0 : w.heap.size < w2.heap.size := by have := hb2.size; first | omega | (simp at this; omega)
  go_wp2_with fail
  refine (size_any 4 2 _ (by omega) (by omega) (by omega) (by omega)).mono ?_
  rintro e w3 ⟨rfl, hb3⟩
  have hB3 : Below w.heap.size w w3 := Below.call (by repeat (first | exact hB2 | exact Below.refl _ _ | (refine Below.setCell ?_ (by first | omega | (simp; done) | (simp; omega)) _) | (refine Below.alloc ?_ (by first | omega | (simp; done) | (simp; omega)) _) | refine Below.drew ?_)) hb3
  have hS3 : w.heap.size ≤ w3.heap.size := hB3.size
  obtain ⟨hc3, hf3⟩ := bcell hb3
  have hz3_0 : w.heap.size < w3.heap.size := by have := hb3.size; first | omega | (simp at this; omega)
  go_wp2_with fail
  refine (target_any 4 2 _ (by omega) (by omega) (by omega) (by omega)).mono ?_
  rintro e w4 ⟨rfl, hb4⟩
  have hB4 : Below w.heap.size w w4 := Below.call (by repeat (first | exact hB3 | exact Below.refl _ _ | (refine Below.setCell ?_ (by first | omega | (simp; done) | (simp; omega)) _) | (refine Below.alloc ?_ (by first | omega | (simp; done) | (simp; omega)) _) | refine Below.drew ?_)) hb4
  have hS4 : w.heap.size ≤ w4.heap.size := hB4.size
  obtain ⟨hc4, hf4⟩ := bcell hb4
  have hz4_0 : w.heap.size < w4.heap.size := by have := hb4.size; first | omega | (simp at this; omega)
  go_wp2_with fail
  refine (size_any 2 0 _ (by omega) (by omega) (by omega) (by omega)).mono ?_
  rintro e w5 ⟨rfl, hb5⟩
  have hB5 : Below w.heap.size w w5 := Below.call (by repeat (first | exact hB4 | exact Below.refl _ _ | (refine Below.setCell ?_ (by first | omega | (simp; done) | (simp; omega)) _) | (refine Below.alloc ?_ (by first | omega | (simp; done) | (simp; omega)) _) | refine Below.drew ?_)) hb5
  have hS5 : w.heap.size ≤ w5.heap.size := hB5.size
  obtain ⟨hc5, hf5⟩ := bcell hb5
  have hz5_0 : w.heap.size < w5.heap.size := by have := hb5.size; first | omega | (simp at this; omega)
  have hz5_1 : w4.heap.size < w5.heap.size := by have := hb5.size; first | omega | (simp at this; omega)
  have c2 : w5.cell? ⟨w4.heap.size, 0, none⟩ = some (.int .u8 2) := by go_simp
  have c3 : w5.cell? ⟨w4.heap.size, 1, none⟩ = some (.int .u8 0) := by go_simp
  clear hc1 hc2 hc3 hc4 hc5 hf1 hf2 hf3 hf4 hf5
  go_wp2_with fail
  refine (check_any 1 1 _ (by omega) (by omega) (by omega) (by omega)).mono ?_
  rintro e w6 ⟨rfl, hb6⟩
  have hB6 : Below w.heap.size w w6 := Below.call (by repeat (first | exact hB5 | exact Below.refl _ _ | (refine Below.setCell ?_ (by first | omega | (simp; done) | (simp; omega)) _) | (refine Below.alloc ?_ (by first | omega | (simp; done) | (simp; omega)) _) | refine Below.drew ?_)) hb6
  have hS6 : w.heap.size ≤ w6.heap.size := hB6.size
  obtain ⟨hc6, hf6⟩ := bcell hb6
  go_wp2
  go_ret
  exact ⟨rfl, hB6⟩

end Go.Proofs.Ythkfadnkonokdaa
