/- The statement ShapeOnce: its walk. No condition. -/
import Derived.Test.YthkfadnkonokdaaReads
namespace Go.Proofs.Ythkfadnkonokdaa
open Go.RowKit

theorem w_code {k t : Int} (h : okB k t = true) : wK (codeV k t) = k ∧ wT (codeV k t) = t := by
  have hr := code_range h
  exact (w_iff hr.1 hr.2).2 ⟨h, rfl⟩
theorem code_inj {k t k' t' : Int} (h : okB k t = true) (h' : okB k' t' = true) (e : codeV k t = codeV k' t') : k = k' ∧ t = t' := by
  have h1 := w_code h
  have h2 := w_code h'
  rw [e] at h1
  exact ⟨h1.1.symm.trans h2.1, h1.2.symm.trans h2.2⟩
theorem text_read {k t : Int} (h : okB k t = true) : readK (textV k t) = k ∧ readT (textV k t) = t ∧ readE (textV k t) = 0 := by
  have hr := code_range h
  have hc : readC (textV k t) = codeV k t := by rw [textV, if_pos h]; exact readC_nm _ hr.1 hr.2
  have hw := w_code h
  simp only [readK, readT, readE, hc, if_neg (show ¬ codeV k t < 0 by omega)]
  exact ⟨hw.1, hw.2, trivial⟩
theorem text_inj {k t k' t' : Int} (h : okB k t = true) (h' : okB k' t' = true) (e : textV k t = textV k' t') : k = k' ∧ t = t' := by
  have h1 := text_read h
  have h2 := text_read h'
  rw [e] at h1
  exact ⟨h1.1.symm.trans h2.1, h1.2.1.symm.trans h2.2.1⟩
theorem text_size {k t : Int} (h : okB k t = true) : (textV k t).size ≤ maxLen := by
  rcases okB_eight h with ⟨rfl, rfl⟩ | ⟨rfl, rfl⟩ | ⟨rfl, rfl⟩ | ⟨rfl, rfl⟩ | ⟨rfl, rfl⟩ | ⟨rfl, rfl⟩ | ⟨rfl, rfl⟩ | ⟨rfl, rfl⟩ <;> decide

set_option maxHeartbeats 2000000 in
theorem once_bad (k t k' t' : Int) (w : World) (hk : 0 ≤ k) (hk1 : k ≤ 255) (ht : 0 ≤ t) (ht1 : t ≤ 255) (hk' : 0 ≤ k') (hk1' : k' ≤ 255) (ht' : 0 ≤ t') (ht1' : t' ≤ 255)
    (c c' : Int) (hb : (c = 8 ∧ c' = c') ∨ (c = 0 ∧ c' = 8)) (Hc : Hid (chk k t = c)) (Hc' : Hid (chk k' t' = c')) :
    Calls Try.prog 8 #[.agg #[.int .u8 k, .int .u8 t], .agg #[.int .u8 k', .int .u8 t']] w (Ret w (.bool true)) := by
  rcases hb with ⟨rfl, _⟩ | ⟨rfl, rfl⟩
  · go_enter Try.func8, Try.ntmps8
    go_wp2_with fail
    refine (refcheck_any k t _ (by omega) (by omega) (by omega) (by omega)).mono ?_
    rintro e w1 ⟨rfl, hb1⟩
    have hB1 : Below w.heap.size w w1 := Below.call (by repeat (first | exact Below.refl _ _ | (refine Below.setCell ?_ (by first | omega | (simp; done) | (simp; omega)) _) | (refine Below.alloc ?_ (by first | omega | (simp; done) | (simp; omega)) _) | refine Below.drew ?_)) hb1
    have hS1 : w.heap.size ≤ w1.heap.size := hB1.size
    obtain ⟨hc1, hf1⟩ := bcell hb1
    have hz1_0 : w.heap.size < w1.heap.size := by have := hb1.size; first | omega | (simp at this; omega)
    have hz1_1 : w.heap.size + 1 < w1.heap.size := by have := hb1.size; first | omega | (simp at this; omega)
    rw [Hc.out]
    have k0 : w1.cell? ⟨w.heap.size, 0, none⟩ = some (.int .u8 k) := by go_simp
    have k1 : w1.cell? ⟨w.heap.size, 1, none⟩ = some (.int .u8 t) := by go_simp
    clear hc1 hf1
    have d0 := Later.cell k0 hz1_0
    have d1 := Later.cell k1 hz1_0
    have C1 := fun W => check_any k t W (by omega) (by omega) (by omega) (by omega)
    have C2 := fun W => refcheck_any k t W (by omega) (by omega) (by omega) (by omega)
    rw [Hc.out] at C1 C2
    have D1 := Lib.hid C1
    have D2 := Lib.hid C2
    clear C1 C2
    go_wp2
    refine wp_region_later (by kernel_rfl) (by kernel_rfl) ?_
    repeat go_big_quiet_step ((first | (go_at_call 17; exact Later.call (D1.out _)) | (go_at_call 18; exact Later.call (D2.out _)) | (go_at_call 19; exact Later.call (alive_any _))))
    refine wpQuiet_nil ?_
    rintro _ ⟨x, rfl⟩
    go_wp2
    go_ret
    exact ⟨rfl, Below.call hB1 x.below⟩
  · go_enter Try.func8, Try.ntmps8
    go_wp2_with fail
    refine (refcheck_any k t _ (by omega) (by omega) (by omega) (by omega)).mono ?_
    rintro e w1 ⟨rfl, hb1⟩
    have hB1 : Below w.heap.size w w1 := Below.call (by repeat (first | exact Below.refl _ _ | (refine Below.setCell ?_ (by first | omega | (simp; done) | (simp; omega)) _) | (refine Below.alloc ?_ (by first | omega | (simp; done) | (simp; omega)) _) | refine Below.drew ?_)) hb1
    have hS1 : w.heap.size ≤ w1.heap.size := hB1.size
    obtain ⟨hc1, hf1⟩ := bcell hb1
    have hz1_0 : w.heap.size < w1.heap.size := by have := hb1.size; first | omega | (simp at this; omega)
    have hz1_1 : w.heap.size + 1 < w1.heap.size := by have := hb1.size; first | omega | (simp at this; omega)
    rw [Hc.out]
    have k0 : w1.cell? ⟨w.heap.size, 0, none⟩ = some (.int .u8 k) := by go_simp
    have k1 : w1.cell? ⟨w.heap.size, 1, none⟩ = some (.int .u8 t) := by go_simp
    have k2 : w1.cell? ⟨w.heap.size + 1, 0, none⟩ = some (.int .u8 k') := by go_simp
    have k3 : w1.cell? ⟨w.heap.size + 1, 1, none⟩ = some (.int .u8 t') := by go_simp
    clear hc1 hf1
    go_wp2_with fail
    refine (refcheck_any k' t' _ (by omega) (by omega) (by omega) (by omega)).mono ?_
    rintro e w2 ⟨rfl, hb2⟩
    have hB2 : Below w.heap.size w w2 := Below.call (by repeat (first | exact hB1 | exact Below.refl _ _ | (refine Below.setCell ?_ (by first | omega | (simp; done) | (simp; omega)) _) | (refine Below.alloc ?_ (by first | omega | (simp; done) | (simp; omega)) _) | refine Below.drew ?_)) hb2
    have hS2 : w.heap.size ≤ w2.heap.size := hB2.size
    obtain ⟨hc2, hf2⟩ := bcell hb2
    have hz2_0 : w.heap.size < w2.heap.size := by have := hb2.size; first | omega | (simp at this; omega)
    have hz2_1 : w.heap.size + 1 < w2.heap.size := by have := hb2.size; first | omega | (simp at this; omega)
    rw [Hc'.out]
    have l0 : w2.cell? ⟨w.heap.size, 0, none⟩ = some (.int .u8 k) := by go_simp
    have l1 : w2.cell? ⟨w.heap.size, 1, none⟩ = some (.int .u8 t) := by go_simp
    clear hc2 hf2
    have d0 := Later.cell l0 hz2_0
    have d1 := Later.cell l1 hz2_0
    have C1 := fun W => check_any k t W (by omega) (by omega) (by omega) (by omega)
    have C2 := fun W => refcheck_any k t W (by omega) (by omega) (by omega) (by omega)
    rw [Hc.out] at C1 C2
    have D1 := Lib.hid C1
    have D2 := Lib.hid C2
    clear C1 C2
    go_wp2
    refine wp_region_later (by kernel_rfl) (by kernel_rfl) ?_
    repeat go_big_quiet_step ((first | (go_at_call 17; exact Later.call (D1.out _)) | (go_at_call 18; exact Later.call (D2.out _)) | (go_at_call 19; exact Later.call (alive_any _))))
    refine wpQuiet_nil ?_
    rintro _ ⟨x, rfl⟩
    go_wp2
    go_ret
    exact ⟨rfl, Below.call hB2 x.below⟩

set_option maxHeartbeats 4000000 in
theorem once_good (k t k' t' n n' : Int) (a a' : ByteArray) (q : Bool) (w : World) (hk : 0 ≤ k) (hk1 : k ≤ 255) (ht : 0 ≤ t) (ht1 : t ≤ 255) (hk' : 0 ≤ k') (hk1' : k' ≤ 255) (ht' : 0 ≤ t') (ht1' : t' ≤ 255)
    (Hc : Hid (chk k t = 0)) (Hc' : Hid (chk k' t' = 0)) (Ht : Hid (textV k t = a)) (Ht' : Hid (textV k' t' = a')) (Hn : Hid (codeV k t = n)) (Hn' : Hid (codeV k' t' = n'))
    (Hr : Hid (readK a = k ∧ readT a = t ∧ readE a = 0)) (Ho : Hid (ofK n = k ∧ ofT n = t ∧ ofE n = 0)) (ha : a.size ≤ maxLen) (h0 : 0 ≤ n) (h7 : n ≤ 7)
    (Hq1 : Hid ((a.toList == a'.toList) = q)) (Hq2 : Hid ((k == k' && t == t') = q)) (Hq3 : Hid ((n == n') = q)) :
    Calls Try.prog 8 #[.agg #[.int .u8 k, .int .u8 t], .agg #[.int .u8 k', .int .u8 t']] w (Ret w (.bool true)) := by
  go_enter Try.func8, Try.ntmps8
  go_wp2_with fail
  refine (refcheck_any k t _ (by omega) (by omega) (by omega) (by omega)).mono ?_
  rintro e w1 ⟨rfl, hb1⟩
  have hB1 : Below w.heap.size w w1 := Below.call (by repeat (first | exact Below.refl _ _ | (refine Below.setCell ?_ (by first | omega | (simp; done) | (simp; omega)) _) | (refine Below.alloc ?_ (by first | omega | (simp; done) | (simp; omega)) _) | refine Below.drew ?_)) hb1
  have hS1 : w.heap.size ≤ w1.heap.size := hB1.size
  obtain ⟨hc1, hf1⟩ := bcell hb1
  have hz1_0 : w.heap.size < w1.heap.size := by have := hb1.size; first | omega | (simp at this; omega)
  have hz1_1 : w.heap.size + 1 < w1.heap.size := by have := hb1.size; first | omega | (simp at this; omega)
  rw [Hc.out]
  have i0 : w1.cell? ⟨w.heap.size, 0, none⟩ = some (.int .u8 k) := by go_simp
  have i1 : w1.cell? ⟨w.heap.size, 1, none⟩ = some (.int .u8 t) := by go_simp
  have i2 : w1.cell? ⟨w.heap.size + 1, 0, none⟩ = some (.int .u8 k') := by go_simp
  have i3 : w1.cell? ⟨w.heap.size + 1, 1, none⟩ = some (.int .u8 t') := by go_simp
  clear hc1 hf1
  go_wp2_with fail
  refine (refcheck_any k' t' _ (by omega) (by omega) (by omega) (by omega)).mono ?_
  rintro e w2 ⟨rfl, hb2⟩
  have hB2 : Below w.heap.size w w2 := Below.call (by repeat (first | exact hB1 | exact Below.refl _ _ | (refine Below.setCell ?_ (by first | omega | (simp; done) | (simp; omega)) _) | (refine Below.alloc ?_ (by first | omega | (simp; done) | (simp; omega)) _) | refine Below.drew ?_)) hb2
  have hS2 : w.heap.size ≤ w2.heap.size := hB2.size
  obtain ⟨hc2, hf2⟩ := bcell hb2
  have hz2_0 : w.heap.size < w2.heap.size := by have := hb2.size; first | omega | (simp at this; omega)
  have hz2_1 : w.heap.size + 1 < w2.heap.size := by have := hb2.size; first | omega | (simp at this; omega)
  rw [Hc'.out]
  have i2_0 : w2.cell? ⟨w.heap.size, 0, none⟩ = some (.int .u8 k) := by go_simp
  have i2_1 : w2.cell? ⟨w.heap.size, 1, none⟩ = some (.int .u8 t) := by go_simp
  have i2_2 : w2.cell? ⟨w.heap.size + 1, 0, none⟩ = some (.int .u8 k') := by go_simp
  have i2_3 : w2.cell? ⟨w.heap.size + 1, 1, none⟩ = some (.int .u8 t') := by go_simp
  clear hc2 hf2
  clear i0 i1 i2 i3
  go_wp2_with fail
  refine (text_any k t _ (by omega) (by omega) (by omega) (by omega)).mono ?_
  rintro e w3 ⟨rfl, hb3⟩
  have hB3 : Below w.heap.size w w3 := Below.call (by repeat (first | exact hB2 | exact Below.refl _ _ | (refine Below.setCell ?_ (by first | omega | (simp; done) | (simp; omega)) _) | (refine Below.alloc ?_ (by first | omega | (simp; done) | (simp; omega)) _) | refine Below.drew ?_)) hb3
  have hS3 : w.heap.size ≤ w3.heap.size := hB3.size
  obtain ⟨hc3, hf3⟩ := bcell hb3
  have hz3_0 : w.heap.size < w3.heap.size := by have := hb3.size; first | omega | (simp at this; omega)
  have hz3_1 : w.heap.size + 1 < w3.heap.size := by have := hb3.size; first | omega | (simp at this; omega)
  rw [Hc.out, Ht.out]
  have i3_0 : w3.cell? ⟨w.heap.size, 0, none⟩ = some (.int .u8 k) := by go_simp
  have i3_1 : w3.cell? ⟨w.heap.size, 1, none⟩ = some (.int .u8 t) := by go_simp
  have i3_2 : w3.cell? ⟨w.heap.size + 1, 0, none⟩ = some (.int .u8 k') := by go_simp
  have i3_3 : w3.cell? ⟨w.heap.size + 1, 1, none⟩ = some (.int .u8 t') := by go_simp
  clear hc3 hf3
  clear i2_0 i2_1 i2_2 i2_3
  go_wp2_with fail
  refine (text_any k' t' _ (by omega) (by omega) (by omega) (by omega)).mono ?_
  rintro e w4 ⟨rfl, hb4⟩
  have hB4 : Below w.heap.size w w4 := Below.call (by repeat (first | exact hB3 | exact Below.refl _ _ | (refine Below.setCell ?_ (by first | omega | (simp; done) | (simp; omega)) _) | (refine Below.alloc ?_ (by first | omega | (simp; done) | (simp; omega)) _) | refine Below.drew ?_)) hb4
  have hS4 : w.heap.size ≤ w4.heap.size := hB4.size
  obtain ⟨hc4, hf4⟩ := bcell hb4
  have hz4_0 : w.heap.size < w4.heap.size := by have := hb4.size; first | omega | (simp at this; omega)
  have hz4_1 : w.heap.size + 1 < w4.heap.size := by have := hb4.size; first | omega | (simp at this; omega)
  rw [Hc'.out, Ht'.out]
  have i4_0 : w4.cell? ⟨w.heap.size, 0, none⟩ = some (.int .u8 k) := by go_simp
  have i4_1 : w4.cell? ⟨w.heap.size, 1, none⟩ = some (.int .u8 t) := by go_simp
  have i4_2 : w4.cell? ⟨w.heap.size + 1, 0, none⟩ = some (.int .u8 k') := by go_simp
  have i4_3 : w4.cell? ⟨w.heap.size + 1, 1, none⟩ = some (.int .u8 t') := by go_simp
  clear hc4 hf4
  clear i3_0 i3_1 i3_2 i3_3
  go_wp2_with fail
  refine (code_any k t _ (by omega) (by omega) (by omega) (by omega)).mono ?_
  rintro e w5 ⟨rfl, hb5⟩
  have hB5 : Below w.heap.size w w5 := Below.call (by repeat (first | exact hB4 | exact Below.refl _ _ | (refine Below.setCell ?_ (by first | omega | (simp; done) | (simp; omega)) _) | (refine Below.alloc ?_ (by first | omega | (simp; done) | (simp; omega)) _) | refine Below.drew ?_)) hb5
  have hS5 : w.heap.size ≤ w5.heap.size := hB5.size
  obtain ⟨hc5, hf5⟩ := bcell hb5
  have hz5_0 : w.heap.size < w5.heap.size := by have := hb5.size; first | omega | (simp at this; omega)
  have hz5_1 : w.heap.size + 1 < w5.heap.size := by have := hb5.size; first | omega | (simp at this; omega)
  rw [Hc.out, Hn.out]
  have i5_0 : w5.cell? ⟨w.heap.size, 0, none⟩ = some (.int .u8 k) := by go_simp
  have i5_1 : w5.cell? ⟨w.heap.size, 1, none⟩ = some (.int .u8 t) := by go_simp
  have i5_2 : w5.cell? ⟨w.heap.size + 1, 0, none⟩ = some (.int .u8 k') := by go_simp
  have i5_3 : w5.cell? ⟨w.heap.size + 1, 1, none⟩ = some (.int .u8 t') := by go_simp
  clear hc5 hf5
  clear i4_0 i4_1 i4_2 i4_3
  go_wp2_with fail
  refine (code_any k' t' _ (by omega) (by omega) (by omega) (by omega)).mono ?_
  rintro e w6 ⟨rfl, hb6⟩
  have hB6 : Below w.heap.size w w6 := Below.call (by repeat (first | exact hB5 | exact Below.refl _ _ | (refine Below.setCell ?_ (by first | omega | (simp; done) | (simp; omega)) _) | (refine Below.alloc ?_ (by first | omega | (simp; done) | (simp; omega)) _) | refine Below.drew ?_)) hb6
  have hS6 : w.heap.size ≤ w6.heap.size := hB6.size
  obtain ⟨hc6, hf6⟩ := bcell hb6
  have hz6_0 : w.heap.size < w6.heap.size := by have := hb6.size; first | omega | (simp at this; omega)
  have hz6_1 : w.heap.size + 1 < w6.heap.size := by have := hb6.size; first | omega | (simp at this; omega)
  rw [Hc'.out, Hn'.out]
  have i6_0 : w6.cell? ⟨w.heap.size, 0, none⟩ = some (.int .u8 k) := by go_simp
  have i6_1 : w6.cell? ⟨w.heap.size, 1, none⟩ = some (.int .u8 t) := by go_simp
  have i6_2 : w6.cell? ⟨w.heap.size + 1, 0, none⟩ = some (.int .u8 k') := by go_simp
  have i6_3 : w6.cell? ⟨w.heap.size + 1, 1, none⟩ = some (.int .u8 t') := by go_simp
  clear hc6 hf6
  clear i5_0 i5_1 i5_2 i5_3
  go_wp2_with fail
  refine (read_any a _ ha).mono ?_
  rintro e w7 ⟨rfl, hb7⟩
  have hB7 : Below w.heap.size w w7 := Below.call (by repeat (first | exact hB6 | exact Below.refl _ _ | (refine Below.setCell ?_ (by first | omega | (simp; done) | (simp; omega)) _) | (refine Below.alloc ?_ (by first | omega | (simp; done) | (simp; omega)) _) | refine Below.drew ?_)) hb7
  have hS7 : w.heap.size ≤ w7.heap.size := hB7.size
  obtain ⟨hc7, hf7⟩ := bcell hb7
  have hz7_0 : w.heap.size < w7.heap.size := by have := hb7.size; first | omega | (simp at this; omega)
  have hz7_1 : w.heap.size + 1 < w7.heap.size := by have := hb7.size; first | omega | (simp at this; omega)
  rw [Hr.out.1, Hr.out.2.1, Hr.out.2.2]
  have i7_0 : w7.cell? ⟨w.heap.size, 0, none⟩ = some (.int .u8 k) := by go_simp
  have i7_1 : w7.cell? ⟨w.heap.size, 1, none⟩ = some (.int .u8 t) := by go_simp
  have i7_2 : w7.cell? ⟨w.heap.size + 1, 0, none⟩ = some (.int .u8 k') := by go_simp
  have i7_3 : w7.cell? ⟨w.heap.size + 1, 1, none⟩ = some (.int .u8 t') := by go_simp
  clear hc7 hf7
  clear i6_0 i6_1 i6_2 i6_3
  go_wp2_with fail
  refine (of_any n _ (by omega) (by omega)).mono ?_
  rintro e w8 ⟨rfl, hb8⟩
  have hB8 : Below w.heap.size w w8 := Below.call (by repeat (first | exact hB7 | exact Below.refl _ _ | (refine Below.setCell ?_ (by first | omega | (simp; done) | (simp; omega)) _) | (refine Below.alloc ?_ (by first | omega | (simp; done) | (simp; omega)) _) | refine Below.drew ?_)) hb8
  have hS8 : w.heap.size ≤ w8.heap.size := hB8.size
  obtain ⟨hc8, hf8⟩ := bcell hb8
  have hz8_0 : w.heap.size < w8.heap.size := by have := hb8.size; first | omega | (simp at this; omega)
  have hz8_1 : w.heap.size + 1 < w8.heap.size := by have := hb8.size; first | omega | (simp at this; omega)
  have hz8_2 : w7.heap.size < w8.heap.size := by have := hb8.size; first | omega | (simp at this; omega)
  rw [Ho.out.1, Ho.out.2.1, Ho.out.2.2]
  have i8_0 : w8.cell? ⟨w.heap.size, 0, none⟩ = some (.int .u8 k) := by go_simp
  have i8_1 : w8.cell? ⟨w.heap.size, 1, none⟩ = some (.int .u8 t) := by go_simp
  have i8_2 : w8.cell? ⟨w.heap.size + 1, 0, none⟩ = some (.int .u8 k') := by go_simp
  have i8_3 : w8.cell? ⟨w.heap.size + 1, 1, none⟩ = some (.int .u8 t') := by go_simp
  have i8_4 : w8.cell? ⟨w7.heap.size, 0, none⟩ = some (.int .u8 k) := by go_simp
  have i8_5 : w8.cell? ⟨w7.heap.size, 1, none⟩ = some (.int .u8 t) := by go_simp
  clear hc8 hf8
  clear i7_0 i7_1 i7_2 i7_3
  have q1 := Hq1.out
  have q2 := Hq2.out
  have q3 := Hq3.out
  cases q
  all_goals
    go_wp2_with fail
    refine (alive_any _).mono ?_
    rintro e w9 ⟨rfl, hb9⟩
    have hB9 : Below w.heap.size w w9 := Below.call (by repeat (first | exact hB8 | exact Below.refl _ _ | (refine Below.setCell ?_ (by first | omega | (simp; done) | (simp; omega)) _) | (refine Below.alloc ?_ (by first | omega | (simp; done) | (simp; omega)) _) | refine Below.drew ?_)) hb9
    have hS9 : w.heap.size ≤ w9.heap.size := hB9.size
    obtain ⟨hc9, hf9⟩ := bcell hb9
    go_wp2
    go_ret
    exact ⟨rfl, (by repeat (first | exact hB9 | exact Below.refl _ _ | (refine Below.setCell ?_ (by first | omega | (simp; done) | (simp; omega)) _) | (refine Below.alloc ?_ (by first | omega | (simp; done) | (simp; omega)) _) | refine Below.drew ?_))⟩

theorem once_walk (k t k' t' : Int) (w : World) (hk : 0 ≤ k) (hk1 : k ≤ 255) (ht : 0 ≤ t) (ht1 : t ≤ 255) (hk' : 0 ≤ k') (hk1' : k' ≤ 255) (ht' : 0 ≤ t') (ht1' : t' ≤ 255) :
    Calls Try.prog 8 #[.agg #[.int .u8 k, .int .u8 t], .agg #[.int .u8 k', .int .u8 t']] w (Ret w (.bool true)) := by
  rcases okB_cases k t with h | h
  · rcases okB_cases k' t' with h' | h'
    · have hr := code_range h
      by_cases he : k = k' ∧ t = t'
      · obtain ⟨rfl, rfl⟩ := he
        exact once_good k t k t _ _ _ _ true w hk hk1 ht ht1 hk' hk1' ht' ht1' (chk_ok h) (chk_ok h') rfl rfl rfl rfl (text_read h) (of_hit h rfl) (text_size h) hr.1 hr.2 (by simp [Hid]) (by simp [Hid]) (by simp [Hid])
      · refine once_good k t k' t' _ _ _ _ false w hk hk1 ht ht1 hk' hk1' ht' ht1' (chk_ok h) (chk_ok h') rfl rfl rfl rfl (text_read h) (of_hit h rfl) (text_size h) hr.1 hr.2 ?_ ?_ ?_
        · rw [Hid, beq_eq_false_iff_ne]
          intro e
          exact he (text_inj h h' (bytes_ext (by rwa [ByteArray.toList_eq, ByteArray.toList_eq] at e)))
        · rw [Hid, Bool.eq_false_iff]
          intro e
          simp only [Bool.and_eq_true, beq_iff_eq] at e
          exact he e
        · rw [Hid, beq_eq_false_iff_ne]
          intro e
          exact he (code_inj h h' e)
    · exact once_bad k t k' t' w hk hk1 ht ht1 hk' hk1' ht' ht1' 0 8 (.inr ⟨rfl, rfl⟩) (chk_ok h) (chk_no h')
  · exact once_bad k t k' t' w hk hk1 ht ht1 hk' hk1' ht' ht1' 8 _ (.inl ⟨rfl, rfl⟩) (chk_no h) rfl

end Go.Proofs.Ythkfadnkonokdaa
