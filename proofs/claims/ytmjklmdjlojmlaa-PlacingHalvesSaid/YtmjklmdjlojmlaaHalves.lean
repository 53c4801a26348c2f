/- The statement PlacingHalves: its walk. No condition. -/
import Derived.Test.YtmjklmdjlojmlaaPlaceE
namespace Go.Proofs.Ytmjklmdjlojmlaa
open Go.RowKit
attribute [local go_sem ↓] Go.wp_at_zero Go.wp_at_succ

set_option maxRecDepth 100000 in
set_option maxHeartbeats 1000000 in
theorem halves_long (A : Option Addr) (n cap : Nat) (l f : Int) (d : Bool) (w : World) (hn : n ≤ maxLen) (h : 30 < n) :
    Calls Try.prog 3 #[.slice A n cap, .agg #[.int .i64 l, .bool d, .int .u8 f]] w (Ret w (.bool true)) := by
  unfold maxLen at hn
  go_enter Try.func3, Try.ntmps3
  go_wp2_with fail
  refine (palive_any _).mono ?_
  rintro e w1 ⟨rfl, hb1⟩
  have hB1 : Below w.heap.size w w1 := Below.call (by repeat (first | exact Below.refl _ _ | (refine Below.setCell ?_ (by first | omega | (simp; done) | (simp; omega)) _) | (refine Below.alloc ?_ (by first | omega | (simp; done) | (simp; omega)) _) | refine Below.drew ?_)) hb1
  have hS1 : w.heap.size ≤ w1.heap.size := hB1.size
  obtain ⟨hc1, hf1⟩ := bcell hb1
  go_wp2
  go_ret
  exact ⟨rfl, (by repeat (first | exact hB1 | exact Below.refl _ _ | (refine Below.setCell ?_ (by first | omega | (simp; done) | (simp; omega)) _) | (refine Below.alloc ?_ (by first | omega | (simp; done) | (simp; omega)) _) | refine Below.drew ?_))⟩

set_option maxRecDepth 100000 in
set_option maxHeartbeats 2000000 in
theorem halves_bad (A : Option Addr) (n cap : Nat) (K T : Nat → Int) (m f e : Int) (d : Bool) (w : World) (hn : n ≤ maxLen) (hT : Types w A n K T) (b4 : 0 ≤ f) (h : n ≤ 30)
    (he : (e != 0) = true) (H1 : Hid (ptE n K T m d f = e)) (H2 : Hid (ptK n K T m d f = 0)) (H3 : Hid (ptT n K T m d f = 0)) (H4 : Hid (pcA n K T m d f = 0)) (H5 : Hid (pcS n K T m d f = 0)) :
    Calls Try.prog 3 #[.slice A n cap, .agg #[.int .i64 m, .bool d, .int .u8 f]] w (Ret w (.bool true)) := by
  have hl := hn
  unfold maxLen at hl
  go_enter Try.func3, Try.ntmps3
  go_wp2_with fail
  refine (palive_any _).mono ?_
  rintro e w1 ⟨rfl, hb1⟩
  have hB1 : Below w.heap.size w w1 := Below.call (by repeat (first | exact Below.refl _ _ | (refine Below.setCell ?_ (by first | omega | (simp; done) | (simp; omega)) _) | (refine Below.alloc ?_ (by first | omega | (simp; done) | (simp; omega)) _) | refine Below.drew ?_)) hb1
  have hS1 : w.heap.size ≤ w1.heap.size := hB1.size
  obtain ⟨hc1, hf1⟩ := bcell hb1
  have hz1_0 : w.heap.size < w1.heap.size := by have := hb1.size; first | omega | (simp at this; omega)
  have k1_0 : w1.cell? ⟨w.heap.size, 0, none⟩ = some (.int .i64 m) := by go_simp
  have k1_1 : w1.cell? ⟨w.heap.size, 1, none⟩ = some (.bool d) := by go_simp
  have k1_2 : w1.cell? ⟨w.heap.size, 2, none⟩ = some (.int .u8 f) := by go_simp
  clear hc1 hf1
  go_wp2_with fail
  refine (ptype_any _ _ _ K T _ _ _ _ hn (hT.below' (by repeat (first | exact hB1 | exact Below.refl _ _ | (refine Below.setCell ?_ (by first | omega | (simp; done) | (simp; omega)) _) | (refine Below.alloc ?_ (by first | omega | (simp; done) | (simp; omega)) _) | refine Below.drew ?_))) b4).mono ?_
  rintro e w2 ⟨rfl, hb2⟩
  have hB2 : Below w.heap.size w w2 := Below.call (by repeat (first | exact hB1 | exact Below.refl _ _ | (refine Below.setCell ?_ (by first | omega | (simp; done) | (simp; omega)) _) | (refine Below.alloc ?_ (by first | omega | (simp; done) | (simp; omega)) _) | refine Below.drew ?_)) hb2
  have hS2 : w.heap.size ≤ w2.heap.size := hB2.size
  obtain ⟨hc2, hf2⟩ := bcell hb2
  have hz2_0 : w.heap.size < w2.heap.size := by have := hb2.size; first | omega | (simp at this; omega)
  rw [H1.out, H2.out, H3.out]
  have k2_0 : w2.cell? ⟨w.heap.size, 0, none⟩ = some (.int .i64 m) := by go_simp
  have k2_1 : w2.cell? ⟨w.heap.size, 1, none⟩ = some (.bool d) := by go_simp
  have k2_2 : w2.cell? ⟨w.heap.size, 2, none⟩ = some (.int .u8 f) := by go_simp
  clear hc2 hf2 k1_0 k1_1 k1_2
  go_wp2_with fail
  refine (pcells_any _ _ _ K T _ _ _ _ hn (hT.below' (by repeat (first | exact hB2 | exact Below.refl _ _ | (refine Below.setCell ?_ (by first | omega | (simp; done) | (simp; omega)) _) | (refine Below.alloc ?_ (by first | omega | (simp; done) | (simp; omega)) _) | refine Below.drew ?_))) b4).mono ?_
  rintro e w3 ⟨rfl, hb3⟩
  have hB3 : Below w.heap.size w w3 := Below.call (by repeat (first | exact hB2 | exact Below.refl _ _ | (refine Below.setCell ?_ (by first | omega | (simp; done) | (simp; omega)) _) | (refine Below.alloc ?_ (by first | omega | (simp; done) | (simp; omega)) _) | refine Below.drew ?_)) hb3
  have hS3 : w.heap.size ≤ w3.heap.size := hB3.size
  obtain ⟨hc3, hf3⟩ := bcell hb3
  have hz3_0 : w.heap.size < w3.heap.size := by have := hb3.size; first | omega | (simp at this; omega)
  have hz3_1 : w2.heap.size < w3.heap.size := by have := hb3.size; first | omega | (simp at this; omega)
  rw [H1.out, H4.out, H5.out]
  have k3_0 : w3.cell? ⟨w2.heap.size, 0, none⟩ = some (.int .u8 0) := by go_simp
  have k3_1 : w3.cell? ⟨w2.heap.size, 1, none⟩ = some (.int .u8 0) := by go_simp
  clear hc3 hf3 k2_0 k2_1 k2_2
  go_wp2
  go_ret
  exact ⟨rfl, (by repeat (first | exact hB3 | exact Below.refl _ _ | (refine Below.setCell ?_ (by first | omega | (simp; done) | (simp; omega)) _) | (refine Below.alloc ?_ (by first | omega | (simp; done) | (simp; omega)) _) | refine Below.drew ?_))⟩

set_option maxRecDepth 100000 in
set_option maxHeartbeats 8000000 in
theorem halves_true_0 (b off n cap m : Nat) (K T : Nat → Int) (k t s x a1 s1 a2 s2 : Int) (w : World) (hn : n ≤ maxLen) (hT : Types w (some ⟨b, off, none⟩) n K T) (h : n ≤ 30) (hk0 : 0 ≤ k) (hk1 : k ≤ 5) (ht0 : 0 ≤ t) (ht1 : t ≤ 2)
    (H1 : Hid (ptE n K T m true 0 = 0)) (H2 : Hid (ptK n K T m true 0 = 2)) (H3 : Hid (ptT n K T m true 0 = t)) (H4 : Hid (pcA n K T m true 0 = 0)) (H5 : Hid (pcS n K T m true 0 = s)) (H6 : Hid (sizeV 2 t = s ∧ chk 2 t = 0 ∧ tgtE 2 t = 6))
    (G1 : Hid (ptE n K T m true 1 = 0 ∧ pcA n K T m true 1 = 0 ∧ pcS n K T m true 1 = 1)) (G2 : Hid (ptE n K T m true 2 = 0 ∧ pcA n K T m true 2 = 1 ∧ pcS n K T m true 2 = 1)) :
    Calls Try.prog 3 #[.slice (some ⟨b, off, none⟩) n cap, .agg #[.int .i64 m, .bool true, .int .u8 0]] w (Ret w (.bool true)) := by
  have hl := hn
  unfold maxLen at hl
  go_enter Try.func3, Try.ntmps3
  go_wp2_with fail
  refine (palive_any _).mono ?_
  rintro e w1 ⟨rfl, hb1⟩
  have hB1 : Below w.heap.size w w1 := Below.call (by repeat (first | exact Below.refl _ _ | (refine Below.setCell ?_ (by first | omega | (simp; done) | (simp; omega)) _) | (refine Below.alloc ?_ (by first | omega | (simp; done) | (simp; omega)) _) | refine Below.drew ?_)) hb1
  have hS1 : w.heap.size ≤ w1.heap.size := hB1.size
  obtain ⟨hc1, hf1⟩ := bcell hb1
  have hz1_0 : w.heap.size < w1.heap.size := by have := hb1.size; first | omega | (simp at this; omega)
  have k1_0 : w1.cell? ⟨w.heap.size, 0, none⟩ = some (.int .i64 m) := by go_simp
  have k1_1 : w1.cell? ⟨w.heap.size, 1, none⟩ = some (.bool true) := by go_simp
  have k1_2 : w1.cell? ⟨w.heap.size, 2, none⟩ = some (.int .u8 0) := by go_simp
  clear hc1 hf1 
  go_wp2_with fail
  refine (ptype_any _ _ _ K T _ _ _ _ hn (hT.below' (by repeat (first | exact hB1 | exact Below.refl _ _ | (refine Below.setCell ?_ (by first | omega | (simp; done) | (simp; omega)) _) | (refine Below.alloc ?_ (by first | omega | (simp; done) | (simp; omega)) _) | refine Below.drew ?_))) (by omega)).mono ?_
  rintro e w2 ⟨rfl, hb2⟩
  have hB2 : Below w.heap.size w w2 := Below.call (by repeat (first | exact hB1 | exact Below.refl _ _ | (refine Below.setCell ?_ (by first | omega | (simp; done) | (simp; omega)) _) | (refine Below.alloc ?_ (by first | omega | (simp; done) | (simp; omega)) _) | refine Below.drew ?_)) hb2
  have hS2 : w.heap.size ≤ w2.heap.size := hB2.size
  obtain ⟨hc2, hf2⟩ := bcell hb2
  have hz2_0 : w.heap.size < w2.heap.size := by have := hb2.size; first | omega | (simp at this; omega)
  rw [H1.out, H2.out, H3.out]
  have k2_0 : w2.cell? ⟨w.heap.size, 0, none⟩ = some (.int .i64 m) := by go_simp
  have k2_1 : w2.cell? ⟨w.heap.size, 1, none⟩ = some (.bool true) := by go_simp
  have k2_2 : w2.cell? ⟨w.heap.size, 2, none⟩ = some (.int .u8 0) := by go_simp
  clear hc2 hf2 k1_0 k1_1 k1_2
  go_wp2_with fail
  refine (pcells_any _ _ _ K T _ _ _ _ hn (hT.below' (by repeat (first | exact hB2 | exact Below.refl _ _ | (refine Below.setCell ?_ (by first | omega | (simp; done) | (simp; omega)) _) | (refine Below.alloc ?_ (by first | omega | (simp; done) | (simp; omega)) _) | refine Below.drew ?_))) (by omega)).mono ?_
  rintro e w3 ⟨rfl, hb3⟩
  have hB3 : Below w.heap.size w w3 := Below.call (by repeat (first | exact hB2 | exact Below.refl _ _ | (refine Below.setCell ?_ (by first | omega | (simp; done) | (simp; omega)) _) | (refine Below.alloc ?_ (by first | omega | (simp; done) | (simp; omega)) _) | refine Below.drew ?_)) hb3
  have hS3 : w.heap.size ≤ w3.heap.size := hB3.size
  obtain ⟨hc3, hf3⟩ := bcell hb3
  have hz3_0 : w.heap.size < w3.heap.size := by have := hb3.size; first | omega | (simp at this; omega)
  have hz3_1 : w2.heap.size < w3.heap.size := by have := hb3.size; first | omega | (simp at this; omega)
  rw [H1.out, H4.out, H5.out]
  have k3_0 : w3.cell? ⟨w.heap.size, 0, none⟩ = some (.int .i64 m) := by go_simp
  have k3_1 : w3.cell? ⟨w.heap.size, 1, none⟩ = some (.bool true) := by go_simp
  have k3_2 : w3.cell? ⟨w.heap.size, 2, none⟩ = some (.int .u8 0) := by go_simp
  have k3_3 : w3.cell? ⟨w2.heap.size, 0, none⟩ = some (.int .u8 2) := by go_simp
  have k3_4 : w3.cell? ⟨w2.heap.size, 1, none⟩ = some (.int .u8 t) := by go_simp
  clear hc3 hf3 k2_0 k2_1 k2_2
  go_wp2_with fail
  refine (size_any 2 t _ (by omega) (by omega) (by omega) (by omega)).mono ?_
  rintro e w4 ⟨rfl, hb4⟩
  have hB4 : Below w.heap.size w w4 := Below.call (by repeat (first | exact hB3 | exact Below.refl _ _ | (refine Below.setCell ?_ (by first | omega | (simp; done) | (simp; omega)) _) | (refine Below.alloc ?_ (by first | omega | (simp; done) | (simp; omega)) _) | refine Below.drew ?_)) hb4
  have hS4 : w.heap.size ≤ w4.heap.size := hB4.size
  obtain ⟨hc4, hf4⟩ := bcell hb4
  have hz4_0 : w.heap.size < w4.heap.size := by have := hb4.size; first | omega | (simp at this; omega)
  have hz4_1 : w2.heap.size < w4.heap.size := by have := hb4.size; first | omega | (simp at this; omega)
  rw [H6.out.1, H6.out.2.1]
  have k4_0 : w4.cell? ⟨w.heap.size, 0, none⟩ = some (.int .i64 m) := by go_simp
  have k4_1 : w4.cell? ⟨w.heap.size, 1, none⟩ = some (.bool true) := by go_simp
  have k4_2 : w4.cell? ⟨w.heap.size, 2, none⟩ = some (.int .u8 0) := by go_simp
  have k4_3 : w4.cell? ⟨w2.heap.size, 0, none⟩ = some (.int .u8 2) := by go_simp
  have k4_4 : w4.cell? ⟨w2.heap.size, 1, none⟩ = some (.int .u8 t) := by go_simp
  clear hc4 hf4 k3_0 k3_1 k3_2 k3_3 k3_4
  go_wp2_with fail
  refine (target_any 2 t _ (by omega) (by omega) (by omega) (by omega)).mono ?_
  rintro e w5 ⟨rfl, hb5⟩
  have hB5 : Below w.heap.size w w5 := Below.call (by repeat (first | exact hB4 | exact Below.refl _ _ | (refine Below.setCell ?_ (by first | omega | (simp; done) | (simp; omega)) _) | (refine Below.alloc ?_ (by first | omega | (simp; done) | (simp; omega)) _) | refine Below.drew ?_)) hb5
  have hS5 : w.heap.size ≤ w5.heap.size := hB5.size
  obtain ⟨hc5, hf5⟩ := bcell hb5
  have hz5_0 : w.heap.size < w5.heap.size := by have := hb5.size; first | omega | (simp at this; omega)
  have hz5_1 : w2.heap.size < w5.heap.size := by have := hb5.size; first | omega | (simp at this; omega)
  rw [H6.out.2.2]
  have k5_0 : w5.cell? ⟨w.heap.size, 0, none⟩ = some (.int .i64 m) := by go_simp
  have k5_1 : w5.cell? ⟨w.heap.size, 1, none⟩ = some (.bool true) := by go_simp
  have k5_2 : w5.cell? ⟨w.heap.size, 2, none⟩ = some (.int .u8 0) := by go_simp
  have k5_3 : w5.cell? ⟨w2.heap.size, 0, none⟩ = some (.int .u8 2) := by go_simp
  have k5_4 : w5.cell? ⟨w2.heap.size, 1, none⟩ = some (.int .u8 t) := by go_simp
  clear hc5 hf5 k4_0 k4_1 k4_2 k4_3 k4_4
  go_upto_region 14 with fail
  go_cut [15, 16] (fun s15 s16 wx => ∃ g1 g2 : Nat, s15 = .pointer (some ⟨g1, 0, none⟩) ∧ s16 = .pointer (some ⟨g2, 0, none⟩) ∧ w5.heap.size < g1 ∧ w5.heap.size < g2 ∧ g1 < wx.heap.size ∧ g2 < wx.heap.size ∧ g1 ≠ g2 ∧
    wx.cell? ⟨g1, 0, none⟩ = some (.int .i64 m) ∧ wx.cell? ⟨g1, 1, none⟩ = some (.bool true) ∧ wx.cell? ⟨g1, 2, none⟩ = some (.int .u8 0) ∧ wx.cell? ⟨g2, 0, none⟩ = some (.int .i64 m) ∧ wx.cell? ⟨g2, 1, none⟩ = some (.bool true) ∧ wx.cell? ⟨g2, 2, none⟩ = some (.int .u8 0) ∧ wx.frozen? ⟨g1, 2, none⟩ = false ∧ wx.frozen? ⟨g2, 2, none⟩ = false ∧ Below w5.heap.size w5 wx)
  case first =>
    have HS : ∀ W' : World, Below w5.heap.size w5 W' → W'.cell? ⟨w.heap.size, 0, none⟩ = some (.int .i64 m) ∧ W'.cell? ⟨w.heap.size, 1, none⟩ = some (.bool true) ∧ W'.cell? ⟨w.heap.size, 2, none⟩ = some (.int .u8 0) := fun W' hb => ⟨(hb.cell (p := ⟨_, _, none⟩) hz5_0).trans k5_0, (hb.cell (p := ⟨_, _, none⟩) hz5_0).trans k5_1, (hb.cell (p := ⟨_, _, none⟩) hz5_0).trans k5_2⟩
    have HS' := Lib.hid HS
    clear HS
    go_region_held3 (fun w' => w'.cell? ⟨w.heap.size, 0, none⟩ = some (.int .i64 m) ∧ w'.cell? ⟨w.heap.size, 1, none⟩ = some (.bool true) ∧ w'.cell? ⟨w.heap.size, 2, none⟩ = some (.int .u8 0)) (first | exact HS'.out _ (by repeat (first | exact Below.refl _ _ | (refine Below.setCell ?_ (by first | omega | (simp; done) | (simp; omega)) _) | (refine Below.alloc ?_ (by first | omega | (simp; done) | (simp; omega)) _) | refine Below.drew ?_))) (fail)
    all_goals
      go_wp2_with fail
      go_meet
      refine ⟨_, _, rfl, rfl, ?_, ?_, ?_, ?_, ?_, ?_, ?_, ?_, ?_, ?_, ?_, ?_, ?_, (by repeat (first | exact Below.refl _ _ | (refine Below.setCell ?_ (by first | omega | (simp; done) | (simp; omega)) _) | (refine Below.alloc ?_ (by first | omega | (simp; done) | (simp; omega)) _) | refine Below.drew ?_))⟩
      all_goals first | omega | (go_simp; done) | (simp; done) | (simp; omega)
  case rest =>
    obtain ⟨g1, g2, rfl, rfl, hg1, hg2, hg3, hg4, hg5, x0, x1, x2, y0, y1, y2, fx, fy, hBx⟩ := hcut
    have hg5' : g2 ≠ g1 := fun h => hg5 h.symm
    have hSx := hBx.size
    have k0 : wc.cell? ⟨w.heap.size, 2, none⟩ = some (.int .u8 0) := (hBx.cell (p := ⟨w.heap.size, 2, none⟩) hz5_0).trans k5_2
    have k3 : wc.cell? ⟨w2.heap.size, 0, none⟩ = some (.int .u8 2) := (hBx.cell (p := ⟨w2.heap.size, 0, none⟩) hz5_1).trans k5_3
    have hB6 := hB5.trans (hBx.mono hS5)
    clear k5_0 k5_1 k5_2 k5_3 k5_4
    have hS6 := hB6.size
    go_wp2_with fail
    refine (pcells_any _ _ _ K T _ _ _ _ hn (hT.below' (by repeat (first | exact hB6 | exact Below.refl _ _ | (refine Below.setCell ?_ (by first | omega | (simp; done) | (simp; omega)) _) | (refine Below.alloc ?_ (by first | omega | (simp; done) | (simp; omega)) _) | refine Below.drew ?_))) (by omega)).mono ?_
    rintro e w7 ⟨rfl, hb7⟩
    have hB7 : Below w.heap.size w w7 := Below.call (by repeat (first | exact hB6 | exact Below.refl _ _ | (refine Below.setCell ?_ (by first | omega | (simp; done) | (simp; omega)) _) | (refine Below.alloc ?_ (by first | omega | (simp; done) | (simp; omega)) _) | refine Below.drew ?_)) hb7
    have hS7 : w.heap.size ≤ w7.heap.size := hB7.size
    obtain ⟨hc7, hf7⟩ := bcell hb7
    rw [G1.out.1, G1.out.2.1, G1.out.2.2]
    have hM7 := hb7.size
    simp only [World.setCell, Array.size_modify] at hM7
    have ha1 : w.heap.size ≠ g1 := by omega
    have ha2 : w.heap.size ≠ g2 := by omega
    have ha3 : w2.heap.size ≠ g1 := by omega
    have ha4 : w2.heap.size ≠ g2 := by omega
    have z0 : w7.cell? ⟨g2, 0, none⟩ = some (.int .i64 m) := by rw [hc7 _ _ (by first | omega | (simp; done) | (simp; omega))]; go_simp
    have z1 : w7.cell? ⟨g2, 1, none⟩ = some (.bool true) := by rw [hc7 _ _ (by first | omega | (simp; done) | (simp; omega))]; go_simp
    have z2 : w7.cell? ⟨g2, 2, none⟩ = some (.int .u8 2) := by rw [hc7 _ _ (by first | omega | (simp; done) | (simp; omega))]; go_simp
    have z3 : w7.cell? ⟨w.heap.size, 2, none⟩ = some (.int .u8 0) := by rw [hc7 _ _ (by first | omega | (simp; done) | (simp; omega))]; go_simp
    have z4 : w7.cell? ⟨w2.heap.size, 0, none⟩ = some (.int .u8 2) := by rw [hc7 _ _ (by first | omega | (simp; done) | (simp; omega))]; go_simp
    clear hc7 hf7 x0 x1 x2 y0 y1 y2 fx fy k0 k3
    have hz7_0 : w.heap.size < w7.heap.size := by omega
    have hz7_1 : w2.heap.size < w7.heap.size := by omega
    go_wp2_with fail
    refine (pcells_any _ _ _ K T _ _ _ _ hn (hT.below' (by repeat (first | exact hB7 | exact Below.refl _ _ | (refine Below.setCell ?_ (by first | omega | (simp; done) | (simp; omega)) _) | (refine Below.alloc ?_ (by first | omega | (simp; done) | (simp; omega)) _) | refine Below.drew ?_))) (by omega)).mono ?_
    rintro e w8 ⟨rfl, hb8⟩
    have hB8 : Below w.heap.size w w8 := Below.call (by repeat (first | exact hB7 | exact Below.refl _ _ | (refine Below.setCell ?_ (by first | omega | (simp; done) | (simp; omega)) _) | (refine Below.alloc ?_ (by first | omega | (simp; done) | (simp; omega)) _) | refine Below.drew ?_)) hb8
    have hS8 : w.heap.size ≤ w8.heap.size := hB8.size
    obtain ⟨hc8, hf8⟩ := bcell hb8
    rw [G2.out.1, G2.out.2.1, G2.out.2.2]
    have z5 : w8.cell? ⟨w.heap.size, 2, none⟩ = some (.int .u8 0) := by rw [hc8 _ _ (by first | omega | (simp; done) | (simp; omega))]; exact z3
    have z6 : w8.cell? ⟨w2.heap.size, 0, none⟩ = some (.int .u8 2) := by rw [hc8 _ _ (by first | omega | (simp; done) | (simp; omega))]; exact z4
    clear hc8 hf8 z0 z1 z2 z3 z4
    go_wp2
    go_ret
    exact ⟨rfl, (by repeat (first | exact hB8 | exact Below.refl _ _ | (refine Below.setCell ?_ (by first | omega | (simp; done) | (simp; omega)) _) | (refine Below.alloc ?_ (by first | omega | (simp; done) | (simp; omega)) _) | refine Below.drew ?_))⟩

set_option maxRecDepth 100000 in
set_option maxHeartbeats 8000000 in
theorem halves_true_1 (b off n cap m : Nat) (K T : Nat → Int) (k t s x a1 s1 a2 s2 : Int) (w : World) (hn : n ≤ maxLen) (hT : Types w (some ⟨b, off, none⟩) n K T) (h : n ≤ 30) (hk0 : 0 ≤ k) (hk1 : k ≤ 5) (ht0 : 0 ≤ t) (ht1 : t ≤ 2) (hq : (k != 2) = true)
    (H1 : Hid (ptE n K T m true 0 = 0)) (H2 : Hid (ptK n K T m true 0 = k)) (H3 : Hid (ptT n K T m true 0 = t)) (H4 : Hid (pcA n K T m true 0 = 0)) (H5 : Hid (pcS n K T m true 0 = s)) (H6 : Hid (sizeV k t = s ∧ chk k t = 0 ∧ tgtE k t = 6))
    (G1 : Hid (ptE n K T m true 1 = 42 ∧ pcA n K T m true 1 = a1 ∧ pcS n K T m true 1 = s1)) (G2 : Hid (ptE n K T m true 2 = 42 ∧ pcA n K T m true 2 = a2 ∧ pcS n K T m true 2 = s2)) :
    Calls Try.prog 3 #[.slice (some ⟨b, off, none⟩) n cap, .agg #[.int .i64 m, .bool true, .int .u8 0]] w (Ret w (.bool true)) := by
  have hl := hn
  unfold maxLen at hl
  go_enter Try.func3, Try.ntmps3
  go_wp2_with fail
  refine (palive_any _).mono ?_
  rintro e w1 ⟨rfl, hb1⟩
  have hB1 : Below w.heap.size w w1 := Below.call (by repeat (first | exact Below.refl _ _ | (refine Below.setCell ?_ (by first | omega | (simp; done) | (simp; omega)) _) | (refine Below.alloc ?_ (by first | omega | (simp; done) | (simp; omega)) _) | refine Below.drew ?_)) hb1
  have hS1 : w.heap.size ≤ w1.heap.size := hB1.size
  obtain ⟨hc1, hf1⟩ := bcell hb1
  have hz1_0 : w.heap.size < w1.heap.size := by have := hb1.size; first | omega | (simp at this; omega)
  have k1_0 : w1.cell? ⟨w.heap.size, 0, none⟩ = some (.int .i64 m) := by go_simp
  have k1_1 : w1.cell? ⟨w.heap.size, 1, none⟩ = some (.bool true) := by go_simp
  have k1_2 : w1.cell? ⟨w.heap.size, 2, none⟩ = some (.int .u8 0) := by go_simp
  clear hc1 hf1 
  go_wp2_with fail
  refine (ptype_any _ _ _ K T _ _ _ _ hn (hT.below' (by repeat (first | exact hB1 | exact Below.refl _ _ | (refine Below.setCell ?_ (by first | omega | (simp; done) | (simp; omega)) _) | (refine Below.alloc ?_ (by first | omega | (simp; done) | (simp; omega)) _) | refine Below.drew ?_))) (by omega)).mono ?_
  rintro e w2 ⟨rfl, hb2⟩
  have hB2 : Below w.heap.size w w2 := Below.call (by repeat (first | exact hB1 | exact Below.refl _ _ | (refine Below.setCell ?_ (by first | omega | (simp; done) | (simp; omega)) _) | (refine Below.alloc ?_ (by first | omega | (simp; done) | (simp; omega)) _) | refine Below.drew ?_)) hb2
  have hS2 : w.heap.size ≤ w2.heap.size := hB2.size
  obtain ⟨hc2, hf2⟩ := bcell hb2
  have hz2_0 : w.heap.size < w2.heap.size := by have := hb2.size; first | omega | (simp at this; omega)
  rw [H1.out, H2.out, H3.out]
  have k2_0 : w2.cell? ⟨w.heap.size, 0, none⟩ = some (.int .i64 m) := by go_simp
  have k2_1 : w2.cell? ⟨w.heap.size, 1, none⟩ = some (.bool true) := by go_simp
  have k2_2 : w2.cell? ⟨w.heap.size, 2, none⟩ = some (.int .u8 0) := by go_simp
  clear hc2 hf2 k1_0 k1_1 k1_2
  go_wp2_with fail
  refine (pcells_any _ _ _ K T _ _ _ _ hn (hT.below' (by repeat (first | exact hB2 | exact Below.refl _ _ | (refine Below.setCell ?_ (by first | omega | (simp; done) | (simp; omega)) _) | (refine Below.alloc ?_ (by first | omega | (simp; done) | (simp; omega)) _) | refine Below.drew ?_))) (by omega)).mono ?_
  rintro e w3 ⟨rfl, hb3⟩
  have hB3 : Below w.heap.size w w3 := Below.call (by repeat (first | exact hB2 | exact Below.refl _ _ | (refine Below.setCell ?_ (by first | omega | (simp; done) | (simp; omega)) _) | (refine Below.alloc ?_ (by first | omega | (simp; done) | (simp; omega)) _) | refine Below.drew ?_)) hb3
  have hS3 : w.heap.size ≤ w3.heap.size := hB3.size
  obtain ⟨hc3, hf3⟩ := bcell hb3
  have hz3_0 : w.heap.size < w3.heap.size := by have := hb3.size; first | omega | (simp at this; omega)
  have hz3_1 : w2.heap.size < w3.heap.size := by have := hb3.size; first | omega | (simp at this; omega)
  rw [H1.out, H4.out, H5.out]
  have k3_0 : w3.cell? ⟨w.heap.size, 0, none⟩ = some (.int .i64 m) := by go_simp
  have k3_1 : w3.cell? ⟨w.heap.size, 1, none⟩ = some (.bool true) := by go_simp
  have k3_2 : w3.cell? ⟨w.heap.size, 2, none⟩ = some (.int .u8 0) := by go_simp
  have k3_3 : w3.cell? ⟨w2.heap.size, 0, none⟩ = some (.int .u8 k) := by go_simp
  have k3_4 : w3.cell? ⟨w2.heap.size, 1, none⟩ = some (.int .u8 t) := by go_simp
  clear hc3 hf3 k2_0 k2_1 k2_2
  go_wp2_with fail
  refine (size_any k t _ (by omega) (by omega) (by omega) (by omega)).mono ?_
  rintro e w4 ⟨rfl, hb4⟩
  have hB4 : Below w.heap.size w w4 := Below.call (by repeat (first | exact hB3 | exact Below.refl _ _ | (refine Below.setCell ?_ (by first | omega | (simp; done) | (simp; omega)) _) | (refine Below.alloc ?_ (by first | omega | (simp; done) | (simp; omega)) _) | refine Below.drew ?_)) hb4
  have hS4 : w.heap.size ≤ w4.heap.size := hB4.size
  obtain ⟨hc4, hf4⟩ := bcell hb4
  have hz4_0 : w.heap.size < w4.heap.size := by have := hb4.size; first | omega | (simp at this; omega)
  have hz4_1 : w2.heap.size < w4.heap.size := by have := hb4.size; first | omega | (simp at this; omega)
  rw [H6.out.1, H6.out.2.1]
  have k4_0 : w4.cell? ⟨w.heap.size, 0, none⟩ = some (.int .i64 m) := by go_simp
  have k4_1 : w4.cell? ⟨w.heap.size, 1, none⟩ = some (.bool true) := by go_simp
  have k4_2 : w4.cell? ⟨w.heap.size, 2, none⟩ = some (.int .u8 0) := by go_simp
  have k4_3 : w4.cell? ⟨w2.heap.size, 0, none⟩ = some (.int .u8 k) := by go_simp
  have k4_4 : w4.cell? ⟨w2.heap.size, 1, none⟩ = some (.int .u8 t) := by go_simp
  clear hc4 hf4 k3_0 k3_1 k3_2 k3_3 k3_4
  go_wp2_with fail
  refine (target_any k t _ (by omega) (by omega) (by omega) (by omega)).mono ?_
  rintro e w5 ⟨rfl, hb5⟩
  have hB5 : Below w.heap.size w w5 := Below.call (by repeat (first | exact hB4 | exact Below.refl _ _ | (refine Below.setCell ?_ (by first | omega | (simp; done) | (simp; omega)) _) | (refine Below.alloc ?_ (by first | omega | (simp; done) | (simp; omega)) _) | refine Below.drew ?_)) hb5
  have hS5 : w.heap.size ≤ w5.heap.size := hB5.size
  obtain ⟨hc5, hf5⟩ := bcell hb5
  have hz5_0 : w.heap.size < w5.heap.size := by have := hb5.size; first | omega | (simp at this; omega)
  have hz5_1 : w2.heap.size < w5.heap.size := by have := hb5.size; first | omega | (simp at this; omega)
  rw [H6.out.2.2]
  have k5_0 : w5.cell? ⟨w.heap.size, 0, none⟩ = some (.int .i64 m) := by go_simp
  have k5_1 : w5.cell? ⟨w.heap.size, 1, none⟩ = some (.bool true) := by go_simp
  have k5_2 : w5.cell? ⟨w.heap.size, 2, none⟩ = some (.int .u8 0) := by go_simp
  have k5_3 : w5.cell? ⟨w2.heap.size, 0, none⟩ = some (.int .u8 k) := by go_simp
  have k5_4 : w5.cell? ⟨w2.heap.size, 1, none⟩ = some (.int .u8 t) := by go_simp
  clear hc5 hf5 k4_0 k4_1 k4_2 k4_3 k4_4
  go_upto_region 14 with fail
  go_cut [15, 16] (fun s15 s16 wx => ∃ g1 g2 : Nat, s15 = .pointer (some ⟨g1, 0, none⟩) ∧ s16 = .pointer (some ⟨g2, 0, none⟩) ∧ w5.heap.size < g1 ∧ w5.heap.size < g2 ∧ g1 < wx.heap.size ∧ g2 < wx.heap.size ∧ g1 ≠ g2 ∧
    wx.cell? ⟨g1, 0, none⟩ = some (.int .i64 m) ∧ wx.cell? ⟨g1, 1, none⟩ = some (.bool true) ∧ wx.cell? ⟨g1, 2, none⟩ = some (.int .u8 0) ∧ wx.cell? ⟨g2, 0, none⟩ = some (.int .i64 m) ∧ wx.cell? ⟨g2, 1, none⟩ = some (.bool true) ∧ wx.cell? ⟨g2, 2, none⟩ = some (.int .u8 0) ∧ wx.frozen? ⟨g1, 2, none⟩ = false ∧ wx.frozen? ⟨g2, 2, none⟩ = false ∧ Below w5.heap.size w5 wx)
  case first =>
    have HS : ∀ W' : World, Below w5.heap.size w5 W' → W'.cell? ⟨w.heap.size, 0, none⟩ = some (.int .i64 m) ∧ W'.cell? ⟨w.heap.size, 1, none⟩ = some (.bool true) ∧ W'.cell? ⟨w.heap.size, 2, none⟩ = some (.int .u8 0) := fun W' hb => ⟨(hb.cell (p := ⟨_, _, none⟩) hz5_0).trans k5_0, (hb.cell (p := ⟨_, _, none⟩) hz5_0).trans k5_1, (hb.cell (p := ⟨_, _, none⟩) hz5_0).trans k5_2⟩
    have HS' := Lib.hid HS
    clear HS
    go_region_held3 (fun w' => w'.cell? ⟨w.heap.size, 0, none⟩ = some (.int .i64 m) ∧ w'.cell? ⟨w.heap.size, 1, none⟩ = some (.bool true) ∧ w'.cell? ⟨w.heap.size, 2, none⟩ = some (.int .u8 0)) (first | exact HS'.out _ (by repeat (first | exact Below.refl _ _ | (refine Below.setCell ?_ (by first | omega | (simp; done) | (simp; omega)) _) | (refine Below.alloc ?_ (by first | omega | (simp; done) | (simp; omega)) _) | refine Below.drew ?_))) (fail)
    all_goals
      go_wp2_with fail
      go_meet
      refine ⟨_, _, rfl, rfl, ?_, ?_, ?_, ?_, ?_, ?_, ?_, ?_, ?_, ?_, ?_, ?_, ?_, (by repeat (first | exact Below.refl _ _ | (refine Below.setCell ?_ (by first | omega | (simp; done) | (simp; omega)) _) | (refine Below.alloc ?_ (by first | omega | (simp; done) | (simp; omega)) _) | refine Below.drew ?_))⟩
      all_goals first | omega | (go_simp; done) | (simp; done) | (simp; omega)
  case rest =>
    obtain ⟨g1, g2, rfl, rfl, hg1, hg2, hg3, hg4, hg5, x0, x1, x2, y0, y1, y2, fx, fy, hBx⟩ := hcut
    have hg5' : g2 ≠ g1 := fun h => hg5 h.symm
    have hSx := hBx.size
    have k0 : wc.cell? ⟨w.heap.size, 2, none⟩ = some (.int .u8 0) := (hBx.cell (p := ⟨w.heap.size, 2, none⟩) hz5_0).trans k5_2
    have k3 : wc.cell? ⟨w2.heap.size, 0, none⟩ = some (.int .u8 k) := (hBx.cell (p := ⟨w2.heap.size, 0, none⟩) hz5_1).trans k5_3
    have hB6 := hB5.trans (hBx.mono hS5)
    clear k5_0 k5_1 k5_2 k5_3 k5_4
    have hS6 := hB6.size
    go_wp2_with fail
    refine (pcells_any _ _ _ K T _ _ _ _ hn (hT.below' (by repeat (first | exact hB6 | exact Below.refl _ _ | (refine Below.setCell ?_ (by first | omega | (simp; done) | (simp; omega)) _) | (refine Below.alloc ?_ (by first | omega | (simp; done) | (simp; omega)) _) | refine Below.drew ?_))) (by omega)).mono ?_
    rintro e w7 ⟨rfl, hb7⟩
    have hB7 : Below w.heap.size w w7 := Below.call (by repeat (first | exact hB6 | exact Below.refl _ _ | (refine Below.setCell ?_ (by first | omega | (simp; done) | (simp; omega)) _) | (refine Below.alloc ?_ (by first | omega | (simp; done) | (simp; omega)) _) | refine Below.drew ?_)) hb7
    have hS7 : w.heap.size ≤ w7.heap.size := hB7.size
    obtain ⟨hc7, hf7⟩ := bcell hb7
    rw [G1.out.1, G1.out.2.1, G1.out.2.2]
    have hM7 := hb7.size
    simp only [World.setCell, Array.size_modify] at hM7
    have ha1 : w.heap.size ≠ g1 := by omega
    have ha2 : w.heap.size ≠ g2 := by omega
    have ha3 : w2.heap.size ≠ g1 := by omega
    have ha4 : w2.heap.size ≠ g2 := by omega
    have z0 : w7.cell? ⟨g2, 0, none⟩ = some (.int .i64 m) := by rw [hc7 _ _ (by first | omega | (simp; done) | (simp; omega))]; go_simp
    have z1 : w7.cell? ⟨g2, 1, none⟩ = some (.bool true) := by rw [hc7 _ _ (by first | omega | (simp; done) | (simp; omega))]; go_simp
    have z2 : w7.cell? ⟨g2, 2, none⟩ = some (.int .u8 2) := by rw [hc7 _ _ (by first | omega | (simp; done) | (simp; omega))]; go_simp
    have z3 : w7.cell? ⟨w.heap.size, 2, none⟩ = some (.int .u8 0) := by rw [hc7 _ _ (by first | omega | (simp; done) | (simp; omega))]; go_simp
    have z4 : w7.cell? ⟨w2.heap.size, 0, none⟩ = some (.int .u8 k) := by rw [hc7 _ _ (by first | omega | (simp; done) | (simp; omega))]; go_simp
    clear hc7 hf7 x0 x1 x2 y0 y1 y2 fx fy k0 k3
    have hz7_0 : w.heap.size < w7.heap.size := by omega
    have hz7_1 : w2.heap.size < w7.heap.size := by omega
    go_wp2_with fail
    refine (pcells_any _ _ _ K T _ _ _ _ hn (hT.below' (by repeat (first | exact hB7 | exact Below.refl _ _ | (refine Below.setCell ?_ (by first | omega | (simp; done) | (simp; omega)) _) | (refine Below.alloc ?_ (by first | omega | (simp; done) | (simp; omega)) _) | refine Below.drew ?_))) (by omega)).mono ?_
    rintro e w8 ⟨rfl, hb8⟩
    have hB8 : Below w.heap.size w w8 := Below.call (by repeat (first | exact hB7 | exact Below.refl _ _ | (refine Below.setCell ?_ (by first | omega | (simp; done) | (simp; omega)) _) | (refine Below.alloc ?_ (by first | omega | (simp; done) | (simp; omega)) _) | refine Below.drew ?_)) hb8
    have hS8 : w.heap.size ≤ w8.heap.size := hB8.size
    obtain ⟨hc8, hf8⟩ := bcell hb8
    rw [G2.out.1, G2.out.2.1, G2.out.2.2]
    have z5 : w8.cell? ⟨w.heap.size, 2, none⟩ = some (.int .u8 0) := by rw [hc8 _ _ (by first | omega | (simp; done) | (simp; omega))]; exact z3
    have z6 : w8.cell? ⟨w2.heap.size, 0, none⟩ = some (.int .u8 k) := by rw [hc8 _ _ (by first | omega | (simp; done) | (simp; omega))]; exact z4
    clear hc8 hf8 z0 z1 z2 z3 z4
    go_wp2
    go_ret
    exact ⟨rfl, (by repeat (first | exact hB8 | exact Below.refl _ _ | (refine Below.setCell ?_ (by first | omega | (simp; done) | (simp; omega)) _) | (refine Below.alloc ?_ (by first | omega | (simp; done) | (simp; omega)) _) | refine Below.drew ?_))⟩

set_option maxRecDepth 100000 in
set_option maxHeartbeats 8000000 in
theorem halves_true_2 (b off n cap m : Nat) (K T : Nat → Int) (k t s x a1 s1 a2 s2 : Int) (w : World) (hn : n ≤ maxLen) (hT : Types w (some ⟨b, off, none⟩) n K T) (h : n ≤ 30) (hk0 : 0 ≤ k) (hk1 : k ≤ 5) (ht0 : 0 ≤ t) (ht1 : t ≤ 2)
    (H1 : Hid (ptE n K T m true 1 = 0)) (H2 : Hid (ptK n K T m true 1 = 1)) (H3 : Hid (ptT n K T m true 1 = t)) (H4 : Hid (pcA n K T m true 1 = 0)) (H5 : Hid (pcS n K T m true 1 = 1)) (H6 : Hid (sizeV 1 t = 1 ∧ chk 1 t = 0 ∧ tgtE 1 t = 6))
    (G1 : Hid (ptE n K T m true 1 = 0 ∧ pcA n K T m true 1 = 0 ∧ pcS n K T m true 1 = 1)) (G2 : Hid (ptE n K T m true 2 = 0 ∧ pcA n K T m true 2 = 1 ∧ pcS n K T m true 2 = 1)) :
    Calls Try.prog 3 #[.slice (some ⟨b, off, none⟩) n cap, .agg #[.int .i64 m, .bool true, .int .u8 1]] w (Ret w (.bool true)) := by
  have hl := hn
  unfold maxLen at hl
  go_enter Try.func3, Try.ntmps3
  go_wp2_with fail
  refine (palive_any _).mono ?_
  rintro e w1 ⟨rfl, hb1⟩
  have hB1 : Below w.heap.size w w1 := Below.call (by repeat (first | exact Below.refl _ _ | (refine Below.setCell ?_ (by first | omega | (simp; done) | (simp; omega)) _) | (refine Below.alloc ?_ (by first | omega | (simp; done) | (simp; omega)) _) | refine Below.drew ?_)) hb1
  have hS1 : w.heap.size ≤ w1.heap.size := hB1.size
  obtain ⟨hc1, hf1⟩ := bcell hb1
  have hz1_0 : w.heap.size < w1.heap.size := by have := hb1.size; first | omega | (simp at this; omega)
  have k1_0 : w1.cell? ⟨w.heap.size, 0, none⟩ = some (.int .i64 m) := by go_simp
  have k1_1 : w1.cell? ⟨w.heap.size, 1, none⟩ = some (.bool true) := by go_simp
  have k1_2 : w1.cell? ⟨w.heap.size, 2, none⟩ = some (.int .u8 1) := by go_simp
  clear hc1 hf1 
  go_wp2_with fail
  refine (ptype_any _ _ _ K T _ _ _ _ hn (hT.below' (by repeat (first | exact hB1 | exact Below.refl _ _ | (refine Below.setCell ?_ (by first | omega | (simp; done) | (simp; omega)) _) | (refine Below.alloc ?_ (by first | omega | (simp; done) | (simp; omega)) _) | refine Below.drew ?_))) (by omega)).mono ?_
  rintro e w2 ⟨rfl, hb2⟩
  have hB2 : Below w.heap.size w w2 := Below.call (by repeat (first | exact hB1 | exact Below.refl _ _ | (refine Below.setCell ?_ (by first | omega | (simp; done) | (simp; omega)) _) | (refine Below.alloc ?_ (by first | omega | (simp; done) | (simp; omega)) _) | refine Below.drew ?_)) hb2
  have hS2 : w.heap.size ≤ w2.heap.size := hB2.size
  obtain ⟨hc2, hf2⟩ := bcell hb2
  have hz2_0 : w.heap.size < w2.heap.size := by have := hb2.size; first | omega | (simp at this; omega)
  rw [H1.out, H2.out, H3.out]
  have k2_0 : w2.cell? ⟨w.heap.size, 0, none⟩ = some (.int .i64 m) := by go_simp
  have k2_1 : w2.cell? ⟨w.heap.size, 1, none⟩ = some (.bool true) := by go_simp
  have k2_2 : w2.cell? ⟨w.heap.size, 2, none⟩ = some (.int .u8 1) := by go_simp
  clear hc2 hf2 k1_0 k1_1 k1_2
  go_wp2_with fail
  refine (pcells_any _ _ _ K T _ _ _ _ hn (hT.below' (by repeat (first | exact hB2 | exact Below.refl _ _ | (refine Below.setCell ?_ (by first | omega | (simp; done) | (simp; omega)) _) | (refine Below.alloc ?_ (by first | omega | (simp; done) | (simp; omega)) _) | refine Below.drew ?_))) (by omega)).mono ?_
  rintro e w3 ⟨rfl, hb3⟩
  have hB3 : Below w.heap.size w w3 := Below.call (by repeat (first | exact hB2 | exact Below.refl _ _ | (refine Below.setCell ?_ (by first | omega | (simp; done) | (simp; omega)) _) | (refine Below.alloc ?_ (by first | omega | (simp; done) | (simp; omega)) _) | refine Below.drew ?_)) hb3
  have hS3 : w.heap.size ≤ w3.heap.size := hB3.size
  obtain ⟨hc3, hf3⟩ := bcell hb3
  have hz3_0 : w.heap.size < w3.heap.size := by have := hb3.size; first | omega | (simp at this; omega)
  have hz3_1 : w2.heap.size < w3.heap.size := by have := hb3.size; first | omega | (simp at this; omega)
  rw [H1.out, H4.out, H5.out]
  have k3_0 : w3.cell? ⟨w.heap.size, 0, none⟩ = some (.int .i64 m) := by go_simp
  have k3_1 : w3.cell? ⟨w.heap.size, 1, none⟩ = some (.bool true) := by go_simp
  have k3_2 : w3.cell? ⟨w.heap.size, 2, none⟩ = some (.int .u8 1) := by go_simp
  have k3_3 : w3.cell? ⟨w2.heap.size, 0, none⟩ = some (.int .u8 1) := by go_simp
  have k3_4 : w3.cell? ⟨w2.heap.size, 1, none⟩ = some (.int .u8 t) := by go_simp
  clear hc3 hf3 k2_0 k2_1 k2_2
  go_wp2_with fail
  refine (size_any 1 t _ (by omega) (by omega) (by omega) (by omega)).mono ?_
  rintro e w4 ⟨rfl, hb4⟩
  have hB4 : Below w.heap.size w w4 := Below.call (by repeat (first | exact hB3 | exact Below.refl _ _ | (refine Below.setCell ?_ (by first | omega | (simp; done) | (simp; omega)) _) | (refine Below.alloc ?_ (by first | omega | (simp; done) | (simp; omega)) _) | refine Below.drew ?_)) hb4
  have hS4 : w.heap.size ≤ w4.heap.size := hB4.size
  obtain ⟨hc4, hf4⟩ := bcell hb4
  have hz4_0 : w.heap.size < w4.heap.size := by have := hb4.size; first | omega | (simp at this; omega)
  have hz4_1 : w2.heap.size < w4.heap.size := by have := hb4.size; first | omega | (simp at this; omega)
  rw [H6.out.1, H6.out.2.1]
  have k4_0 : w4.cell? ⟨w.heap.size, 0, none⟩ = some (.int .i64 m) := by go_simp
  have k4_1 : w4.cell? ⟨w.heap.size, 1, none⟩ = some (.bool true) := by go_simp
  have k4_2 : w4.cell? ⟨w.heap.size, 2, none⟩ = some (.int .u8 1) := by go_simp
  have k4_3 : w4.cell? ⟨w2.heap.size, 0, none⟩ = some (.int .u8 1) := by go_simp
  have k4_4 : w4.cell? ⟨w2.heap.size, 1, none⟩ = some (.int .u8 t) := by go_simp
  clear hc4 hf4 k3_0 k3_1 k3_2 k3_3 k3_4
  go_wp2_with fail
  refine (target_any 1 t _ (by omega) (by omega) (by omega) (by omega)).mono ?_
  rintro e w5 ⟨rfl, hb5⟩
  have hB5 : Below w.heap.size w w5 := Below.call (by repeat (first | exact hB4 | exact Below.refl _ _ | (refine Below.setCell ?_ (by first | omega | (simp; done) | (simp; omega)) _) | (refine Below.alloc ?_ (by first | omega | (simp; done) | (simp; omega)) _) | refine Below.drew ?_)) hb5
  have hS5 : w.heap.size ≤ w5.heap.size := hB5.size
  obtain ⟨hc5, hf5⟩ := bcell hb5
  have hz5_0 : w.heap.size < w5.heap.size := by have := hb5.size; first | omega | (simp at this; omega)
  have hz5_1 : w2.heap.size < w5.heap.size := by have := hb5.size; first | omega | (simp at this; omega)
  rw [H6.out.2.2]
  have k5_0 : w5.cell? ⟨w.heap.size, 0, none⟩ = some (.int .i64 m) := by go_simp
  have k5_1 : w5.cell? ⟨w.heap.size, 1, none⟩ = some (.bool true) := by go_simp
  have k5_2 : w5.cell? ⟨w.heap.size, 2, none⟩ = some (.int .u8 1) := by go_simp
  have k5_3 : w5.cell? ⟨w2.heap.size, 0, none⟩ = some (.int .u8 1) := by go_simp
  have k5_4 : w5.cell? ⟨w2.heap.size, 1, none⟩ = some (.int .u8 t) := by go_simp
  clear hc5 hf5 k4_0 k4_1 k4_2 k4_3 k4_4
  go_upto_region 14 with fail
  go_cut [15, 16] (fun s15 s16 wx => ∃ g1 g2 : Nat, s15 = .pointer (some ⟨g1, 0, none⟩) ∧ s16 = .pointer (some ⟨g2, 0, none⟩) ∧ w5.heap.size < g1 ∧ w5.heap.size < g2 ∧ g1 < wx.heap.size ∧ g2 < wx.heap.size ∧ g1 ≠ g2 ∧
    wx.cell? ⟨g1, 0, none⟩ = some (.int .i64 m) ∧ wx.cell? ⟨g1, 1, none⟩ = some (.bool true) ∧ wx.cell? ⟨g1, 2, none⟩ = some (.int .u8 1) ∧ wx.cell? ⟨g2, 0, none⟩ = some (.int .i64 m) ∧ wx.cell? ⟨g2, 1, none⟩ = some (.bool true) ∧ wx.cell? ⟨g2, 2, none⟩ = some (.int .u8 1) ∧ wx.frozen? ⟨g1, 2, none⟩ = false ∧ wx.frozen? ⟨g2, 2, none⟩ = false ∧ Below w5.heap.size w5 wx)
  case first =>
    have HS : ∀ W' : World, Below w5.heap.size w5 W' → W'.cell? ⟨w.heap.size, 0, none⟩ = some (.int .i64 m) ∧ W'.cell? ⟨w.heap.size, 1, none⟩ = some (.bool true) ∧ W'.cell? ⟨w.heap.size, 2, none⟩ = some (.int .u8 1) := fun W' hb => ⟨(hb.cell (p := ⟨_, _, none⟩) hz5_0).trans k5_0, (hb.cell (p := ⟨_, _, none⟩) hz5_0).trans k5_1, (hb.cell (p := ⟨_, _, none⟩) hz5_0).trans k5_2⟩
    have HS' := Lib.hid HS
    clear HS
    go_region_held3 (fun w' => w'.cell? ⟨w.heap.size, 0, none⟩ = some (.int .i64 m) ∧ w'.cell? ⟨w.heap.size, 1, none⟩ = some (.bool true) ∧ w'.cell? ⟨w.heap.size, 2, none⟩ = some (.int .u8 1)) (first | exact HS'.out _ (by repeat (first | exact Below.refl _ _ | (refine Below.setCell ?_ (by first | omega | (simp; done) | (simp; omega)) _) | (refine Below.alloc ?_ (by first | omega | (simp; done) | (simp; omega)) _) | refine Below.drew ?_))) (fail)
    all_goals
      go_wp2_with fail
      go_meet
      refine ⟨_, _, rfl, rfl, ?_, ?_, ?_, ?_, ?_, ?_, ?_, ?_, ?_, ?_, ?_, ?_, ?_, (by repeat (first | exact Below.refl _ _ | (refine Below.setCell ?_ (by first | omega | (simp; done) | (simp; omega)) _) | (refine Below.alloc ?_ (by first | omega | (simp; done) | (simp; omega)) _) | refine Below.drew ?_))⟩
      all_goals first | omega | (go_simp; done) | (simp; done) | (simp; omega)
  case rest =>
    obtain ⟨g1, g2, rfl, rfl, hg1, hg2, hg3, hg4, hg5, x0, x1, x2, y0, y1, y2, fx, fy, hBx⟩ := hcut
    have hg5' : g2 ≠ g1 := fun h => hg5 h.symm
    have hSx := hBx.size
    have k0 : wc.cell? ⟨w.heap.size, 2, none⟩ = some (.int .u8 1) := (hBx.cell (p := ⟨w.heap.size, 2, none⟩) hz5_0).trans k5_2
    have k3 : wc.cell? ⟨w2.heap.size, 0, none⟩ = some (.int .u8 1) := (hBx.cell (p := ⟨w2.heap.size, 0, none⟩) hz5_1).trans k5_3
    have hB6 := hB5.trans (hBx.mono hS5)
    clear k5_0 k5_1 k5_2 k5_3 k5_4
    have hS6 := hB6.size
    go_wp2_with fail
    refine (pcells_any _ _ _ K T _ _ _ _ hn (hT.below' (by repeat (first | exact hB6 | exact Below.refl _ _ | (refine Below.setCell ?_ (by first | omega | (simp; done) | (simp; omega)) _) | (refine Below.alloc ?_ (by first | omega | (simp; done) | (simp; omega)) _) | refine Below.drew ?_))) (by omega)).mono ?_
    rintro e w7 ⟨rfl, hb7⟩
    have hB7 : Below w.heap.size w w7 := Below.call (by repeat (first | exact hB6 | exact Below.refl _ _ | (refine Below.setCell ?_ (by first | omega | (simp; done) | (simp; omega)) _) | (refine Below.alloc ?_ (by first | omega | (simp; done) | (simp; omega)) _) | refine Below.drew ?_)) hb7
    have hS7 : w.heap.size ≤ w7.heap.size := hB7.size
    obtain ⟨hc7, hf7⟩ := bcell hb7
    rw [G1.out.1, G1.out.2.1, G1.out.2.2]
    have hM7 := hb7.size
    simp only [World.setCell, Array.size_modify] at hM7
    have ha1 : w.heap.size ≠ g1 := by omega
    have ha2 : w.heap.size ≠ g2 := by omega
    have ha3 : w2.heap.size ≠ g1 := by omega
    have ha4 : w2.heap.size ≠ g2 := by omega
    have z0 : w7.cell? ⟨g2, 0, none⟩ = some (.int .i64 m) := by rw [hc7 _ _ (by first | omega | (simp; done) | (simp; omega))]; go_simp
    have z1 : w7.cell? ⟨g2, 1, none⟩ = some (.bool true) := by rw [hc7 _ _ (by first | omega | (simp; done) | (simp; omega))]; go_simp
    have z2 : w7.cell? ⟨g2, 2, none⟩ = some (.int .u8 2) := by rw [hc7 _ _ (by first | omega | (simp; done) | (simp; omega))]; go_simp
    have z3 : w7.cell? ⟨w.heap.size, 2, none⟩ = some (.int .u8 1) := by rw [hc7 _ _ (by first | omega | (simp; done) | (simp; omega))]; go_simp
    have z4 : w7.cell? ⟨w2.heap.size, 0, none⟩ = some (.int .u8 1) := by rw [hc7 _ _ (by first | omega | (simp; done) | (simp; omega))]; go_simp
    clear hc7 hf7 x0 x1 x2 y0 y1 y2 fx fy k0 k3
    have hz7_0 : w.heap.size < w7.heap.size := by omega
    have hz7_1 : w2.heap.size < w7.heap.size := by omega
    go_wp2_with fail
    refine (pcells_any _ _ _ K T _ _ _ _ hn (hT.below' (by repeat (first | exact hB7 | exact Below.refl _ _ | (refine Below.setCell ?_ (by first | omega | (simp; done) | (simp; omega)) _) | (refine Below.alloc ?_ (by first | omega | (simp; done) | (simp; omega)) _) | refine Below.drew ?_))) (by omega)).mono ?_
    rintro e w8 ⟨rfl, hb8⟩
    have hB8 : Below w.heap.size w w8 := Below.call (by repeat (first | exact hB7 | exact Below.refl _ _ | (refine Below.setCell ?_ (by first | omega | (simp; done) | (simp; omega)) _) | (refine Below.alloc ?_ (by first | omega | (simp; done) | (simp; omega)) _) | refine Below.drew ?_)) hb8
    have hS8 : w.heap.size ≤ w8.heap.size := hB8.size
    obtain ⟨hc8, hf8⟩ := bcell hb8
    rw [G2.out.1, G2.out.2.1, G2.out.2.2]
    have z5 : w8.cell? ⟨w.heap.size, 2, none⟩ = some (.int .u8 1) := by rw [hc8 _ _ (by first | omega | (simp; done) | (simp; omega))]; exact z3
    have z6 : w8.cell? ⟨w2.heap.size, 0, none⟩ = some (.int .u8 1) := by rw [hc8 _ _ (by first | omega | (simp; done) | (simp; omega))]; exact z4
    clear hc8 hf8 z0 z1 z2 z3 z4
    go_wp2
    go_ret
    exact ⟨rfl, (by repeat (first | exact hB8 | exact Below.refl _ _ | (refine Below.setCell ?_ (by first | omega | (simp; done) | (simp; omega)) _) | (refine Below.alloc ?_ (by first | omega | (simp; done) | (simp; omega)) _) | refine Below.drew ?_))⟩

set_option maxRecDepth 100000 in
set_option maxHeartbeats 8000000 in
theorem halves_true_3 (b off n cap m : Nat) (K T : Nat → Int) (k t s x a1 s1 a2 s2 : Int) (w : World) (hn : n ≤ maxLen) (hT : Types w (some ⟨b, off, none⟩) n K T) (h : n ≤ 30) (hk0 : 0 ≤ k) (hk1 : k ≤ 5) (ht0 : 0 ≤ t) (ht1 : t ≤ 2)
    (H1 : Hid (ptE n K T m true 2 = 0)) (H2 : Hid (ptK n K T m true 2 = 1)) (H3 : Hid (ptT n K T m true 2 = t)) (H4 : Hid (pcA n K T m true 2 = 1)) (H5 : Hid (pcS n K T m true 2 = 1)) (H6 : Hid (sizeV 1 t = 1 ∧ chk 1 t = 0 ∧ tgtE 1 t = 6))
    (G1 : Hid (ptE n K T m true 1 = 0 ∧ pcA n K T m true 1 = 0 ∧ pcS n K T m true 1 = 1)) (G2 : Hid (ptE n K T m true 2 = 0 ∧ pcA n K T m true 2 = 1 ∧ pcS n K T m true 2 = 1)) :
    Calls Try.prog 3 #[.slice (some ⟨b, off, none⟩) n cap, .agg #[.int .i64 m, .bool true, .int .u8 2]] w (Ret w (.bool true)) := by
  have hl := hn
  unfold maxLen at hl
  go_enter Try.func3, Try.ntmps3
  go_wp2_with fail
  refine (palive_any _).mono ?_
  rintro e w1 ⟨rfl, hb1⟩
  have hB1 : Below w.heap.size w w1 := Below.call (by repeat (first | exact Below.refl _ _ | (refine Below.setCell ?_ (by first | omega | (simp; done) | (simp; omega)) _) | (refine Below.alloc ?_ (by first | omega | (simp; done) | (simp; omega)) _) | refine Below.drew ?_)) hb1
  have hS1 : w.heap.size ≤ w1.heap.size := hB1.size
  obtain ⟨hc1, hf1⟩ := bcell hb1
  have hz1_0 : w.heap.size < w1.heap.size := by have := hb1.size; first | omega | (simp at this; omega)
  have k1_0 : w1.cell? ⟨w.heap.size, 0, none⟩ = some (.int .i64 m) := by go_simp
  have k1_1 : w1.cell? ⟨w.heap.size, 1, none⟩ = some (.bool true) := by go_simp
  have k1_2 : w1.cell? ⟨w.heap.size, 2, none⟩ = some (.int .u8 2) := by go_simp
  clear hc1 hf1 
  go_wp2_with fail
  refine (ptype_any _ _ _ K T _ _ _ _ hn (hT.below' (by repeat (first | exact hB1 | exact Below.refl _ _ | (refine Below.setCell ?_ (by first | omega | (simp; done) | (simp; omega)) _) | (refine Below.alloc ?_ (by first | omega | (simp; done) | (simp; omega)) _) | refine Below.drew ?_))) (by omega)).mono ?_
  rintro e w2 ⟨rfl, hb2⟩
  have hB2 : Below w.heap.size w w2 := Below.call (by repeat (first | exact hB1 | exact Below.refl _ _ | (refine Below.setCell ?_ (by first | omega | (simp; done) | (simp; omega)) _) | (refine Below.alloc ?_ (by first | omega | (simp; done) | (simp; omega)) _) | refine Below.drew ?_)) hb2
  have hS2 : w.heap.size ≤ w2.heap.size := hB2.size
  obtain ⟨hc2, hf2⟩ := bcell hb2
  have hz2_0 : w.heap.size < w2.heap.size := by have := hb2.size; first | omega | (simp at this; omega)
  rw [H1.out, H2.out, H3.out]
  have k2_0 : w2.cell? ⟨w.heap.size, 0, none⟩ = some (.int .i64 m) := by go_simp
  have k2_1 : w2.cell? ⟨w.heap.size, 1, none⟩ = some (.bool true) := by go_simp
  have k2_2 : w2.cell? ⟨w.heap.size, 2, none⟩ = some (.int .u8 2) := by go_simp
  clear hc2 hf2 k1_0 k1_1 k1_2
  go_wp2_with fail
  refine (pcells_any _ _ _ K T _ _ _ _ hn (hT.below' (by repeat (first | exact hB2 | exact Below.refl _ _ | (refine Below.setCell ?_ (by first | omega | (simp; done) | (simp; omega)) _) | (refine Below.alloc ?_ (by first | omega | (simp; done) | (simp; omega)) _) | refine Below.drew ?_))) (by omega)).mono ?_
  rintro e w3 ⟨rfl, hb3⟩
  have hB3 : Below w.heap.size w w3 := Below.call (by repeat (first | exact hB2 | exact Below.refl _ _ | (refine Below.setCell ?_ (by first | omega | (simp; done) | (simp; omega)) _) | (refine Below.alloc ?_ (by first | omega | (simp; done) | (simp; omega)) _) | refine Below.drew ?_)) hb3
  have hS3 : w.heap.size ≤ w3.heap.size := hB3.size
  obtain ⟨hc3, hf3⟩ := bcell hb3
  have hz3_0 : w.heap.size < w3.heap.size := by have := hb3.size; first | omega | (simp at this; omega)
  have hz3_1 : w2.heap.size < w3.heap.size := by have := hb3.size; first | omega | (simp at this; omega)
  rw [H1.out, H4.out, H5.out]
  have k3_0 : w3.cell? ⟨w.heap.size, 0, none⟩ = some (.int .i64 m) := by go_simp
  have k3_1 : w3.cell? ⟨w.heap.size, 1, none⟩ = some (.bool true) := by go_simp
  have k3_2 : w3.cell? ⟨w.heap.size, 2, none⟩ = some (.int .u8 2) := by go_simp
  have k3_3 : w3.cell? ⟨w2.heap.size, 0, none⟩ = some (.int .u8 1) := by go_simp
  have k3_4 : w3.cell? ⟨w2.heap.size, 1, none⟩ = some (.int .u8 t) := by go_simp
  clear hc3 hf3 k2_0 k2_1 k2_2
  go_wp2_with fail
  refine (size_any 1 t _ (by omega) (by omega) (by omega) (by omega)).mono ?_
  rintro e w4 ⟨rfl, hb4⟩
  have hB4 : Below w.heap.size w w4 := Below.call (by repeat (first | exact hB3 | exact Below.refl _ _ | (refine Below.setCell ?_ (by first | omega | (simp; done) | (simp; omega)) _) | (refine Below.alloc ?_ (by first | omega | (simp; done) | (simp; omega)) _) | refine Below.drew ?_)) hb4
  have hS4 : w.heap.size ≤ w4.heap.size := hB4.size
  obtain ⟨hc4, hf4⟩ := bcell hb4
  have hz4_0 : w.heap.size < w4.heap.size := by have := hb4.size; first | omega | (simp at this; omega)
  have hz4_1 : w2.heap.size < w4.heap.size := by have := hb4.size; first | omega | (simp at this; omega)
  rw [H6.out.1, H6.out.2.1]
  have k4_0 : w4.cell? ⟨w.heap.size, 0, none⟩ = some (.int .i64 m) := by go_simp
  have k4_1 : w4.cell? ⟨w.heap.size, 1, none⟩ = some (.bool true) := by go_simp
  have k4_2 : w4.cell? ⟨w.heap.size, 2, none⟩ = some (.int .u8 2) := by go_simp
  have k4_3 : w4.cell? ⟨w2.heap.size, 0, none⟩ = some (.int .u8 1) := by go_simp
  have k4_4 : w4.cell? ⟨w2.heap.size, 1, none⟩ = some (.int .u8 t) := by go_simp
  clear hc4 hf4 k3_0 k3_1 k3_2 k3_3 k3_4
  go_wp2_with fail
  refine (target_any 1 t _ (by omega) (by omega) (by omega) (by omega)).mono ?_
  rintro e w5 ⟨rfl, hb5⟩
  have hB5 : Below w.heap.size w w5 := Below.call (by repeat (first | exact hB4 | exact Below.refl _ _ | (refine Below.setCell ?_ (by first | omega | (simp; done) | (simp; omega)) _) | (refine Below.alloc ?_ (by first | omega | (simp; done) | (simp; omega)) _) | refine Below.drew ?_)) hb5
  have hS5 : w.heap.size ≤ w5.heap.size := hB5.size
  obtain ⟨hc5, hf5⟩ := bcell hb5
  have hz5_0 : w.heap.size < w5.heap.size := by have := hb5.size; first | omega | (simp at this; omega)
  have hz5_1 : w2.heap.size < w5.heap.size := by have := hb5.size; first | omega | (simp at this; omega)
  rw [H6.out.2.2]
  have k5_0 : w5.cell? ⟨w.heap.size, 0, none⟩ = some (.int .i64 m) := by go_simp
  have k5_1 : w5.cell? ⟨w.heap.size, 1, none⟩ = some (.bool true) := by go_simp
  have k5_2 : w5.cell? ⟨w.heap.size, 2, none⟩ = some (.int .u8 2) := by go_simp
  have k5_3 : w5.cell? ⟨w2.heap.size, 0, none⟩ = some (.int .u8 1) := by go_simp
  have k5_4 : w5.cell? ⟨w2.heap.size, 1, none⟩ = some (.int .u8 t) := by go_simp
  clear hc5 hf5 k4_0 k4_1 k4_2 k4_3 k4_4
  go_upto_region 14 with fail
  go_cut [15, 16] (fun s15 s16 wx => ∃ g1 g2 : Nat, s15 = .pointer (some ⟨g1, 0, none⟩) ∧ s16 = .pointer (some ⟨g2, 0, none⟩) ∧ w5.heap.size < g1 ∧ w5.heap.size < g2 ∧ g1 < wx.heap.size ∧ g2 < wx.heap.size ∧ g1 ≠ g2 ∧
    wx.cell? ⟨g1, 0, none⟩ = some (.int .i64 m) ∧ wx.cell? ⟨g1, 1, none⟩ = some (.bool true) ∧ wx.cell? ⟨g1, 2, none⟩ = some (.int .u8 2) ∧ wx.cell? ⟨g2, 0, none⟩ = some (.int .i64 m) ∧ wx.cell? ⟨g2, 1, none⟩ = some (.bool true) ∧ wx.cell? ⟨g2, 2, none⟩ = some (.int .u8 2) ∧ wx.frozen? ⟨g1, 2, none⟩ = false ∧ wx.frozen? ⟨g2, 2, none⟩ = false ∧ Below w5.heap.size w5 wx)
  case first =>
    have HS : ∀ W' : World, Below w5.heap.size w5 W' → W'.cell? ⟨w.heap.size, 0, none⟩ = some (.int .i64 m) ∧ W'.cell? ⟨w.heap.size, 1, none⟩ = some (.bool true) ∧ W'.cell? ⟨w.heap.size, 2, none⟩ = some (.int .u8 2) := fun W' hb => ⟨(hb.cell (p := ⟨_, _, none⟩) hz5_0).trans k5_0, (hb.cell (p := ⟨_, _, none⟩) hz5_0).trans k5_1, (hb.cell (p := ⟨_, _, none⟩) hz5_0).trans k5_2⟩
    have HS' := Lib.hid HS
    clear HS
    go_region_held3 (fun w' => w'.cell? ⟨w.heap.size, 0, none⟩ = some (.int .i64 m) ∧ w'.cell? ⟨w.heap.size, 1, none⟩ = some (.bool true) ∧ w'.cell? ⟨w.heap.size, 2, none⟩ = some (.int .u8 2)) (first | exact HS'.out _ (by repeat (first | exact Below.refl _ _ | (refine Below.setCell ?_ (by first | omega | (simp; done) | (simp; omega)) _) | (refine Below.alloc ?_ (by first | omega | (simp; done) | (simp; omega)) _) | refine Below.drew ?_))) (fail)
    all_goals
      go_wp2_with fail
      go_meet
      refine ⟨_, _, rfl, rfl, ?_, ?_, ?_, ?_, ?_, ?_, ?_, ?_, ?_, ?_, ?_, ?_, ?_, (by repeat (first | exact Below.refl _ _ | (refine Below.setCell ?_ (by first | omega | (simp; done) | (simp; omega)) _) | (refine Below.alloc ?_ (by first | omega | (simp; done) | (simp; omega)) _) | refine Below.drew ?_))⟩
      all_goals first | omega | (go_simp; done) | (simp; done) | (simp; omega)
  case rest =>
    obtain ⟨g1, g2, rfl, rfl, hg1, hg2, hg3, hg4, hg5, x0, x1, x2, y0, y1, y2, fx, fy, hBx⟩ := hcut
    have hg5' : g2 ≠ g1 := fun h => hg5 h.symm
    have hSx := hBx.size
    have k0 : wc.cell? ⟨w.heap.size, 2, none⟩ = some (.int .u8 2) := (hBx.cell (p := ⟨w.heap.size, 2, none⟩) hz5_0).trans k5_2
    have k3 : wc.cell? ⟨w2.heap.size, 0, none⟩ = some (.int .u8 1) := (hBx.cell (p := ⟨w2.heap.size, 0, none⟩) hz5_1).trans k5_3
    have hB6 := hB5.trans (hBx.mono hS5)
    clear k5_0 k5_1 k5_2 k5_3 k5_4
    have hS6 := hB6.size
    go_wp2_with fail
    refine (pcells_any _ _ _ K T _ _ _ _ hn (hT.below' (by repeat (first | exact hB6 | exact Below.refl _ _ | (refine Below.setCell ?_ (by first | omega | (simp; done) | (simp; omega)) _) | (refine Below.alloc ?_ (by first | omega | (simp; done) | (simp; omega)) _) | refine Below.drew ?_))) (by omega)).mono ?_
    rintro e w7 ⟨rfl, hb7⟩
    have hB7 : Below w.heap.size w w7 := Below.call (by repeat (first | exact hB6 | exact Below.refl _ _ | (refine Below.setCell ?_ (by first | omega | (simp; done) | (simp; omega)) _) | (refine Below.alloc ?_ (by first | omega | (simp; done) | (simp; omega)) _) | refine Below.drew ?_)) hb7
    have hS7 : w.heap.size ≤ w7.heap.size := hB7.size
    obtain ⟨hc7, hf7⟩ := bcell hb7
    rw [G1.out.1, G1.out.2.1, G1.out.2.2]
    have hM7 := hb7.size
    simp only [World.setCell, Array.size_modify] at hM7
    have ha1 : w.heap.size ≠ g1 := by omega
    have ha2 : w.heap.size ≠ g2 := by omega
    have ha3 : w2.heap.size ≠ g1 := by omega
    have ha4 : w2.heap.size ≠ g2 := by omega
    have z0 : w7.cell? ⟨g2, 0, none⟩ = some (.int .i64 m) := by rw [hc7 _ _ (by first | omega | (simp; done) | (simp; omega))]; go_simp
    have z1 : w7.cell? ⟨g2, 1, none⟩ = some (.bool true) := by rw [hc7 _ _ (by first | omega | (simp; done) | (simp; omega))]; go_simp
    have z2 : w7.cell? ⟨g2, 2, none⟩ = some (.int .u8 2) := by rw [hc7 _ _ (by first | omega | (simp; done) | (simp; omega))]; go_simp
    have z3 : w7.cell? ⟨w.heap.size, 2, none⟩ = some (.int .u8 2) := by rw [hc7 _ _ (by first | omega | (simp; done) | (simp; omega))]; go_simp
    have z4 : w7.cell? ⟨w2.heap.size, 0, none⟩ = some (.int .u8 1) := by rw [hc7 _ _ (by first | omega | (simp; done) | (simp; omega))]; go_simp
    clear hc7 hf7 x0 x1 x2 y0 y1 y2 fx fy k0 k3
    have hz7_0 : w.heap.size < w7.heap.size := by omega
    have hz7_1 : w2.heap.size < w7.heap.size := by omega
    go_wp2_with fail
    refine (pcells_any _ _ _ K T _ _ _ _ hn (hT.below' (by repeat (first | exact hB7 | exact Below.refl _ _ | (refine Below.setCell ?_ (by first | omega | (simp; done) | (simp; omega)) _) | (refine Below.alloc ?_ (by first | omega | (simp; done) | (simp; omega)) _) | refine Below.drew ?_))) (by omega)).mono ?_
    rintro e w8 ⟨rfl, hb8⟩
    have hB8 : Below w.heap.size w w8 := Below.call (by repeat (first | exact hB7 | exact Below.refl _ _ | (refine Below.setCell ?_ (by first | omega | (simp; done) | (simp; omega)) _) | (refine Below.alloc ?_ (by first | omega | (simp; done) | (simp; omega)) _) | refine Below.drew ?_)) hb8
    have hS8 : w.heap.size ≤ w8.heap.size := hB8.size
    obtain ⟨hc8, hf8⟩ := bcell hb8
    rw [G2.out.1, G2.out.2.1, G2.out.2.2]
    have z5 : w8.cell? ⟨w.heap.size, 2, none⟩ = some (.int .u8 2) := by rw [hc8 _ _ (by first | omega | (simp; done) | (simp; omega))]; exact z3
    have z6 : w8.cell? ⟨w2.heap.size, 0, none⟩ = some (.int .u8 1) := by rw [hc8 _ _ (by first | omega | (simp; done) | (simp; omega))]; exact z4
    clear hc8 hf8 z0 z1 z2 z3 z4
    go_wp2
    go_ret
    exact ⟨rfl, (by repeat (first | exact hB8 | exact Below.refl _ _ | (refine Below.setCell ?_ (by first | omega | (simp; done) | (simp; omega)) _) | (refine Below.alloc ?_ (by first | omega | (simp; done) | (simp; omega)) _) | refine Below.drew ?_))⟩

set_option maxRecDepth 100000 in
set_option maxHeartbeats 8000000 in
theorem halves_false_0 (b off n cap m : Nat) (K T : Nat → Int) (k t s x a1 s1 a2 s2 : Int) (w : World) (hn : n ≤ maxLen) (hT : Types w (some ⟨b, off, none⟩) n K T) (h : n ≤ 30) (hk0 : 0 ≤ k) (hk1 : k ≤ 5) (ht0 : 0 ≤ t) (ht1 : t ≤ 2)
    (H1 : Hid (ptE n K T m false 0 = 0)) (H2 : Hid (ptK n K T m false 0 = 2)) (H3 : Hid (ptT n K T m false 0 = t)) (H4 : Hid (pcA n K T m false 0 = 0)) (H5 : Hid (pcS n K T m false 0 = s)) (H6 : Hid (sizeV 2 t = s ∧ chk 2 t = 0 ∧ tgtE 2 t = x))
    (G1 : Hid (ptE n K T m false 1 = 0 ∧ pcA n K T m false 1 = 0 ∧ pcS n K T m false 1 = 1)) (G2 : Hid (ptE n K T m false 2 = 0 ∧ pcA n K T m false 2 = 1 ∧ pcS n K T m false 2 = 1)) :
    Calls Try.prog 3 #[.slice (some ⟨b, off, none⟩) n cap, .agg #[.int .i64 m, .bool false, .int .u8 0]] w (Ret w (.bool true)) := by
  have hl := hn
  unfold maxLen at hl
  go_enter Try.func3, Try.ntmps3
  go_wp2_with fail
  refine (palive_any _).mono ?_
  rintro e w1 ⟨rfl, hb1⟩
  have hB1 : Below w.heap.size w w1 := Below.call (by repeat (first | exact Below.refl _ _ | (refine Below.setCell ?_ (by first | omega | (simp; done) | (simp; omega)) _) | (refine Below.alloc ?_ (by first | omega | (simp; done) | (simp; omega)) _) | refine Below.drew ?_)) hb1
  have hS1 : w.heap.size ≤ w1.heap.size := hB1.size
  obtain ⟨hc1, hf1⟩ := bcell hb1
  have hz1_0 : w.heap.size < w1.heap.size := by have := hb1.size; first | omega | (simp at this; omega)
  have k1_0 : w1.cell? ⟨w.heap.size, 0, none⟩ = some (.int .i64 m) := by go_simp
  have k1_1 : w1.cell? ⟨w.heap.size, 1, none⟩ = some (.bool false) := by go_simp
  have k1_2 : w1.cell? ⟨w.heap.size, 2, none⟩ = some (.int .u8 0) := by go_simp
  clear hc1 hf1 
  go_wp2_with fail
  refine (ptype_any _ _ _ K T _ _ _ _ hn (hT.below' (by repeat (first | exact hB1 | exact Below.refl _ _ | (refine Below.setCell ?_ (by first | omega | (simp; done) | (simp; omega)) _) | (refine Below.alloc ?_ (by first | omega | (simp; done) | (simp; omega)) _) | refine Below.drew ?_))) (by omega)).mono ?_
  rintro e w2 ⟨rfl, hb2⟩
  have hB2 : Below w.heap.size w w2 := Below.call (by repeat (first | exact hB1 | exact Below.refl _ _ | (refine Below.setCell ?_ (by first | omega | (simp; done) | (simp; omega)) _) | (refine Below.alloc ?_ (by first | omega | (simp; done) | (simp; omega)) _) | refine Below.drew ?_)) hb2
  have hS2 : w.heap.size ≤ w2.heap.size := hB2.size
  obtain ⟨hc2, hf2⟩ := bcell hb2
  have hz2_0 : w.heap.size < w2.heap.size := by have := hb2.size; first | omega | (simp at this; omega)
  rw [H1.out, H2.out, H3.out]
  have k2_0 : w2.cell? ⟨w.heap.size, 0, none⟩ = some (.int .i64 m) := by go_simp
  have k2_1 : w2.cell? ⟨w.heap.size, 1, none⟩ = some (.bool false) := by go_simp
  have k2_2 : w2.cell? ⟨w.heap.size, 2, none⟩ = some (.int .u8 0) := by go_simp
  clear hc2 hf2 k1_0 k1_1 k1_2
  go_wp2_with fail
  refine (pcells_any _ _ _ K T _ _ _ _ hn (hT.below' (by repeat (first | exact hB2 | exact Below.refl _ _ | (refine Below.setCell ?_ (by first | omega | (simp; done) | (simp; omega)) _) | (refine Below.alloc ?_ (by first | omega | (simp; done) | (simp; omega)) _) | refine Below.drew ?_))) (by omega)).mono ?_
  rintro e w3 ⟨rfl, hb3⟩
  have hB3 : Below w.heap.size w w3 := Below.call (by repeat (first | exact hB2 | exact Below.refl _ _ | (refine Below.setCell ?_ (by first | omega | (simp; done) | (simp; omega)) _) | (refine Below.alloc ?_ (by first | omega | (simp; done) | (simp; omega)) _) | refine Below.drew ?_)) hb3
  have hS3 : w.heap.size ≤ w3.heap.size := hB3.size
  obtain ⟨hc3, hf3⟩ := bcell hb3
  have hz3_0 : w.heap.size < w3.heap.size := by have := hb3.size; first | omega | (simp at this; omega)
  have hz3_1 : w2.heap.size < w3.heap.size := by have := hb3.size; first | omega | (simp at this; omega)
  rw [H1.out, H4.out, H5.out]
  have k3_0 : w3.cell? ⟨w.heap.size, 0, none⟩ = some (.int .i64 m) := by go_simp
  have k3_1 : w3.cell? ⟨w.heap.size, 1, none⟩ = some (.bool false) := by go_simp
  have k3_2 : w3.cell? ⟨w.heap.size, 2, none⟩ = some (.int .u8 0) := by go_simp
  have k3_3 : w3.cell? ⟨w2.heap.size, 0, none⟩ = some (.int .u8 2) := by go_simp
  have k3_4 : w3.cell? ⟨w2.heap.size, 1, none⟩ = some (.int .u8 t) := by go_simp
  clear hc3 hf3 k2_0 k2_1 k2_2
  go_wp2_with fail
  refine (size_any 2 t _ (by omega) (by omega) (by omega) (by omega)).mono ?_
  rintro e w4 ⟨rfl, hb4⟩
  have hB4 : Below w.heap.size w w4 := Below.call (by repeat (first | exact hB3 | exact Below.refl _ _ | (refine Below.setCell ?_ (by first | omega | (simp; done) | (simp; omega)) _) | (refine Below.alloc ?_ (by first | omega | (simp; done) | (simp; omega)) _) | refine Below.drew ?_)) hb4
  have hS4 : w.heap.size ≤ w4.heap.size := hB4.size
  obtain ⟨hc4, hf4⟩ := bcell hb4
  have hz4_0 : w.heap.size < w4.heap.size := by have := hb4.size; first | omega | (simp at this; omega)
  have hz4_1 : w2.heap.size < w4.heap.size := by have := hb4.size; first | omega | (simp at this; omega)
  rw [H6.out.1, H6.out.2.1]
  have k4_0 : w4.cell? ⟨w.heap.size, 0, none⟩ = some (.int .i64 m) := by go_simp
  have k4_1 : w4.cell? ⟨w.heap.size, 1, none⟩ = some (.bool false) := by go_simp
  have k4_2 : w4.cell? ⟨w.heap.size, 2, none⟩ = some (.int .u8 0) := by go_simp
  have k4_3 : w4.cell? ⟨w2.heap.size, 0, none⟩ = some (.int .u8 2) := by go_simp
  have k4_4 : w4.cell? ⟨w2.heap.size, 1, none⟩ = some (.int .u8 t) := by go_simp
  clear hc4 hf4 k3_0 k3_1 k3_2 k3_3 k3_4
  go_wp2_with fail
  refine (target_any 2 t _ (by omega) (by omega) (by omega) (by omega)).mono ?_
  rintro e w5 ⟨rfl, hb5⟩
  have hB5 : Below w.heap.size w w5 := Below.call (by repeat (first | exact hB4 | exact Below.refl _ _ | (refine Below.setCell ?_ (by first | omega | (simp; done) | (simp; omega)) _) | (refine Below.alloc ?_ (by first | omega | (simp; done) | (simp; omega)) _) | refine Below.drew ?_)) hb5
  have hS5 : w.heap.size ≤ w5.heap.size := hB5.size
  obtain ⟨hc5, hf5⟩ := bcell hb5
  have hz5_0 : w.heap.size < w5.heap.size := by have := hb5.size; first | omega | (simp at this; omega)
  have hz5_1 : w2.heap.size < w5.heap.size := by have := hb5.size; first | omega | (simp at this; omega)
  rw [H6.out.2.2]
  have k5_0 : w5.cell? ⟨w.heap.size, 0, none⟩ = some (.int .i64 m) := by go_simp
  have k5_1 : w5.cell? ⟨w.heap.size, 1, none⟩ = some (.bool false) := by go_simp
  have k5_2 : w5.cell? ⟨w.heap.size, 2, none⟩ = some (.int .u8 0) := by go_simp
  have k5_3 : w5.cell? ⟨w2.heap.size, 0, none⟩ = some (.int .u8 2) := by go_simp
  have k5_4 : w5.cell? ⟨w2.heap.size, 1, none⟩ = some (.int .u8 t) := by go_simp
  clear hc5 hf5 k4_0 k4_1 k4_2 k4_3 k4_4
  go_upto_region 14 with fail
  go_cut [15, 16] (fun s15 s16 wx => ∃ g1 g2 : Nat, s15 = .pointer (some ⟨g1, 0, none⟩) ∧ s16 = .pointer (some ⟨g2, 0, none⟩) ∧ w5.heap.size < g1 ∧ w5.heap.size < g2 ∧ g1 < wx.heap.size ∧ g2 < wx.heap.size ∧ g1 ≠ g2 ∧
    wx.cell? ⟨g1, 0, none⟩ = some (.int .i64 m) ∧ wx.cell? ⟨g1, 1, none⟩ = some (.bool false) ∧ wx.cell? ⟨g1, 2, none⟩ = some (.int .u8 0) ∧ wx.cell? ⟨g2, 0, none⟩ = some (.int .i64 m) ∧ wx.cell? ⟨g2, 1, none⟩ = some (.bool false) ∧ wx.cell? ⟨g2, 2, none⟩ = some (.int .u8 0) ∧ wx.frozen? ⟨g1, 2, none⟩ = false ∧ wx.frozen? ⟨g2, 2, none⟩ = false ∧ Below w5.heap.size w5 wx)
  case first =>
    have HS : ∀ W' : World, Below w5.heap.size w5 W' → W'.cell? ⟨w.heap.size, 0, none⟩ = some (.int .i64 m) ∧ W'.cell? ⟨w.heap.size, 1, none⟩ = some (.bool false) ∧ W'.cell? ⟨w.heap.size, 2, none⟩ = some (.int .u8 0) := fun W' hb => ⟨(hb.cell (p := ⟨_, _, none⟩) hz5_0).trans k5_0, (hb.cell (p := ⟨_, _, none⟩) hz5_0).trans k5_1, (hb.cell (p := ⟨_, _, none⟩) hz5_0).trans k5_2⟩
    have HS' := Lib.hid HS
    clear HS
    go_region_held3 (fun w' => w'.cell? ⟨w.heap.size, 0, none⟩ = some (.int .i64 m) ∧ w'.cell? ⟨w.heap.size, 1, none⟩ = some (.bool false) ∧ w'.cell? ⟨w.heap.size, 2, none⟩ = some (.int .u8 0)) (first | exact HS'.out _ (by repeat (first | exact Below.refl _ _ | (refine Below.setCell ?_ (by first | omega | (simp; done) | (simp; omega)) _) | (refine Below.alloc ?_ (by first | omega | (simp; done) | (simp; omega)) _) | refine Below.drew ?_))) (fail)
    all_goals
      go_wp2_with fail
      go_meet
      refine ⟨_, _, rfl, rfl, ?_, ?_, ?_, ?_, ?_, ?_, ?_, ?_, ?_, ?_, ?_, ?_, ?_, (by repeat (first | exact Below.refl _ _ | (refine Below.setCell ?_ (by first | omega | (simp; done) | (simp; omega)) _) | (refine Below.alloc ?_ (by first | omega | (simp; done) | (simp; omega)) _) | refine Below.drew ?_))⟩
      all_goals first | omega | (go_simp; done) | (simp; done) | (simp; omega)
  case rest =>
    obtain ⟨g1, g2, rfl, rfl, hg1, hg2, hg3, hg4, hg5, x0, x1, x2, y0, y1, y2, fx, fy, hBx⟩ := hcut
    have hg5' : g2 ≠ g1 := fun h => hg5 h.symm
    have hSx := hBx.size
    have k0 : wc.cell? ⟨w.heap.size, 2, none⟩ = some (.int .u8 0) := (hBx.cell (p := ⟨w.heap.size, 2, none⟩) hz5_0).trans k5_2
    have k3 : wc.cell? ⟨w2.heap.size, 0, none⟩ = some (.int .u8 2) := (hBx.cell (p := ⟨w2.heap.size, 0, none⟩) hz5_1).trans k5_3
    have hB6 := hB5.trans (hBx.mono hS5)
    clear k5_0 k5_1 k5_2 k5_3 k5_4
    have hS6 := hB6.size
    go_wp2_with fail
    refine (pcells_any _ _ _ K T _ _ _ _ hn (hT.below' (by repeat (first | exact hB6 | exact Below.refl _ _ | (refine Below.setCell ?_ (by first | omega | (simp; done) | (simp; omega)) _) | (refine Below.alloc ?_ (by first | omega | (simp; done) | (simp; omega)) _) | refine Below.drew ?_))) (by omega)).mono ?_
    rintro e w7 ⟨rfl, hb7⟩
    have hB7 : Below w.heap.size w w7 := Below.call (by repeat (first | exact hB6 | exact Below.refl _ _ | (refine Below.setCell ?_ (by first | omega | (simp; done) | (simp; omega)) _) | (refine Below.alloc ?_ (by first | omega | (simp; done) | (simp; omega)) _) | refine Below.drew ?_)) hb7
    have hS7 : w.heap.size ≤ w7.heap.size := hB7.size
    obtain ⟨hc7, hf7⟩ := bcell hb7
    rw [G1.out.1, G1.out.2.1, G1.out.2.2]
    have hM7 := hb7.size
    simp only [World.setCell, Array.size_modify] at hM7
    have ha1 : w.heap.size ≠ g1 := by omega
    have ha2 : w.heap.size ≠ g2 := by omega
    have ha3 : w2.heap.size ≠ g1 := by omega
    have ha4 : w2.heap.size ≠ g2 := by omega
    have z0 : w7.cell? ⟨g2, 0, none⟩ = some (.int .i64 m) := by rw [hc7 _ _ (by first | omega | (simp; done) | (simp; omega))]; go_simp
    have z1 : w7.cell? ⟨g2, 1, none⟩ = some (.bool false) := by rw [hc7 _ _ (by first | omega | (simp; done) | (simp; omega))]; go_simp
    have z2 : w7.cell? ⟨g2, 2, none⟩ = some (.int .u8 2) := by rw [hc7 _ _ (by first | omega | (simp; done) | (simp; omega))]; go_simp
    have z3 : w7.cell? ⟨w.heap.size, 2, none⟩ = some (.int .u8 0) := by rw [hc7 _ _ (by first | omega | (simp; done) | (simp; omega))]; go_simp
    have z4 : w7.cell? ⟨w2.heap.size, 0, none⟩ = some (.int .u8 2) := by rw [hc7 _ _ (by first | omega | (simp; done) | (simp; omega))]; go_simp
    clear hc7 hf7 x0 x1 x2 y0 y1 y2 fx fy k0 k3
    have hz7_0 : w.heap.size < w7.heap.size := by omega
    have hz7_1 : w2.heap.size < w7.heap.size := by omega
    go_wp2_with fail
    refine (pcells_any _ _ _ K T _ _ _ _ hn (hT.below' (by repeat (first | exact hB7 | exact Below.refl _ _ | (refine Below.setCell ?_ (by first | omega | (simp; done) | (simp; omega)) _) | (refine Below.alloc ?_ (by first | omega | (simp; done) | (simp; omega)) _) | refine Below.drew ?_))) (by omega)).mono ?_
    rintro e w8 ⟨rfl, hb8⟩
    have hB8 : Below w.heap.size w w8 := Below.call (by repeat (first | exact hB7 | exact Below.refl _ _ | (refine Below.setCell ?_ (by first | omega | (simp; done) | (simp; omega)) _) | (refine Below.alloc ?_ (by first | omega | (simp; done) | (simp; omega)) _) | refine Below.drew ?_)) hb8
    have hS8 : w.heap.size ≤ w8.heap.size := hB8.size
    obtain ⟨hc8, hf8⟩ := bcell hb8
    rw [G2.out.1, G2.out.2.1, G2.out.2.2]
    have z5 : w8.cell? ⟨w.heap.size, 2, none⟩ = some (.int .u8 0) := by rw [hc8 _ _ (by first | omega | (simp; done) | (simp; omega))]; exact z3
    have z6 : w8.cell? ⟨w2.heap.size, 0, none⟩ = some (.int .u8 2) := by rw [hc8 _ _ (by first | omega | (simp; done) | (simp; omega))]; exact z4
    clear hc8 hf8 z0 z1 z2 z3 z4
    go_wp2
    go_ret
    exact ⟨rfl, (by repeat (first | exact hB8 | exact Below.refl _ _ | (refine Below.setCell ?_ (by first | omega | (simp; done) | (simp; omega)) _) | (refine Below.alloc ?_ (by first | omega | (simp; done) | (simp; omega)) _) | refine Below.drew ?_))⟩

set_option maxRecDepth 100000 in
set_option maxHeartbeats 8000000 in
theorem halves_false_1 (b off n cap m : Nat) (K T : Nat → Int) (k t s x a1 s1 a2 s2 : Int) (w : World) (hn : n ≤ maxLen) (hT : Types w (some ⟨b, off, none⟩) n K T) (h : n ≤ 30) (hk0 : 0 ≤ k) (hk1 : k ≤ 5) (ht0 : 0 ≤ t) (ht1 : t ≤ 2) (hq : (k != 2) = true)
    (H1 : Hid (ptE n K T m false 0 = 0)) (H2 : Hid (ptK n K T m false 0 = k)) (H3 : Hid (ptT n K T m false 0 = t)) (H4 : Hid (pcA n K T m false 0 = 0)) (H5 : Hid (pcS n K T m false 0 = s)) (H6 : Hid (sizeV k t = s ∧ chk k t = 0 ∧ tgtE k t = x))
    (G1 : Hid (ptE n K T m false 1 = 42 ∧ pcA n K T m false 1 = a1 ∧ pcS n K T m false 1 = s1)) (G2 : Hid (ptE n K T m false 2 = 42 ∧ pcA n K T m false 2 = a2 ∧ pcS n K T m false 2 = s2)) :
    Calls Try.prog 3 #[.slice (some ⟨b, off, none⟩) n cap, .agg #[.int .i64 m, .bool false, .int .u8 0]] w (Ret w (.bool true)) := by
  have hl := hn
  unfold maxLen at hl
  go_enter Try.func3, Try.ntmps3
  go_wp2_with fail
  refine (palive_any _).mono ?_
  rintro e w1 ⟨rfl, hb1⟩
  have hB1 : Below w.heap.size w w1 := Below.call (by repeat (first | exact Below.refl _ _ | (refine Below.setCell ?_ (by first | omega | (simp; done) | (simp; omega)) _) | (refine Below.alloc ?_ (by first | omega | (simp; done) | (simp; omega)) _) | refine Below.drew ?_)) hb1
  have hS1 : w.heap.size ≤ w1.heap.size := hB1.size
  obtain ⟨hc1, hf1⟩ := bcell hb1
  have hz1_0 : w.heap.size < w1.heap.size := by have := hb1.size; first | omega | (simp at this; omega)
  have k1_0 : w1.cell? ⟨w.heap.size, 0, none⟩ = some (.int .i64 m) := by go_simp
  have k1_1 : w1.cell? ⟨w.heap.size, 1, none⟩ = some (.bool false) := by go_simp
  have k1_2 : w1.cell? ⟨w.heap.size, 2, none⟩ = some (.int .u8 0) := by go_simp
  clear hc1 hf1 
  go_wp2_with fail
  refine (ptype_any _ _ _ K T _ _ _ _ hn (hT.below' (by repeat (first | exact hB1 | exact Below.refl _ _ | (refine Below.setCell ?_ (by first | omega | (simp; done) | (simp; omega)) _) | (refine Below.alloc ?_ (by first | omega | (simp; done) | (simp; omega)) _) | refine Below.drew ?_))) (by omega)).mono ?_
  rintro e w2 ⟨rfl, hb2⟩
  have hB2 : Below w.heap.size w w2 := Below.call (by repeat (first | exact hB1 | exact Below.refl _ _ | (refine Below.setCell ?_ (by first | omega | (simp; done) | (simp; omega)) _) | (refine Below.alloc ?_ (by first | omega | (simp; done) | (simp; omega)) _) | refine Below.drew ?_)) hb2
  have hS2 : w.heap.size ≤ w2.heap.size := hB2.size
  obtain ⟨hc2, hf2⟩ := bcell hb2
  have hz2_0 : w.heap.size < w2.heap.size := by have := hb2.size; first | omega | (simp at this; omega)
  rw [H1.out, H2.out, H3.out]
  have k2_0 : w2.cell? ⟨w.heap.size, 0, none⟩ = some (.int .i64 m) := by go_simp
  have k2_1 : w2.cell? ⟨w.heap.size, 1, none⟩ = some (.bool false) := by go_simp
  have k2_2 : w2.cell? ⟨w.heap.size, 2, none⟩ = some (.int .u8 0) := by go_simp
  clear hc2 hf2 k1_0 k1_1 k1_2
  go_wp2_with fail
  refine (pcells_any _ _ _ K T _ _ _ _ hn (hT.below' (by repeat (first | exact hB2 | exact Below.refl _ _ | (refine Below.setCell ?_ (by first | omega | (simp; done) | (simp; omega)) _) | (refine Below.alloc ?_ (by first | omega | (simp; done) | (simp; omega)) _) | refine Below.drew ?_))) (by omega)).mono ?_
  rintro e w3 ⟨rfl, hb3⟩
  have hB3 : Below w.heap.size w w3 := Below.call (by repeat (first | exact hB2 | exact Below.refl _ _ | (refine Below.setCell ?_ (by first | omega | (simp; done) | (simp; omega)) _) | (refine Below.alloc ?_ (by first | omega | (simp; done) | (simp; omega)) _) | refine Below.drew ?_)) hb3
  have hS3 : w.heap.size ≤ w3.heap.size := hB3.size
  obtain ⟨hc3, hf3⟩ := bcell hb3
  have hz3_0 : w.heap.size < w3.heap.size := by have := hb3.size; first | omega | (simp at this; omega)
  have hz3_1 : w2.heap.size < w3.heap.size := by have := hb3.size; first | omega | (simp at this; omega)
  rw [H1.out, H4.out, H5.out]
  have k3_0 : w3.cell? ⟨w.heap.size, 0, none⟩ = some (.int .i64 m) := by go_simp
  have k3_1 : w3.cell? ⟨w.heap.size, 1, none⟩ = some (.bool false) := by go_simp
  have k3_2 : w3.cell? ⟨w.heap.size, 2, none⟩ = some (.int .u8 0) := by go_simp
  have k3_3 : w3.cell? ⟨w2.heap.size, 0, none⟩ = some (.int .u8 k) := by go_simp
  have k3_4 : w3.cell? ⟨w2.heap.size, 1, none⟩ = some (.int .u8 t) := by go_simp
  clear hc3 hf3 k2_0 k2_1 k2_2
  go_wp2_with fail
  refine (size_any k t _ (by omega) (by omega) (by omega) (by omega)).mono ?_
  rintro e w4 ⟨rfl, hb4⟩
  have hB4 : Below w.heap.size w w4 := Below.call (by repeat (first | exact hB3 | exact Below.refl _ _ | (refine Below.setCell ?_ (by first | omega | (simp; done) | (simp; omega)) _) | (refine Below.alloc ?_ (by first | omega | (simp; done) | (simp; omega)) _) | refine Below.drew ?_)) hb4
  have hS4 : w.heap.size ≤ w4.heap.size := hB4.size
  obtain ⟨hc4, hf4⟩ := bcell hb4
  have hz4_0 : w.heap.size < w4.heap.size := by have := hb4.size; first | omega | (simp at this; omega)
  have hz4_1 : w2.heap.size < w4.heap.size := by have := hb4.size; first | omega | (simp at this; omega)
  rw [H6.out.1, H6.out.2.1]
  have k4_0 : w4.cell? ⟨w.heap.size, 0, none⟩ = some (.int .i64 m) := by go_simp
  have k4_1 : w4.cell? ⟨w.heap.size, 1, none⟩ = some (.bool false) := by go_simp
  have k4_2 : w4.cell? ⟨w.heap.size, 2, none⟩ = some (.int .u8 0) := by go_simp
  have k4_3 : w4.cell? ⟨w2.heap.size, 0, none⟩ = some (.int .u8 k) := by go_simp
  have k4_4 : w4.cell? ⟨w2.heap.size, 1, none⟩ = some (.int .u8 t) := by go_simp
  clear hc4 hf4 k3_0 k3_1 k3_2 k3_3 k3_4
  go_wp2_with fail
  refine (target_any k t _ (by omega) (by omega) (by omega) (by omega)).mono ?_
  rintro e w5 ⟨rfl, hb5⟩
  have hB5 : Below w.heap.size w w5 := Below.call (by repeat (first | exact hB4 | exact Below.refl _ _ | (refine Below.setCell ?_ (by first | omega | (simp; done) | (simp; omega)) _) | (refine Below.alloc ?_ (by first | omega | (simp; done) | (simp; omega)) _) | refine Below.drew ?_)) hb5
  have hS5 : w.heap.size ≤ w5.heap.size := hB5.size
  obtain ⟨hc5, hf5⟩ := bcell hb5
  have hz5_0 : w.heap.size < w5.heap.size := by have := hb5.size; first | omega | (simp at this; omega)
  have hz5_1 : w2.heap.size < w5.heap.size := by have := hb5.size; first | omega | (simp at this; omega)
  rw [H6.out.2.2]
  have k5_0 : w5.cell? ⟨w.heap.size, 0, none⟩ = some (.int .i64 m) := by go_simp
  have k5_1 : w5.cell? ⟨w.heap.size, 1, none⟩ = some (.bool false) := by go_simp
  have k5_2 : w5.cell? ⟨w.heap.size, 2, none⟩ = some (.int .u8 0) := by go_simp
  have k5_3 : w5.cell? ⟨w2.heap.size, 0, none⟩ = some (.int .u8 k) := by go_simp
  have k5_4 : w5.cell? ⟨w2.heap.size, 1, none⟩ = some (.int .u8 t) := by go_simp
  clear hc5 hf5 k4_0 k4_1 k4_2 k4_3 k4_4
  go_upto_region 14 with fail
  go_cut [15, 16] (fun s15 s16 wx => ∃ g1 g2 : Nat, s15 = .pointer (some ⟨g1, 0, none⟩) ∧ s16 = .pointer (some ⟨g2, 0, none⟩) ∧ w5.heap.size < g1 ∧ w5.heap.size < g2 ∧ g1 < wx.heap.size ∧ g2 < wx.heap.size ∧ g1 ≠ g2 ∧
    wx.cell? ⟨g1, 0, none⟩ = some (.int .i64 m) ∧ wx.cell? ⟨g1, 1, none⟩ = some (.bool false) ∧ wx.cell? ⟨g1, 2, none⟩ = some (.int .u8 0) ∧ wx.cell? ⟨g2, 0, none⟩ = some (.int .i64 m) ∧ wx.cell? ⟨g2, 1, none⟩ = some (.bool false) ∧ wx.cell? ⟨g2, 2, none⟩ = some (.int .u8 0) ∧ wx.frozen? ⟨g1, 2, none⟩ = false ∧ wx.frozen? ⟨g2, 2, none⟩ = false ∧ Below w5.heap.size w5 wx)
  case first =>
    have HS : ∀ W' : World, Below w5.heap.size w5 W' → W'.cell? ⟨w.heap.size, 0, none⟩ = some (.int .i64 m) ∧ W'.cell? ⟨w.heap.size, 1, none⟩ = some (.bool false) ∧ W'.cell? ⟨w.heap.size, 2, none⟩ = some (.int .u8 0) := fun W' hb => ⟨(hb.cell (p := ⟨_, _, none⟩) hz5_0).trans k5_0, (hb.cell (p := ⟨_, _, none⟩) hz5_0).trans k5_1, (hb.cell (p := ⟨_, _, none⟩) hz5_0).trans k5_2⟩
    have HS' := Lib.hid HS
    clear HS
    go_region_held3 (fun w' => w'.cell? ⟨w.heap.size, 0, none⟩ = some (.int .i64 m) ∧ w'.cell? ⟨w.heap.size, 1, none⟩ = some (.bool false) ∧ w'.cell? ⟨w.heap.size, 2, none⟩ = some (.int .u8 0)) (first | exact HS'.out _ (by repeat (first | exact Below.refl _ _ | (refine Below.setCell ?_ (by first | omega | (simp; done) | (simp; omega)) _) | (refine Below.alloc ?_ (by first | omega | (simp; done) | (simp; omega)) _) | refine Below.drew ?_))) (fail)
    all_goals
      go_wp2_with fail
      go_meet
      refine ⟨_, _, rfl, rfl, ?_, ?_, ?_, ?_, ?_, ?_, ?_, ?_, ?_, ?_, ?_, ?_, ?_, (by repeat (first | exact Below.refl _ _ | (refine Below.setCell ?_ (by first | omega | (simp; done) | (simp; omega)) _) | (refine Below.alloc ?_ (by first | omega | (simp; done) | (simp; omega)) _) | refine Below.drew ?_))⟩
      all_goals first | omega | (go_simp; done) | (simp; done) | (simp; omega)
  case rest =>
    obtain ⟨g1, g2, rfl, rfl, hg1, hg2, hg3, hg4, hg5, x0, x1, x2, y0, y1, y2, fx, fy, hBx⟩ := hcut
    have hg5' : g2 ≠ g1 := fun h => hg5 h.symm
    have hSx := hBx.size
    have k0 : wc.cell? ⟨w.heap.size, 2, none⟩ = some (.int .u8 0) := (hBx.cell (p := ⟨w.heap.size, 2, none⟩) hz5_0).trans k5_2
    have k3 : wc.cell? ⟨w2.heap.size, 0, none⟩ = some (.int .u8 k) := (hBx.cell (p := ⟨w2.heap.size, 0, none⟩) hz5_1).trans k5_3
    have hB6 := hB5.trans (hBx.mono hS5)
    clear k5_0 k5_1 k5_2 k5_3 k5_4
    have hS6 := hB6.size
    go_wp2_with fail
    refine (pcells_any _ _ _ K T _ _ _ _ hn (hT.below' (by repeat (first | exact hB6 | exact Below.refl _ _ | (refine Below.setCell ?_ (by first | omega | (simp; done) | (simp; omega)) _) | (refine Below.alloc ?_ (by first | omega | (simp; done) | (simp; omega)) _) | refine Below.drew ?_))) (by omega)).mono ?_
    rintro e w7 ⟨rfl, hb7⟩
    have hB7 : Below w.heap.size w w7 := Below.call (by repeat (first | exact hB6 | exact Below.refl _ _ | (refine Below.setCell ?_ (by first | omega | (simp; done) | (simp; omega)) _) | (refine Below.alloc ?_ (by first | omega | (simp; done) | (simp; omega)) _) | refine Below.drew ?_)) hb7
    have hS7 : w.heap.size ≤ w7.heap.size := hB7.size
    obtain ⟨hc7, hf7⟩ := bcell hb7
    rw [G1.out.1, G1.out.2.1, G1.out.2.2]
    have hM7 := hb7.size
    simp only [World.setCell, Array.size_modify] at hM7
    have ha1 : w.heap.size ≠ g1 := by omega
    have ha2 : w.heap.size ≠ g2 := by omega
    have ha3 : w2.heap.size ≠ g1 := by omega
    have ha4 : w2.heap.size ≠ g2 := by omega
    have z0 : w7.cell? ⟨g2, 0, none⟩ = some (.int .i64 m) := by rw [hc7 _ _ (by first | omega | (simp; done) | (simp; omega))]; go_simp
    have z1 : w7.cell? ⟨g2, 1, none⟩ = some (.bool false) := by rw [hc7 _ _ (by first | omega | (simp; done) | (simp; omega))]; go_simp
    have z2 : w7.cell? ⟨g2, 2, none⟩ = some (.int .u8 2) := by rw [hc7 _ _ (by first | omega | (simp; done) | (simp; omega))]; go_simp
    have z3 : w7.cell? ⟨w.heap.size, 2, none⟩ = some (.int .u8 0) := by rw [hc7 _ _ (by first | omega | (simp; done) | (simp; omega))]; go_simp
    have z4 : w7.cell? ⟨w2.heap.size, 0, none⟩ = some (.int .u8 k) := by rw [hc7 _ _ (by first | omega | (simp; done) | (simp; omega))]; go_simp
    clear hc7 hf7 x0 x1 x2 y0 y1 y2 fx fy k0 k3
    have hz7_0 : w.heap.size < w7.heap.size := by omega
    have hz7_1 : w2.heap.size < w7.heap.size := by omega
    go_wp2_with fail
    refine (pcells_any _ _ _ K T _ _ _ _ hn (hT.below' (by repeat (first | exact hB7 | exact Below.refl _ _ | (refine Below.setCell ?_ (by first | omega | (simp; done) | (simp; omega)) _) | (refine Below.alloc ?_ (by first | omega | (simp; done) | (simp; omega)) _) | refine Below.drew ?_))) (by omega)).mono ?_
    rintro e w8 ⟨rfl, hb8⟩
    have hB8 : Below w.heap.size w w8 := Below.call (by repeat (first | exact hB7 | exact Below.refl _ _ | (refine Below.setCell ?_ (by first | omega | (simp; done) | (simp; omega)) _) | (refine Below.alloc ?_ (by first | omega | (simp; done) | (simp; omega)) _) | refine Below.drew ?_)) hb8
    have hS8 : w.heap.size ≤ w8.heap.size := hB8.size
    obtain ⟨hc8, hf8⟩ := bcell hb8
    rw [G2.out.1, G2.out.2.1, G2.out.2.2]
    have z5 : w8.cell? ⟨w.heap.size, 2, none⟩ = some (.int .u8 0) := by rw [hc8 _ _ (by first | omega | (simp; done) | (simp; omega))]; exact z3
    have z6 : w8.cell? ⟨w2.heap.size, 0, none⟩ = some (.int .u8 k) := by rw [hc8 _ _ (by first | omega | (simp; done) | (simp; omega))]; exact z4
    clear hc8 hf8 z0 z1 z2 z3 z4
    go_wp2
    go_ret
    exact ⟨rfl, (by repeat (first | exact hB8 | exact Below.refl _ _ | (refine Below.setCell ?_ (by first | omega | (simp; done) | (simp; omega)) _) | (refine Below.alloc ?_ (by first | omega | (simp; done) | (simp; omega)) _) | refine Below.drew ?_))⟩

set_option maxRecDepth 100000 in
set_option maxHeartbeats 8000000 in
theorem halves_false_2 (b off n cap m : Nat) (K T : Nat → Int) (k t s x a1 s1 a2 s2 : Int) (w : World) (hn : n ≤ maxLen) (hT : Types w (some ⟨b, off, none⟩) n K T) (h : n ≤ 30) (hk0 : 0 ≤ k) (hk1 : k ≤ 5) (ht0 : 0 ≤ t) (ht1 : t ≤ 2)
    (H1 : Hid (ptE n K T m false 1 = 0)) (H2 : Hid (ptK n K T m false 1 = 1)) (H3 : Hid (ptT n K T m false 1 = t)) (H4 : Hid (pcA n K T m false 1 = 0)) (H5 : Hid (pcS n K T m false 1 = 1)) (H6 : Hid (sizeV 1 t = 1 ∧ chk 1 t = 0 ∧ tgtE 1 t = x))
    (G1 : Hid (ptE n K T m false 1 = 0 ∧ pcA n K T m false 1 = 0 ∧ pcS n K T m false 1 = 1)) (G2 : Hid (ptE n K T m false 2 = 0 ∧ pcA n K T m false 2 = 1 ∧ pcS n K T m false 2 = 1)) :
    Calls Try.prog 3 #[.slice (some ⟨b, off, none⟩) n cap, .agg #[.int .i64 m, .bool false, .int .u8 1]] w (Ret w (.bool true)) := by
  have hl := hn
  unfold maxLen at hl
  go_enter Try.func3, Try.ntmps3
  go_wp2_with fail
  refine (palive_any _).mono ?_
  rintro e w1 ⟨rfl, hb1⟩
  have hB1 : Below w.heap.size w w1 := Below.call (by repeat (first | exact Below.refl _ _ | (refine Below.setCell ?_ (by first | omega | (simp; done) | (simp; omega)) _) | (refine Below.alloc ?_ (by first | omega | (simp; done) | (simp; omega)) _) | refine Below.drew ?_)) hb1
  have hS1 : w.heap.size ≤ w1.heap.size := hB1.size
  obtain ⟨hc1, hf1⟩ := bcell hb1
  have hz1_0 : w.heap.size < w1.heap.size := by have := hb1.size; first | omega | (simp at this; omega)
  have k1_0 : w1.cell? ⟨w.heap.size, 0, none⟩ = some (.int .i64 m) := by go_simp
  have k1_1 : w1.cell? ⟨w.heap.size, 1, none⟩ = some (.bool false) := by go_simp
  have k1_2 : w1.cell? ⟨w.heap.size, 2, none⟩ = some (.int .u8 1) := by go_simp
  clear hc1 hf1 
  go_wp2_with fail
  refine (ptype_any _ _ _ K T _ _ _ _ hn (hT.below' (by repeat (first | exact hB1 | exact Below.refl _ _ | (refine Below.setCell ?_ (by first | omega | (simp; done) | (simp; omega)) _) | (refine Below.alloc ?_ (by first | omega | (simp; done) | (simp; omega)) _) | refine Below.drew ?_))) (by omega)).mono ?_
  rintro e w2 ⟨rfl, hb2⟩
  have hB2 : Below w.heap.size w w2 := Below.call (by repeat (first | exact hB1 | exact Below.refl _ _ | (refine Below.setCell ?_ (by first | omega | (simp; done) | (simp; omega)) _) | (refine Below.alloc ?_ (by first | omega | (simp; done) | (simp; omega)) _) | refine Below.drew ?_)) hb2
  have hS2 : w.heap.size ≤ w2.heap.size := hB2.size
  obtain ⟨hc2, hf2⟩ := bcell hb2
  have hz2_0 : w.heap.size < w2.heap.size := by have := hb2.size; first | omega | (simp at this; omega)
  rw [H1.out, H2.out, H3.out]
  have k2_0 : w2.cell? ⟨w.heap.size, 0, none⟩ = some (.int .i64 m) := by go_simp
  have k2_1 : w2.cell? ⟨w.heap.size, 1, none⟩ = some (.bool false) := by go_simp
  have k2_2 : w2.cell? ⟨w.heap.size, 2, none⟩ = some (.int .u8 1) := by go_simp
  clear hc2 hf2 k1_0 k1_1 k1_2
  go_wp2_with fail
  refine (pcells_any _ _ _ K T _ _ _ _ hn (hT.below' (by repeat (first | exact hB2 | exact Below.refl _ _ | (refine Below.setCell ?_ (by first | omega | (simp; done) | (simp; omega)) _) | (refine Below.alloc ?_ (by first | omega | (simp; done) | (simp; omega)) _) | refine Below.drew ?_))) (by omega)).mono ?_
  rintro e w3 ⟨rfl, hb3⟩
  have hB3 : Below w.heap.size w w3 := Below.call (by repeat (first | exact hB2 | exact Below.refl _ _ | (refine Below.setCell ?_ (by first | omega | (simp; done) | (simp; omega)) _) | (refine Below.alloc ?_ (by first | omega | (simp; done) | (simp; omega)) _) | refine Below.drew ?_)) hb3
  have hS3 : w.heap.size ≤ w3.heap.size := hB3.size
  obtain ⟨hc3, hf3⟩ := bcell hb3
  have hz3_0 : w.heap.size < w3.heap.size := by have := hb3.size; first | omega | (simp at this; omega)
  have hz3_1 : w2.heap.size < w3.heap.size := by have := hb3.size; first | omega | (simp at this; omega)
  rw [H1.out, H4.out, H5.out]
  have k3_0 : w3.cell? ⟨w.heap.size, 0, none⟩ = some (.int .i64 m) := by go_simp
  have k3_1 : w3.cell? ⟨w.heap.size, 1, none⟩ = some (.bool false) := by go_simp
  have k3_2 : w3.cell? ⟨w.heap.size, 2, none⟩ = some (.int .u8 1) := by go_simp
  have k3_3 : w3.cell? ⟨w2.heap.size, 0, none⟩ = some (.int .u8 1) := by go_simp
  have k3_4 : w3.cell? ⟨w2.heap.size, 1, none⟩ = some (.int .u8 t) := by go_simp
  clear hc3 hf3 k2_0 k2_1 k2_2
  go_wp2_with fail
  refine (size_any 1 t _ (by omega) (by omega) (by omega) (by omega)).mono ?_
  rintro e w4 ⟨rfl, hb4⟩
  have hB4 : Below w.heap.size w w4 := Below.call (by repeat (first | exact hB3 | exact Below.refl _ _ | (refine Below.setCell ?_ (by first | omega | (simp; done) | (simp; omega)) _) | (refine Below.alloc ?_ (by first | omega | (simp; done) | (simp; omega)) _) | refine Below.drew ?_)) hb4
  have hS4 : w.heap.size ≤ w4.heap.size := hB4.size
  obtain ⟨hc4, hf4⟩ := bcell hb4
  have hz4_0 : w.heap.size < w4.heap.size := by have := hb4.size; first | omega | (simp at this; omega)
  have hz4_1 : w2.heap.size < w4.heap.size := by have := hb4.size; first | omega | (simp at this; omega)
  rw [H6.out.1, H6.out.2.1]
  have k4_0 : w4.cell? ⟨w.heap.size, 0, none⟩ = some (.int .i64 m) := by go_simp
  have k4_1 : w4.cell? ⟨w.heap.size, 1, none⟩ = some (.bool false) := by go_simp
  have k4_2 : w4.cell? ⟨w.heap.size, 2, none⟩ = some (.int .u8 1) := by go_simp
  have k4_3 : w4.cell? ⟨w2.heap.size, 0, none⟩ = some (.int .u8 1) := by go_simp
  have k4_4 : w4.cell? ⟨w2.heap.size, 1, none⟩ = some (.int .u8 t) := by go_simp
  clear hc4 hf4 k3_0 k3_1 k3_2 k3_3 k3_4
  go_wp2_with fail
  refine (target_any 1 t _ (by omega) (by omega) (by omega) (by omega)).mono ?_
  rintro e w5 ⟨rfl, hb5⟩
  have hB5 : Below w.heap.size w w5 := Below.call (by repeat (first | exact hB4 | exact Below.refl _ _ | (refine Below.setCell ?_ (by first | omega | (simp; done) | (simp; omega)) _) | (refine Below.alloc ?_ (by first | omega | (simp; done) | (simp; omega)) _) | refine Below.drew ?_)) hb5
  have hS5 : w.heap.size ≤ w5.heap.size := hB5.size
  obtain ⟨hc5, hf5⟩ := bcell hb5
  have hz5_0 : w.heap.size < w5.heap.size := by have := hb5.size; first | omega | (simp at this; omega)
  have hz5_1 : w2.heap.size < w5.heap.size := by have := hb5.size; first | omega | (simp at this; omega)
  rw [H6.out.2.2]
  have k5_0 : w5.cell? ⟨w.heap.size, 0, none⟩ = some (.int .i64 m) := by go_simp
  have k5_1 : w5.cell? ⟨w.heap.size, 1, none⟩ = some (.bool false) := by go_simp
  have k5_2 : w5.cell? ⟨w.heap.size, 2, none⟩ = some (.int .u8 1) := by go_simp
  have k5_3 : w5.cell? ⟨w2.heap.size, 0, none⟩ = some (.int .u8 1) := by go_simp
  have k5_4 : w5.cell? ⟨w2.heap.size, 1, none⟩ = some (.int .u8 t) := by go_simp
  clear hc5 hf5 k4_0 k4_1 k4_2 k4_3 k4_4
  go_upto_region 14 with fail
  go_cut [15, 16] (fun s15 s16 wx => ∃ g1 g2 : Nat, s15 = .pointer (some ⟨g1, 0, none⟩) ∧ s16 = .pointer (some ⟨g2, 0, none⟩) ∧ w5.heap.size < g1 ∧ w5.heap.size < g2 ∧ g1 < wx.heap.size ∧ g2 < wx.heap.size ∧ g1 ≠ g2 ∧
    wx.cell? ⟨g1, 0, none⟩ = some (.int .i64 m) ∧ wx.cell? ⟨g1, 1, none⟩ = some (.bool false) ∧ wx.cell? ⟨g1, 2, none⟩ = some (.int .u8 1) ∧ wx.cell? ⟨g2, 0, none⟩ = some (.int .i64 m) ∧ wx.cell? ⟨g2, 1, none⟩ = some (.bool false) ∧ wx.cell? ⟨g2, 2, none⟩ = some (.int .u8 1) ∧ wx.frozen? ⟨g1, 2, none⟩ = false ∧ wx.frozen? ⟨g2, 2, none⟩ = false ∧ Below w5.heap.size w5 wx)
  case first =>
    have HS : ∀ W' : World, Below w5.heap.size w5 W' → W'.cell? ⟨w.heap.size, 0, none⟩ = some (.int .i64 m) ∧ W'.cell? ⟨w.heap.size, 1, none⟩ = some (.bool false) ∧ W'.cell? ⟨w.heap.size, 2, none⟩ = some (.int .u8 1) := fun W' hb => ⟨(hb.cell (p := ⟨_, _, none⟩) hz5_0).trans k5_0, (hb.cell (p := ⟨_, _, none⟩) hz5_0).trans k5_1, (hb.cell (p := ⟨_, _, none⟩) hz5_0).trans k5_2⟩
    have HS' := Lib.hid HS
    clear HS
    go_region_held3 (fun w' => w'.cell? ⟨w.heap.size, 0, none⟩ = some (.int .i64 m) ∧ w'.cell? ⟨w.heap.size, 1, none⟩ = some (.bool false) ∧ w'.cell? ⟨w.heap.size, 2, none⟩ = some (.int .u8 1)) (first | exact HS'.out _ (by repeat (first | exact Below.refl _ _ | (refine Below.setCell ?_ (by first | omega | (simp; done) | (simp; omega)) _) | (refine Below.alloc ?_ (by first | omega | (simp; done) | (simp; omega)) _) | refine Below.drew ?_))) (fail)
    all_goals
      go_wp2_with fail
      go_meet
      refine ⟨_, _, rfl, rfl, ?_, ?_, ?_, ?_, ?_, ?_, ?_, ?_, ?_, ?_, ?_, ?_, ?_, (by repeat (first | exact Below.refl _ _ | (refine Below.setCell ?_ (by first | omega | (simp; done) | (simp; omega)) _) | (refine Below.alloc ?_ (by first | omega | (simp; done) | (simp; omega)) _) | refine Below.drew ?_))⟩
      all_goals first | omega | (go_simp; done) | (simp; done) | (simp; omega)
  case rest =>
    obtain ⟨g1, g2, rfl, rfl, hg1, hg2, hg3, hg4, hg5, x0, x1, x2, y0, y1, y2, fx, fy, hBx⟩ := hcut
    have hg5' : g2 ≠ g1 := fun h => hg5 h.symm
    have hSx := hBx.size
    have k0 : wc.cell? ⟨w.heap.size, 2, none⟩ = some (.int .u8 1) := (hBx.cell (p := ⟨w.heap.size, 2, none⟩) hz5_0).trans k5_2
    have k3 : wc.cell? ⟨w2.heap.size, 0, none⟩ = some (.int .u8 1) := (hBx.cell (p := ⟨w2.heap.size, 0, none⟩) hz5_1).trans k5_3
    have hB6 := hB5.trans (hBx.mono hS5)
    clear k5_0 k5_1 k5_2 k5_3 k5_4
    have hS6 := hB6.size
    go_wp2_with fail
    refine (pcells_any _ _ _ K T _ _ _ _ hn (hT.below' (by repeat (first | exact hB6 | exact Below.refl _ _ | (refine Below.setCell ?_ (by first | omega | (simp; done) | (simp; omega)) _) | (refine Below.alloc ?_ (by first | omega | (simp; done) | (simp; omega)) _) | refine Below.drew ?_))) (by omega)).mono ?_
    rintro e w7 ⟨rfl, hb7⟩
    have hB7 : Below w.heap.size w w7 := Below.call (by repeat (first | exact hB6 | exact Below.refl _ _ | (refine Below.setCell ?_ (by first | omega | (simp; done) | (simp; omega)) _) | (refine Below.alloc ?_ (by first | omega | (simp; done) | (simp; omega)) _) | refine Below.drew ?_)) hb7
    have hS7 : w.heap.size ≤ w7.heap.size := hB7.size
    obtain ⟨hc7, hf7⟩ := bcell hb7
    rw [G1.out.1, G1.out.2.1, G1.out.2.2]
    have hM7 := hb7.size
    simp only [World.setCell, Array.size_modify] at hM7
    have ha1 : w.heap.size ≠ g1 := by omega
    have ha2 : w.heap.size ≠ g2 := by omega
    have ha3 : w2.heap.size ≠ g1 := by omega
    have ha4 : w2.heap.size ≠ g2 := by omega
    have z0 : w7.cell? ⟨g2, 0, none⟩ = some (.int .i64 m) := by rw [hc7 _ _ (by first | omega | (simp; done) | (simp; omega))]; go_simp
    have z1 : w7.cell? ⟨g2, 1, none⟩ = some (.bool false) := by rw [hc7 _ _ (by first | omega | (simp; done) | (simp; omega))]; go_simp
    have z2 : w7.cell? ⟨g2, 2, none⟩ = some (.int .u8 2) := by rw [hc7 _ _ (by first | omega | (simp; done) | (simp; omega))]; go_simp
    have z3 : w7.cell? ⟨w.heap.size, 2, none⟩ = some (.int .u8 1) := by rw [hc7 _ _ (by first | omega | (simp; done) | (simp; omega))]; go_simp
    have z4 : w7.cell? ⟨w2.heap.size, 0, none⟩ = some (.int .u8 1) := by rw [hc7 _ _ (by first | omega | (simp; done) | (simp; omega))]; go_simp
    clear hc7 hf7 x0 x1 x2 y0 y1 y2 fx fy k0 k3
    have hz7_0 : w.heap.size < w7.heap.size := by omega
    have hz7_1 : w2.heap.size < w7.heap.size := by omega
    go_wp2_with fail
    refine (pcells_any _ _ _ K T _ _ _ _ hn (hT.below' (by repeat (first | exact hB7 | exact Below.refl _ _ | (refine Below.setCell ?_ (by first | omega | (simp; done) | (simp; omega)) _) | (refine Below.alloc ?_ (by first | omega | (simp; done) | (simp; omega)) _) | refine Below.drew ?_))) (by omega)).mono ?_
    rintro e w8 ⟨rfl, hb8⟩
    have hB8 : Below w.heap.size w w8 := Below.call (by repeat (first | exact hB7 | exact Below.refl _ _ | (refine Below.setCell ?_ (by first | omega | (simp; done) | (simp; omega)) _) | (refine Below.alloc ?_ (by first | omega | (simp; done) | (simp; omega)) _) | refine Below.drew ?_)) hb8
    have hS8 : w.heap.size ≤ w8.heap.size := hB8.size
    obtain ⟨hc8, hf8⟩ := bcell hb8
    rw [G2.out.1, G2.out.2.1, G2.out.2.2]
    have z5 : w8.cell? ⟨w.heap.size, 2, none⟩ = some (.int .u8 1) := by rw [hc8 _ _ (by first | omega | (simp; done) | (simp; omega))]; exact z3
    have z6 : w8.cell? ⟨w2.heap.size, 0, none⟩ = some (.int .u8 1) := by rw [hc8 _ _ (by first | omega | (simp; done) | (simp; omega))]; exact z4
    clear hc8 hf8 z0 z1 z2 z3 z4
    go_wp2
    go_ret
    exact ⟨rfl, (by repeat (first | exact hB8 | exact Below.refl _ _ | (refine Below.setCell ?_ (by first | omega | (simp; done) | (simp; omega)) _) | (refine Below.alloc ?_ (by first | omega | (simp; done) | (simp; omega)) _) | refine Below.drew ?_))⟩

set_option maxRecDepth 100000 in
set_option maxHeartbeats 8000000 in
theorem halves_false_3 (b off n cap m : Nat) (K T : Nat → Int) (k t s x a1 s1 a2 s2 : Int) (w : World) (hn : n ≤ maxLen) (hT : Types w (some ⟨b, off, none⟩) n K T) (h : n ≤ 30) (hk0 : 0 ≤ k) (hk1 : k ≤ 5) (ht0 : 0 ≤ t) (ht1 : t ≤ 2)
    (H1 : Hid (ptE n K T m false 2 = 0)) (H2 : Hid (ptK n K T m false 2 = 1)) (H3 : Hid (ptT n K T m false 2 = t)) (H4 : Hid (pcA n K T m false 2 = 1)) (H5 : Hid (pcS n K T m false 2 = 1)) (H6 : Hid (sizeV 1 t = 1 ∧ chk 1 t = 0 ∧ tgtE 1 t = x))
    (G1 : Hid (ptE n K T m false 1 = 0 ∧ pcA n K T m false 1 = 0 ∧ pcS n K T m false 1 = 1)) (G2 : Hid (ptE n K T m false 2 = 0 ∧ pcA n K T m false 2 = 1 ∧ pcS n K T m false 2 = 1)) :
    Calls Try.prog 3 #[.slice (some ⟨b, off, none⟩) n cap, .agg #[.int .i64 m, .bool false, .int .u8 2]] w (Ret w (.bool true)) := by
  have hl := hn
  unfold maxLen at hl
  go_enter Try.func3, Try.ntmps3
  go_wp2_with fail
  refine (palive_any _).mono ?_
  rintro e w1 ⟨rfl, hb1⟩
  have hB1 : Below w.heap.size w w1 := Below.call (by repeat (first | exact Below.refl _ _ | (refine Below.setCell ?_ (by first | omega | (simp; done) | (simp; omega)) _) | (refine Below.alloc ?_ (by first | omega | (simp; done) | (simp; omega)) _) | refine Below.drew ?_)) hb1
  have hS1 : w.heap.size ≤ w1.heap.size := hB1.size
  obtain ⟨hc1, hf1⟩ := bcell hb1
  have hz1_0 : w.heap.size < w1.heap.size := by have := hb1.size; first | omega | (simp at this; omega)
  have k1_0 : w1.cell? ⟨w.heap.size, 0, none⟩ = some (.int .i64 m) := by go_simp
  have k1_1 : w1.cell? ⟨w.heap.size, 1, none⟩ = some (.bool false) := by go_simp
  have k1_2 : w1.cell? ⟨w.heap.size, 2, none⟩ = some (.int .u8 2) := by go_simp
  clear hc1 hf1 
  go_wp2_with fail
  refine (ptype_any _ _ _ K T _ _ _ _ hn (hT.below' (by repeat (first | exact hB1 | exact Below.refl _ _ | (refine Below.setCell ?_ (by first | omega | (simp; done) | (simp; omega)) _) | (refine Below.alloc ?_ (by first | omega | (simp; done) | (simp; omega)) _) | refine Below.drew ?_))) (by omega)).mono ?_
  rintro e w2 ⟨rfl, hb2⟩
  have hB2 : Below w.heap.size w w2 := Below.call (by repeat (first | exact hB1 | exact Below.refl _ _ | (refine Below.setCell ?_ (by first | omega | (simp; done) | (simp; omega)) _) | (refine Below.alloc ?_ (by first | omega | (simp; done) | (simp; omega)) _) | refine Below.drew ?_)) hb2
  have hS2 : w.heap.size ≤ w2.heap.size := hB2.size
  obtain ⟨hc2, hf2⟩ := bcell hb2
  have hz2_0 : w.heap.size < w2.heap.size := by have := hb2.size; first | omega | (simp at this; omega)
  rw [H1.out, H2.out, H3.out]
  have k2_0 : w2.cell? ⟨w.heap.size, 0, none⟩ = some (.int .i64 m) := by go_simp
  have k2_1 : w2.cell? ⟨w.heap.size, 1, none⟩ = some (.bool false) := by go_simp
  have k2_2 : w2.cell? ⟨w.heap.size, 2, none⟩ = some (.int .u8 2) := by go_simp
  clear hc2 hf2 k1_0 k1_1 k1_2
  go_wp2_with fail
  refine (pcells_any _ _ _ K T _ _ _ _ hn (hT.below' (by repeat (first | exact hB2 | exact Below.refl _ _ | (refine Below.setCell ?_ (by first | omega | (simp; done) | (simp; omega)) _) | (refine Below.alloc ?_ (by first | omega | (simp; done) | (simp; omega)) _) | refine Below.drew ?_))) (by omega)).mono ?_
  rintro e w3 ⟨rfl, hb3⟩
  have hB3 : Below w.heap.size w w3 := Below.call (by repeat (first | exact hB2 | exact Below.refl _ _ | (refine Below.setCell ?_ (by first | omega | (simp; done) | (simp; omega)) _) | (refine Below.alloc ?_ (by first | omega | (simp; done) | (simp; omega)) _) | refine Below.drew ?_)) hb3
  have hS3 : w.heap.size ≤ w3.heap.size := hB3.size
  obtain ⟨hc3, hf3⟩ := bcell hb3
  have hz3_0 : w.heap.size < w3.heap.size := by have := hb3.size; first | omega | (simp at this; omega)
  have hz3_1 : w2.heap.size < w3.heap.size := by have := hb3.size; first | omega | (simp at this; omega)
  rw [H1.out, H4.out, H5.out]
  have k3_0 : w3.cell? ⟨w.heap.size, 0, none⟩ = some (.int .i64 m) := by go_simp
  have k3_1 : w3.cell? ⟨w.heap.size, 1, none⟩ = some (.bool false) := by go_simp
  have k3_2 : w3.cell? ⟨w.heap.size, 2, none⟩ = some (.int .u8 2) := by go_simp
  have k3_3 : w3.cell? ⟨w2.heap.size, 0, none⟩ = some (.int .u8 1) := by go_simp
  have k3_4 : w3.cell? ⟨w2.heap.size, 1, none⟩ = some (.int .u8 t) := by go_simp
  clear hc3 hf3 k2_0 k2_1 k2_2
  go_wp2_with fail
  refine (size_any 1 t _ (by omega) (by omega) (by omega) (by omega)).mono ?_
  rintro e w4 ⟨rfl, hb4⟩
  have hB4 : Below w.heap.size w w4 := Below.call (by repeat (first | exact hB3 | exact Below.refl _ _ | (refine Below.setCell ?_ (by first | omega | (simp; done) | (simp; omega)) _) | (refine Below.alloc ?_ (by first | omega | (simp; done) | (simp; omega)) _) | refine Below.drew ?_)) hb4
  have hS4 : w.heap.size ≤ w4.heap.size := hB4.size
  obtain ⟨hc4, hf4⟩ := bcell hb4
  have hz4_0 : w.heap.size < w4.heap.size := by have := hb4.size; first | omega | (simp at this; omega)
  have hz4_1 : w2.heap.size < w4.heap.size := by have := hb4.size; first | omega | (simp at this; omega)
  rw [H6.out.1, H6.out.2.1]
  have k4_0 : w4.cell? ⟨w.heap.size, 0, none⟩ = some (.int .i64 m) := by go_simp
  have k4_1 : w4.cell? ⟨w.heap.size, 1, none⟩ = some (.bool false) := by go_simp
  have k4_2 : w4.cell? ⟨w.heap.size, 2, none⟩ = some (.int .u8 2) := by go_simp
  have k4_3 : w4.cell? ⟨w2.heap.size, 0, none⟩ = some (.int .u8 1) := by go_simp
  have k4_4 : w4.cell? ⟨w2.heap.size, 1, none⟩ = some (.int .u8 t) := by go_simp
  clear hc4 hf4 k3_0 k3_1 k3_2 k3_3 k3_4
  go_wp2_with fail
  refine (target_any 1 t _ (by omega) (by omega) (by omega) (by omega)).mono ?_
  rintro e w5 ⟨rfl, hb5⟩
  have hB5 : Below w.heap.size w w5 := Below.call (by repeat (first | exact hB4 | exact Below.refl _ _ | (refine Below.setCell ?_ (by first | omega | (simp; done) | (simp; omega)) _) | (refine Below.alloc ?_ (by first | omega | (simp; done) | (simp; omega)) _) | refine Below.drew ?_)) hb5
  have hS5 : w.heap.size ≤ w5.heap.size := hB5.size
  obtain ⟨hc5, hf5⟩ := bcell hb5
  have hz5_0 : w.heap.size < w5.heap.size := by have := hb5.size; first | omega | (simp at this; omega)
  have hz5_1 : w2.heap.size < w5.heap.size := by have := hb5.size; first | omega | (simp at this; omega)
  rw [H6.out.2.2]
  have k5_0 : w5.cell? ⟨w.heap.size, 0, none⟩ = some (.int .i64 m) := by go_simp
  have k5_1 : w5.cell? ⟨w.heap.size, 1, none⟩ = some (.bool false) := by go_simp
  have k5_2 : w5.cell? ⟨w.heap.size, 2, none⟩ = some (.int .u8 2) := by go_simp
  have k5_3 : w5.cell? ⟨w2.heap.size, 0, none⟩ = some (.int .u8 1) := by go_simp
  have k5_4 : w5.cell? ⟨w2.heap.size, 1, none⟩ = some (.int .u8 t) := by go_simp
  clear hc5 hf5 k4_0 k4_1 k4_2 k4_3 k4_4
  go_upto_region 14 with fail
  go_cut [15, 16] (fun s15 s16 wx => ∃ g1 g2 : Nat, s15 = .pointer (some ⟨g1, 0, none⟩) ∧ s16 = .pointer (some ⟨g2, 0, none⟩) ∧ w5.heap.size < g1 ∧ w5.heap.size < g2 ∧ g1 < wx.heap.size ∧ g2 < wx.heap.size ∧ g1 ≠ g2 ∧
    wx.cell? ⟨g1, 0, none⟩ = some (.int .i64 m) ∧ wx.cell? ⟨g1, 1, none⟩ = some (.bool false) ∧ wx.cell? ⟨g1, 2, none⟩ = some (.int .u8 2) ∧ wx.cell? ⟨g2, 0, none⟩ = some (.int .i64 m) ∧ wx.cell? ⟨g2, 1, none⟩ = some (.bool false) ∧ wx.cell? ⟨g2, 2, none⟩ = some (.int .u8 2) ∧ wx.frozen? ⟨g1, 2, none⟩ = false ∧ wx.frozen? ⟨g2, 2, none⟩ = false ∧ Below w5.heap.size w5 wx)
  case first =>
    have HS : ∀ W' : World, Below w5.heap.size w5 W' → W'.cell? ⟨w.heap.size, 0, none⟩ = some (.int .i64 m) ∧ W'.cell? ⟨w.heap.size, 1, none⟩ = some (.bool false) ∧ W'.cell? ⟨w.heap.size, 2, none⟩ = some (.int .u8 2) := fun W' hb => ⟨(hb.cell (p := ⟨_, _, none⟩) hz5_0).trans k5_0, (hb.cell (p := ⟨_, _, none⟩) hz5_0).trans k5_1, (hb.cell (p := ⟨_, _, none⟩) hz5_0).trans k5_2⟩
    have HS' := Lib.hid HS
    clear HS
    go_region_held3 (fun w' => w'.cell? ⟨w.heap.size, 0, none⟩ = some (.int .i64 m) ∧ w'.cell? ⟨w.heap.size, 1, none⟩ = some (.bool false) ∧ w'.cell? ⟨w.heap.size, 2, none⟩ = some (.int .u8 2)) (first | exact HS'.out _ (by repeat (first | exact Below.refl _ _ | (refine Below.setCell ?_ (by first | omega | (simp; done) | (simp; omega)) _) | (refine Below.alloc ?_ (by first | omega | (simp; done) | (simp; omega)) _) | refine Below.drew ?_))) (fail)
    all_goals
      go_wp2_with fail
      go_meet
      refine ⟨_, _, rfl, rfl, ?_, ?_, ?_, ?_, ?_, ?_, ?_, ?_, ?_, ?_, ?_, ?_, ?_, (by repeat (first | exact Below.refl _ _ | (refine Below.setCell ?_ (by first | omega | (simp; done) | (simp; omega)) _) | (refine Below.alloc ?_ (by first | omega | (simp; done) | (simp; omega)) _) | refine Below.drew ?_))⟩
      all_goals first | omega | (go_simp; done) | (simp; done) | (simp; omega)
  case rest =>
    obtain ⟨g1, g2, rfl, rfl, hg1, hg2, hg3, hg4, hg5, x0, x1, x2, y0, y1, y2, fx, fy, hBx⟩ := hcut
    have hg5' : g2 ≠ g1 := fun h => hg5 h.symm
    have hSx := hBx.size
    have k0 : wc.cell? ⟨w.heap.size, 2, none⟩ = some (.int .u8 2) := (hBx.cell (p := ⟨w.heap.size, 2, none⟩) hz5_0).trans k5_2
    have k3 : wc.cell? ⟨w2.heap.size, 0, none⟩ = some (.int .u8 1) := (hBx.cell (p := ⟨w2.heap.size, 0, none⟩) hz5_1).trans k5_3
    have hB6 := hB5.trans (hBx.mono hS5)
    clear k5_0 k5_1 k5_2 k5_3 k5_4
    have hS6 := hB6.size
    go_wp2_with fail
    refine (pcells_any _ _ _ K T _ _ _ _ hn (hT.below' (by repeat (first | exact hB6 | exact Below.refl _ _ | (refine Below.setCell ?_ (by first | omega | (simp; done) | (simp; omega)) _) | (refine Below.alloc ?_ (by first | omega | (simp; done) | (simp; omega)) _) | refine Below.drew ?_))) (by omega)).mono ?_
    rintro e w7 ⟨rfl, hb7⟩
    have hB7 : Below w.heap.size w w7 := Below.call (by repeat (first | exact hB6 | exact Below.refl _ _ | (refine Below.setCell ?_ (by first | omega | (simp; done) | (simp; omega)) _) | (refine Below.alloc ?_ (by first | omega | (simp; done) | (simp; omega)) _) | refine Below.drew ?_)) hb7
    have hS7 : w.heap.size ≤ w7.heap.size := hB7.size
    obtain ⟨hc7, hf7⟩ := bcell hb7
    rw [G1.out.1, G1.out.2.1, G1.out.2.2]
    have hM7 := hb7.size
    simp only [World.setCell, Array.size_modify] at hM7
    have ha1 : w.heap.size ≠ g1 := by omega
    have ha2 : w.heap.size ≠ g2 := by omega
    have ha3 : w2.heap.size ≠ g1 := by omega
    have ha4 : w2.heap.size ≠ g2 := by omega
    have z0 : w7.cell? ⟨g2, 0, none⟩ = some (.int .i64 m) := by rw [hc7 _ _ (by first | omega | (simp; done) | (simp; omega))]; go_simp
    have z1 : w7.cell? ⟨g2, 1, none⟩ = some (.bool false) := by rw [hc7 _ _ (by first | omega | (simp; done) | (simp; omega))]; go_simp
    have z2 : w7.cell? ⟨g2, 2, none⟩ = some (.int .u8 2) := by rw [hc7 _ _ (by first | omega | (simp; done) | (simp; omega))]; go_simp
    have z3 : w7.cell? ⟨w.heap.size, 2, none⟩ = some (.int .u8 2) := by rw [hc7 _ _ (by first | omega | (simp; done) | (simp; omega))]; go_simp
    have z4 : w7.cell? ⟨w2.heap.size, 0, none⟩ = some (.int .u8 1) := by rw [hc7 _ _ (by first | omega | (simp; done) | (simp; omega))]; go_simp
    clear hc7 hf7 x0 x1 x2 y0 y1 y2 fx fy k0 k3
    have hz7_0 : w.heap.size < w7.heap.size := by omega
    have hz7_1 : w2.heap.size < w7.heap.size := by omega
    go_wp2_with fail
    refine (pcells_any _ _ _ K T _ _ _ _ hn (hT.below' (by repeat (first | exact hB7 | exact Below.refl _ _ | (refine Below.setCell ?_ (by first | omega | (simp; done) | (simp; omega)) _) | (refine Below.alloc ?_ (by first | omega | (simp; done) | (simp; omega)) _) | refine Below.drew ?_))) (by omega)).mono ?_
    rintro e w8 ⟨rfl, hb8⟩
    have hB8 : Below w.heap.size w w8 := Below.call (by repeat (first | exact hB7 | exact Below.refl _ _ | (refine Below.setCell ?_ (by first | omega | (simp; done) | (simp; omega)) _) | (refine Below.alloc ?_ (by first | omega | (simp; done) | (simp; omega)) _) | refine Below.drew ?_)) hb8
    have hS8 : w.heap.size ≤ w8.heap.size := hB8.size
    obtain ⟨hc8, hf8⟩ := bcell hb8
    rw [G2.out.1, G2.out.2.1, G2.out.2.2]
    have z5 : w8.cell? ⟨w.heap.size, 2, none⟩ = some (.int .u8 2) := by rw [hc8 _ _ (by first | omega | (simp; done) | (simp; omega))]; exact z3
    have z6 : w8.cell? ⟨w2.heap.size, 0, none⟩ = some (.int .u8 1) := by rw [hc8 _ _ (by first | omega | (simp; done) | (simp; omega))]; exact z4
    clear hc8 hf8 z0 z1 z2 z3 z4
    go_wp2
    go_ret
    exact ⟨rfl, (by repeat (first | exact hB8 | exact Below.refl _ _ | (refine Below.setCell ?_ (by first | omega | (simp; done) | (simp; omega)) _) | (refine Below.alloc ?_ (by first | omega | (simp; done) | (simp; omega)) _) | refine Below.drew ?_))⟩

end Go.Proofs.Ytmjklmdjlojmlaa
