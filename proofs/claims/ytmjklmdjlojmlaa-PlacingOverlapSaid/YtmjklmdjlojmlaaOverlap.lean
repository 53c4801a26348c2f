/- The statement PlacingOverlap: its walk. No condition. -/
import Derived.Test.YtmjklmdjlojmlaaPlaceE
import Derived.Test.YtmjklmdjlojmlaaOverlapA
namespace Go.Proofs.Ytmjklmdjlojmlaa
open Go.RowKit
attribute [local go_sem ↓] Go.wp_at_zero Go.wp_at_succ

set_option maxRecDepth 100000 in
set_option maxHeartbeats 1000000 in
theorem over_long (A : Option Addr) (n cap : Nat) (l f l2 f2 : Int) (d d2 : Bool) (w : World) (hn : n ≤ maxLen) (h : 30 < n) :
    Calls Try.prog 8 #[.slice A n cap, .agg #[.int .i64 l, .bool d, .int .u8 f], .agg #[.int .i64 l2, .bool d2, .int .u8 f2]] w (Ret w (.bool true)) := by
  unfold maxLen at hn
  go_enter Try.func8, Try.ntmps8
  go_wp2_with fail
  refine (palive_any _).mono ?_
  rintro e w1 ⟨rfl, hb1⟩
  have hB1 : Below w.heap.size w w1 := Below.call (by repeat (first | exact Below.refl _ _ | (refine Below.setCell ?_ (by first | omega | (simp; done) | (simp; omega)) _) | (refine Below.alloc ?_ (by first | omega | (simp; done) | (simp; omega)) _) | refine Below.drew ?_)) hb1
  have hS1 : w.heap.size ≤ w1.heap.size := hB1.size
  obtain ⟨hc1, hf1⟩ := bcell hb1
  go_wp2
  go_ret
  exact ⟨rfl, (by repeat (first | exact hB1 | exact Below.refl _ _ | (refine Below.setCell ?_ (by first | omega | (simp; done) | (simp; omega)) _) | (refine Below.alloc ?_ (by first | omega | (simp; done) | (simp; omega)) _) | refine Below.drew ?_))⟩

set_option maxRecDepth 100000 in
set_option maxHeartbeats 2000000 in
theorem over_bad (A : Option Addr) (n cap : Nat) (K T : Nat → Int) (l f l2 f2 e e2 : Int) (d d2 q : Bool) (w : World) (hn : n ≤ maxLen) (hT : Types w A n K T) (b4 : 0 ≤ f) (b5 : 0 ≤ f2) (h : n ≤ 30)
    (he : (e != 0) = q) (he' : q = true ∨ q = false ∧ (e2 != 0) = true) (H1 : Hid (ptE n K T l d f = e)) (H2 : Hid (ptE n K T l2 d2 f2 = e2)) :
    Calls Try.prog 8 #[.slice A n cap, .agg #[.int .i64 l, .bool d, .int .u8 f], .agg #[.int .i64 l2, .bool d2, .int .u8 f2]] w (Ret w (.bool true)) := by
  have hl := hn
  unfold maxLen at hl
  go_enter Try.func8, Try.ntmps8
  go_wp2_with fail
  refine (palive_any _).mono ?_
  rintro e w1 ⟨rfl, hb1⟩
  have hB1 : Below w.heap.size w w1 := Below.call (by repeat (first | exact Below.refl _ _ | (refine Below.setCell ?_ (by first | omega | (simp; done) | (simp; omega)) _) | (refine Below.alloc ?_ (by first | omega | (simp; done) | (simp; omega)) _) | refine Below.drew ?_)) hb1
  have hS1 : w.heap.size ≤ w1.heap.size := hB1.size
  obtain ⟨hc1, hf1⟩ := bcell hb1
  have hz1_0 : w.heap.size < w1.heap.size := by have := hb1.size; first | omega | (simp at this; omega)
  have hz1_1 : w.heap.size + 1 < w1.heap.size := by have := hb1.size; first | omega | (simp at this; omega)
  have k1_0 : w1.cell? ⟨w.heap.size, 0, none⟩ = some (.int .i64 l) := by go_simp
  have k1_1 : w1.cell? ⟨w.heap.size, 1, none⟩ = some (.bool d) := by go_simp
  have k1_2 : w1.cell? ⟨w.heap.size, 2, none⟩ = some (.int .u8 f) := by go_simp
  have k1_3 : w1.cell? ⟨w.heap.size + 1, 0, none⟩ = some (.int .i64 l2) := by go_simp
  have k1_4 : w1.cell? ⟨w.heap.size + 1, 1, none⟩ = some (.bool d2) := by go_simp
  have k1_5 : w1.cell? ⟨w.heap.size + 1, 2, none⟩ = some (.int .u8 f2) := by go_simp
  clear hc1 hf1
  go_wp2_with fail
  refine (pcells_any _ _ _ K T _ _ _ _ hn (hT.below' (by repeat (first | exact hB1 | exact Below.refl _ _ | (refine Below.setCell ?_ (by first | omega | (simp; done) | (simp; omega)) _) | (refine Below.alloc ?_ (by first | omega | (simp; done) | (simp; omega)) _) | refine Below.drew ?_))) b4).mono ?_
  rintro e w2 ⟨rfl, hb2⟩
  have hB2 : Below w.heap.size w w2 := Below.call (by repeat (first | exact hB1 | exact Below.refl _ _ | (refine Below.setCell ?_ (by first | omega | (simp; done) | (simp; omega)) _) | (refine Below.alloc ?_ (by first | omega | (simp; done) | (simp; omega)) _) | refine Below.drew ?_)) hb2
  have hS2 : w.heap.size ≤ w2.heap.size := hB2.size
  obtain ⟨hc2, hf2⟩ := bcell hb2
  have hz2_0 : w.heap.size < w2.heap.size := by have := hb2.size; first | omega | (simp at this; omega)
  have hz2_1 : w.heap.size + 1 < w2.heap.size := by have := hb2.size; first | omega | (simp at this; omega)
  rw [H1.out]
  have k2_0 : w2.cell? ⟨w.heap.size, 0, none⟩ = some (.int .i64 l) := by go_simp
  have k2_1 : w2.cell? ⟨w.heap.size, 1, none⟩ = some (.bool d) := by go_simp
  have k2_2 : w2.cell? ⟨w.heap.size, 2, none⟩ = some (.int .u8 f) := by go_simp
  have k2_3 : w2.cell? ⟨w.heap.size + 1, 0, none⟩ = some (.int .i64 l2) := by go_simp
  have k2_4 : w2.cell? ⟨w.heap.size + 1, 1, none⟩ = some (.bool d2) := by go_simp
  have k2_5 : w2.cell? ⟨w.heap.size + 1, 2, none⟩ = some (.int .u8 f2) := by go_simp
  clear hc2 hf2 k1_0 k1_1 k1_2 k1_3 k1_4 k1_5
  go_wp2_with fail
  refine (pcells_any _ _ _ K T _ _ _ _ hn (hT.below' (by repeat (first | exact hB2 | exact Below.refl _ _ | (refine Below.setCell ?_ (by first | omega | (simp; done) | (simp; omega)) _) | (refine Below.alloc ?_ (by first | omega | (simp; done) | (simp; omega)) _) | refine Below.drew ?_))) b5).mono ?_
  rintro e w3 ⟨rfl, hb3⟩
  have hB3 : Below w.heap.size w w3 := Below.call (by repeat (first | exact hB2 | exact Below.refl _ _ | (refine Below.setCell ?_ (by first | omega | (simp; done) | (simp; omega)) _) | (refine Below.alloc ?_ (by first | omega | (simp; done) | (simp; omega)) _) | refine Below.drew ?_)) hb3
  have hS3 : w.heap.size ≤ w3.heap.size := hB3.size
  obtain ⟨hc3, hf3⟩ := bcell hb3
  have hz3_0 : w.heap.size < w3.heap.size := by have := hb3.size; first | omega | (simp at this; omega)
  have hz3_1 : w.heap.size + 1 < w3.heap.size := by have := hb3.size; first | omega | (simp at this; omega)
  rw [H2.out]
  have k3_0 : w3.cell? ⟨w.heap.size, 0, none⟩ = some (.int .i64 l) := by go_simp
  have k3_1 : w3.cell? ⟨w.heap.size, 1, none⟩ = some (.bool d) := by go_simp
  have k3_2 : w3.cell? ⟨w.heap.size, 2, none⟩ = some (.int .u8 f) := by go_simp
  have k3_3 : w3.cell? ⟨w.heap.size + 1, 0, none⟩ = some (.int .i64 l2) := by go_simp
  have k3_4 : w3.cell? ⟨w.heap.size + 1, 1, none⟩ = some (.bool d2) := by go_simp
  have k3_5 : w3.cell? ⟨w.heap.size + 1, 2, none⟩ = some (.int .u8 f2) := by go_simp
  clear hc3 hf3 k2_0 k2_1 k2_2 k2_3 k2_4 k2_5
  rcases he' with rfl | ⟨rfl, he'⟩
  all_goals
    go_wp2
    go_ret
    exact ⟨rfl, (by repeat (first | exact hB3 | exact Below.refl _ _ | (refine Below.setCell ?_ (by first | omega | (simp; done) | (simp; omega)) _) | (refine Below.alloc ?_ (by first | omega | (simp; done) | (simp; omega)) _) | refine Below.drew ?_))⟩

set_option maxRecDepth 100000 in
set_option maxHeartbeats 4000000 in
theorem over_apart (A : Option Addr) (n cap : Nat) (K T : Nat → Int) (l f l2 f2 : Int) (d d2 q : Bool) (w : World) (hn : n ≤ maxLen) (hT : Types w A n K T) (b4 : 0 ≤ f) (b5 : 0 ≤ f2) (h : n ≤ 30)
    (hq : (l == l2) = q) (hq' : q = false ∨ q = true ∧ (d == d2) = false) (H1 : Hid (ptE n K T l d f = 0)) (H2 : Hid (ptE n K T l2 d2 f2 = 0))
    (O1 : Hid (∀ W, Calls Try.prog 21 #[.agg #[.int .i64 l, .bool d, .int .u8 f], .agg #[.int .i64 l2, .bool d2, .int .u8 f2]] W (Ret W (.tuple #[.bool false, .int .i64 0]))))
    (O2 : Hid (∀ W, Calls Try.prog 22 #[.agg #[.int .i64 l, .bool d, .int .u8 f], .agg #[.int .i64 l2, .bool d2, .int .u8 f2]] W (Ret W (.tuple #[.bool false, .int .i64 0])))) :
    Calls Try.prog 8 #[.slice A n cap, .agg #[.int .i64 l, .bool d, .int .u8 f], .agg #[.int .i64 l2, .bool d2, .int .u8 f2]] w (Ret w (.bool true)) := by
  have hl := hn
  unfold maxLen at hl
  go_enter Try.func8, Try.ntmps8
  go_wp2_with fail
  refine (palive_any _).mono ?_
  rintro e w1 ⟨rfl, hb1⟩
  have hB1 : Below w.heap.size w w1 := Below.call (by repeat (first | exact Below.refl _ _ | (refine Below.setCell ?_ (by first | omega | (simp; done) | (simp; omega)) _) | (refine Below.alloc ?_ (by first | omega | (simp; done) | (simp; omega)) _) | refine Below.drew ?_)) hb1
  have hS1 : w.heap.size ≤ w1.heap.size := hB1.size
  obtain ⟨hc1, hf1⟩ := bcell hb1
  have hz1_0 : w.heap.size < w1.heap.size := by have := hb1.size; first | omega | (simp at this; omega)
  have hz1_1 : w.heap.size + 1 < w1.heap.size := by have := hb1.size; first | omega | (simp at this; omega)
  have k1_0 : w1.cell? ⟨w.heap.size, 0, none⟩ = some (.int .i64 l) := by go_simp
  have k1_1 : w1.cell? ⟨w.heap.size, 1, none⟩ = some (.bool d) := by go_simp
  have k1_2 : w1.cell? ⟨w.heap.size, 2, none⟩ = some (.int .u8 f) := by go_simp
  have k1_3 : w1.cell? ⟨w.heap.size + 1, 0, none⟩ = some (.int .i64 l2) := by go_simp
  have k1_4 : w1.cell? ⟨w.heap.size + 1, 1, none⟩ = some (.bool d2) := by go_simp
  have k1_5 : w1.cell? ⟨w.heap.size + 1, 2, none⟩ = some (.int .u8 f2) := by go_simp
  clear hc1 hf1
  go_wp2_with fail
  refine (pcells_any _ _ _ K T _ _ _ _ hn (hT.below' (by repeat (first | exact hB1 | exact Below.refl _ _ | (refine Below.setCell ?_ (by first | omega | (simp; done) | (simp; omega)) _) | (refine Below.alloc ?_ (by first | omega | (simp; done) | (simp; omega)) _) | refine Below.drew ?_))) b4).mono ?_
  rintro e w2 ⟨rfl, hb2⟩
  have hB2 : Below w.heap.size w w2 := Below.call (by repeat (first | exact hB1 | exact Below.refl _ _ | (refine Below.setCell ?_ (by first | omega | (simp; done) | (simp; omega)) _) | (refine Below.alloc ?_ (by first | omega | (simp; done) | (simp; omega)) _) | refine Below.drew ?_)) hb2
  have hS2 : w.heap.size ≤ w2.heap.size := hB2.size
  obtain ⟨hc2, hf2⟩ := bcell hb2
  have hz2_0 : w.heap.size < w2.heap.size := by have := hb2.size; first | omega | (simp at this; omega)
  have hz2_1 : w.heap.size + 1 < w2.heap.size := by have := hb2.size; first | omega | (simp at this; omega)
  rw [H1.out]
  have k2_0 : w2.cell? ⟨w.heap.size, 0, none⟩ = some (.int .i64 l) := by go_simp
  have k2_1 : w2.cell? ⟨w.heap.size, 1, none⟩ = some (.bool d) := by go_simp
  have k2_2 : w2.cell? ⟨w.heap.size, 2, none⟩ = some (.int .u8 f) := by go_simp
  have k2_3 : w2.cell? ⟨w.heap.size + 1, 0, none⟩ = some (.int .i64 l2) := by go_simp
  have k2_4 : w2.cell? ⟨w.heap.size + 1, 1, none⟩ = some (.bool d2) := by go_simp
  have k2_5 : w2.cell? ⟨w.heap.size + 1, 2, none⟩ = some (.int .u8 f2) := by go_simp
  clear hc2 hf2 k1_0 k1_1 k1_2 k1_3 k1_4 k1_5
  go_wp2_with fail
  refine (pcells_any _ _ _ K T _ _ _ _ hn (hT.below' (by repeat (first | exact hB2 | exact Below.refl _ _ | (refine Below.setCell ?_ (by first | omega | (simp; done) | (simp; omega)) _) | (refine Below.alloc ?_ (by first | omega | (simp; done) | (simp; omega)) _) | refine Below.drew ?_))) b5).mono ?_
  rintro e w3 ⟨rfl, hb3⟩
  have hB3 : Below w.heap.size w w3 := Below.call (by repeat (first | exact hB2 | exact Below.refl _ _ | (refine Below.setCell ?_ (by first | omega | (simp; done) | (simp; omega)) _) | (refine Below.alloc ?_ (by first | omega | (simp; done) | (simp; omega)) _) | refine Below.drew ?_)) hb3
  have hS3 : w.heap.size ≤ w3.heap.size := hB3.size
  obtain ⟨hc3, hf3⟩ := bcell hb3
  have hz3_0 : w.heap.size < w3.heap.size := by have := hb3.size; first | omega | (simp at this; omega)
  have hz3_1 : w.heap.size + 1 < w3.heap.size := by have := hb3.size; first | omega | (simp at this; omega)
  rw [H2.out]
  have k3_0 : w3.cell? ⟨w.heap.size, 0, none⟩ = some (.int .i64 l) := by go_simp
  have k3_1 : w3.cell? ⟨w.heap.size, 1, none⟩ = some (.bool d) := by go_simp
  have k3_2 : w3.cell? ⟨w.heap.size, 2, none⟩ = some (.int .u8 f) := by go_simp
  have k3_3 : w3.cell? ⟨w.heap.size + 1, 0, none⟩ = some (.int .i64 l2) := by go_simp
  have k3_4 : w3.cell? ⟨w.heap.size + 1, 1, none⟩ = some (.bool d2) := by go_simp
  have k3_5 : w3.cell? ⟨w.heap.size + 1, 2, none⟩ = some (.int .u8 f2) := by go_simp
  clear hc3 hf3 k2_0 k2_1 k2_2 k2_3 k2_4 k2_5
  go_wp2_with fail
  refine (O1.out _).mono ?_
  rintro e w4 ⟨rfl, hb4⟩
  have hB4 : Below w.heap.size w w4 := Below.call (by repeat (first | exact hB3 | exact Below.refl _ _ | (refine Below.setCell ?_ (by first | omega | (simp; done) | (simp; omega)) _) | (refine Below.alloc ?_ (by first | omega | (simp; done) | (simp; omega)) _) | refine Below.drew ?_)) hb4
  have hS4 : w.heap.size ≤ w4.heap.size := hB4.size
  obtain ⟨hc4, hf4⟩ := bcell hb4
  have hz4_0 : w.heap.size < w4.heap.size := by have := hb4.size; first | omega | (simp at this; omega)
  have hz4_1 : w.heap.size + 1 < w4.heap.size := by have := hb4.size; first | omega | (simp at this; omega)
  have k4_0 : w4.cell? ⟨w.heap.size, 0, none⟩ = some (.int .i64 l) := by go_simp
  have k4_1 : w4.cell? ⟨w.heap.size, 1, none⟩ = some (.bool d) := by go_simp
  have k4_2 : w4.cell? ⟨w.heap.size, 2, none⟩ = some (.int .u8 f) := by go_simp
  have k4_3 : w4.cell? ⟨w.heap.size + 1, 0, none⟩ = some (.int .i64 l2) := by go_simp
  have k4_4 : w4.cell? ⟨w.heap.size + 1, 1, none⟩ = some (.bool d2) := by go_simp
  have k4_5 : w4.cell? ⟨w.heap.size + 1, 2, none⟩ = some (.int .u8 f2) := by go_simp
  clear hc4 hf4 k3_0 k3_1 k3_2 k3_3 k3_4 k3_5
  go_wp2_with fail
  refine (O2.out _).mono ?_
  rintro e w5 ⟨rfl, hb5⟩
  have hB5 : Below w.heap.size w w5 := Below.call (by repeat (first | exact hB4 | exact Below.refl _ _ | (refine Below.setCell ?_ (by first | omega | (simp; done) | (simp; omega)) _) | (refine Below.alloc ?_ (by first | omega | (simp; done) | (simp; omega)) _) | refine Below.drew ?_)) hb5
  have hS5 : w.heap.size ≤ w5.heap.size := hB5.size
  obtain ⟨hc5, hf5⟩ := bcell hb5
  have hz5_0 : w.heap.size < w5.heap.size := by have := hb5.size; first | omega | (simp at this; omega)
  have hz5_1 : w.heap.size + 1 < w5.heap.size := by have := hb5.size; first | omega | (simp at this; omega)
  have k5_0 : w5.cell? ⟨w.heap.size, 0, none⟩ = some (.int .i64 l) := by go_simp
  have k5_1 : w5.cell? ⟨w.heap.size, 1, none⟩ = some (.bool d) := by go_simp
  have k5_2 : w5.cell? ⟨w.heap.size, 2, none⟩ = some (.int .u8 f) := by go_simp
  have k5_3 : w5.cell? ⟨w.heap.size + 1, 0, none⟩ = some (.int .i64 l2) := by go_simp
  have k5_4 : w5.cell? ⟨w.heap.size + 1, 1, none⟩ = some (.bool d2) := by go_simp
  have k5_5 : w5.cell? ⟨w.heap.size + 1, 2, none⟩ = some (.int .u8 f2) := by go_simp
  clear hc5 hf5 k4_0 k4_1 k4_2 k4_3 k4_4 k4_5
  rcases hq' with rfl | ⟨rfl, hq'⟩
  all_goals
    go_wp2
    go_ret
    exact ⟨rfl, (by repeat (first | exact hB5 | exact Below.refl _ _ | (refine Below.setCell ?_ (by first | omega | (simp; done) | (simp; omega)) _) | (refine Below.alloc ?_ (by first | omega | (simp; done) | (simp; omega)) _) | refine Below.drew ?_))⟩

set_option maxRecDepth 100000 in
set_option maxHeartbeats 8000000 in
theorem over_same (A : Option Addr) (n cap : Nat) (K T : Nat → Int) (l f f2 a s b s2 k : Int) (d ov wi q : Bool) (w : World) (hn : n ≤ maxLen) (hT : Types w A n K T) (b4 : 0 ≤ f) (b5 : 0 ≤ f2) (h : n ≤ 30)
    (hd : (d == d) = true) (hk : (k != 2) = q) (hv : q = true ∧ ov = true ∧ wi = true ∨ q = false ∧ (a = 0 ∧ s = 2 ∧ b = 0 ∧ s2 = 2 ∧ ov = true ∧ wi = true ∨ a = 0 ∧ s = 2 ∧ b = 0 ∧ s2 = 1 ∧ ov = true ∧ wi = false ∨ a = 0 ∧ s = 2 ∧ b = 1 ∧ s2 = 1 ∧ ov = true ∧ wi = false ∨ a = 0 ∧ s = 1 ∧ b = 0 ∧ s2 = 2 ∧ ov = true ∧ wi = true ∨ a = 0 ∧ s = 1 ∧ b = 0 ∧ s2 = 1 ∧ ov = true ∧ wi = true ∨ a = 0 ∧ s = 1 ∧ b = 1 ∧ s2 = 1 ∧ ov = false ∧ wi = false ∨ a = 1 ∧ s = 1 ∧ b = 0 ∧ s2 = 2 ∧ ov = true ∧ wi = true ∨ a = 1 ∧ s = 1 ∧ b = 0 ∧ s2 = 1 ∧ ov = false ∧ wi = false ∨ a = 1 ∧ s = 1 ∧ b = 1 ∧ s2 = 1 ∧ ov = true ∧ wi = true))
    (H1 : Hid (ptE n K T l d f = 0)) (H2 : Hid (ptE n K T l d f2 = 0)) (H3 : Hid (pcA n K T l d f = a)) (H4 : Hid (pcS n K T l d f = s)) (H5 : Hid (pcA n K T l d f2 = b)) (H6 : Hid (pcS n K T l d f2 = s2)) (H7 : Hid (ptE n K T l d 0 = 0)) (H8 : Hid (ptK n K T l d 0 = k))
    (O1 : Hid (∀ W, Calls Try.prog 21 #[.agg #[.int .i64 l, .bool d, .int .u8 f], .agg #[.int .i64 l, .bool d, .int .u8 f2]] W (Ret W (.tuple #[.bool ov, .int .i64 0]))))
    (O2 : Hid (∀ W, Calls Try.prog 22 #[.agg #[.int .i64 l, .bool d, .int .u8 f], .agg #[.int .i64 l, .bool d, .int .u8 f2]] W (Ret W (.tuple #[.bool wi, .int .i64 0])))) :
    Calls Try.prog 8 #[.slice A n cap, .agg #[.int .i64 l, .bool d, .int .u8 f], .agg #[.int .i64 l, .bool d, .int .u8 f2]] w (Ret w (.bool true)) := by
  have hl := hn
  unfold maxLen at hl
  go_enter Try.func8, Try.ntmps8
  go_wp2_with fail
  refine (palive_any _).mono ?_
  rintro e w1 ⟨rfl, hb1⟩
  have hB1 : Below w.heap.size w w1 := Below.call (by repeat (first | exact Below.refl _ _ | (refine Below.setCell ?_ (by first | omega | (simp; done) | (simp; omega)) _) | (refine Below.alloc ?_ (by first | omega | (simp; done) | (simp; omega)) _) | refine Below.drew ?_)) hb1
  have hS1 : w.heap.size ≤ w1.heap.size := hB1.size
  obtain ⟨hc1, hf1⟩ := bcell hb1
  have hz1_0 : w.heap.size < w1.heap.size := by have := hb1.size; first | omega | (simp at this; omega)
  have hz1_1 : w.heap.size + 1 < w1.heap.size := by have := hb1.size; first | omega | (simp at this; omega)
  have k1_0 : w1.cell? ⟨w.heap.size, 0, none⟩ = some (.int .i64 l) := by go_simp
  have k1_1 : w1.cell? ⟨w.heap.size, 1, none⟩ = some (.bool d) := by go_simp
  have k1_2 : w1.cell? ⟨w.heap.size, 2, none⟩ = some (.int .u8 f) := by go_simp
  have k1_3 : w1.cell? ⟨w.heap.size + 1, 0, none⟩ = some (.int .i64 l) := by go_simp
  have k1_4 : w1.cell? ⟨w.heap.size + 1, 1, none⟩ = some (.bool d) := by go_simp
  have k1_5 : w1.cell? ⟨w.heap.size + 1, 2, none⟩ = some (.int .u8 f2) := by go_simp
  clear hc1 hf1
  go_wp2_with fail
  refine (pcells_any _ _ _ K T _ _ _ _ hn (hT.below' (by repeat (first | exact hB1 | exact Below.refl _ _ | (refine Below.setCell ?_ (by first | omega | (simp; done) | (simp; omega)) _) | (refine Below.alloc ?_ (by first | omega | (simp; done) | (simp; omega)) _) | refine Below.drew ?_))) b4).mono ?_
  rintro e w2 ⟨rfl, hb2⟩
  have hB2 : Below w.heap.size w w2 := Below.call (by repeat (first | exact hB1 | exact Below.refl _ _ | (refine Below.setCell ?_ (by first | omega | (simp; done) | (simp; omega)) _) | (refine Below.alloc ?_ (by first | omega | (simp; done) | (simp; omega)) _) | refine Below.drew ?_)) hb2
  have hS2 : w.heap.size ≤ w2.heap.size := hB2.size
  obtain ⟨hc2, hf2⟩ := bcell hb2
  have hz2_0 : w.heap.size < w2.heap.size := by have := hb2.size; first | omega | (simp at this; omega)
  have hz2_1 : w.heap.size + 1 < w2.heap.size := by have := hb2.size; first | omega | (simp at this; omega)
  rw [H1.out, H3.out, H4.out]
  have k2_0 : w2.cell? ⟨w.heap.size, 0, none⟩ = some (.int .i64 l) := by go_simp
  have k2_1 : w2.cell? ⟨w.heap.size, 1, none⟩ = some (.bool d) := by go_simp
  have k2_2 : w2.cell? ⟨w.heap.size, 2, none⟩ = some (.int .u8 f) := by go_simp
  have k2_3 : w2.cell? ⟨w.heap.size + 1, 0, none⟩ = some (.int .i64 l) := by go_simp
  have k2_4 : w2.cell? ⟨w.heap.size + 1, 1, none⟩ = some (.bool d) := by go_simp
  have k2_5 : w2.cell? ⟨w.heap.size + 1, 2, none⟩ = some (.int .u8 f2) := by go_simp
  clear hc2 hf2 k1_0 k1_1 k1_2 k1_3 k1_4 k1_5
  go_wp2_with fail
  refine (pcells_any _ _ _ K T _ _ _ _ hn (hT.below' (by repeat (first | exact hB2 | exact Below.refl _ _ | (refine Below.setCell ?_ (by first | omega | (simp; done) | (simp; omega)) _) | (refine Below.alloc ?_ (by first | omega | (simp; done) | (simp; omega)) _) | refine Below.drew ?_))) b5).mono ?_
  rintro e w3 ⟨rfl, hb3⟩
  have hB3 : Below w.heap.size w w3 := Below.call (by repeat (first | exact hB2 | exact Below.refl _ _ | (refine Below.setCell ?_ (by first | omega | (simp; done) | (simp; omega)) _) | (refine Below.alloc ?_ (by first | omega | (simp; done) | (simp; omega)) _) | refine Below.drew ?_)) hb3
  have hS3 : w.heap.size ≤ w3.heap.size := hB3.size
  obtain ⟨hc3, hf3⟩ := bcell hb3
  have hz3_0 : w.heap.size < w3.heap.size := by have := hb3.size; first | omega | (simp at this; omega)
  have hz3_1 : w.heap.size + 1 < w3.heap.size := by have := hb3.size; first | omega | (simp at this; omega)
  rw [H2.out, H5.out, H6.out]
  have k3_0 : w3.cell? ⟨w.heap.size, 0, none⟩ = some (.int .i64 l) := by go_simp
  have k3_1 : w3.cell? ⟨w.heap.size, 1, none⟩ = some (.bool d) := by go_simp
  have k3_2 : w3.cell? ⟨w.heap.size, 2, none⟩ = some (.int .u8 f) := by go_simp
  have k3_3 : w3.cell? ⟨w.heap.size + 1, 0, none⟩ = some (.int .i64 l) := by go_simp
  have k3_4 : w3.cell? ⟨w.heap.size + 1, 1, none⟩ = some (.bool d) := by go_simp
  have k3_5 : w3.cell? ⟨w.heap.size + 1, 2, none⟩ = some (.int .u8 f2) := by go_simp
  clear hc3 hf3 k2_0 k2_1 k2_2 k2_3 k2_4 k2_5
  go_wp2_with fail
  refine (O1.out _).mono ?_
  rintro e w4 ⟨rfl, hb4⟩
  have hB4 : Below w.heap.size w w4 := Below.call (by repeat (first | exact hB3 | exact Below.refl _ _ | (refine Below.setCell ?_ (by first | omega | (simp; done) | (simp; omega)) _) | (refine Below.alloc ?_ (by first | omega | (simp; done) | (simp; omega)) _) | refine Below.drew ?_)) hb4
  have hS4 : w.heap.size ≤ w4.heap.size := hB4.size
  obtain ⟨hc4, hf4⟩ := bcell hb4
  have hz4_0 : w.heap.size < w4.heap.size := by have := hb4.size; first | omega | (simp at this; omega)
  have hz4_1 : w.heap.size + 1 < w4.heap.size := by have := hb4.size; first | omega | (simp at this; omega)
  have k4_0 : w4.cell? ⟨w.heap.size, 0, none⟩ = some (.int .i64 l) := by go_simp
  have k4_1 : w4.cell? ⟨w.heap.size, 1, none⟩ = some (.bool d) := by go_simp
  have k4_2 : w4.cell? ⟨w.heap.size, 2, none⟩ = some (.int .u8 f) := by go_simp
  have k4_3 : w4.cell? ⟨w.heap.size + 1, 0, none⟩ = some (.int .i64 l) := by go_simp
  have k4_4 : w4.cell? ⟨w.heap.size + 1, 1, none⟩ = some (.bool d) := by go_simp
  have k4_5 : w4.cell? ⟨w.heap.size + 1, 2, none⟩ = some (.int .u8 f2) := by go_simp
  clear hc4 hf4 k3_0 k3_1 k3_2 k3_3 k3_4 k3_5
  go_wp2_with fail
  refine (O2.out _).mono ?_
  rintro e w5 ⟨rfl, hb5⟩
  have hB5 : Below w.heap.size w w5 := Below.call (by repeat (first | exact hB4 | exact Below.refl _ _ | (refine Below.setCell ?_ (by first | omega | (simp; done) | (simp; omega)) _) | (refine Below.alloc ?_ (by first | omega | (simp; done) | (simp; omega)) _) | refine Below.drew ?_)) hb5
  have hS5 : w.heap.size ≤ w5.heap.size := hB5.size
  obtain ⟨hc5, hf5⟩ := bcell hb5
  have hz5_0 : w.heap.size < w5.heap.size := by have := hb5.size; first | omega | (simp at this; omega)
  have hz5_1 : w.heap.size + 1 < w5.heap.size := by have := hb5.size; first | omega | (simp at this; omega)
  have k5_0 : w5.cell? ⟨w.heap.size, 0, none⟩ = some (.int .i64 l) := by go_simp
  have k5_1 : w5.cell? ⟨w.heap.size, 1, none⟩ = some (.bool d) := by go_simp
  have k5_2 : w5.cell? ⟨w.heap.size, 2, none⟩ = some (.int .u8 f) := by go_simp
  have k5_3 : w5.cell? ⟨w.heap.size + 1, 0, none⟩ = some (.int .i64 l) := by go_simp
  have k5_4 : w5.cell? ⟨w.heap.size + 1, 1, none⟩ = some (.bool d) := by go_simp
  have k5_5 : w5.cell? ⟨w.heap.size + 1, 2, none⟩ = some (.int .u8 f2) := by go_simp
  clear hc5 hf5 k4_0 k4_1 k4_2 k4_3 k4_4 k4_5
  go_wp2_with fail
  refine (ptype_any _ _ _ K T _ _ _ _ hn (hT.below' (by repeat (first | exact hB5 | exact Below.refl _ _ | (refine Below.setCell ?_ (by first | omega | (simp; done) | (simp; omega)) _) | (refine Below.alloc ?_ (by first | omega | (simp; done) | (simp; omega)) _) | refine Below.drew ?_))) (by omega)).mono ?_
  rintro e w6 ⟨rfl, hb6⟩
  have hB6 : Below w.heap.size w w6 := Below.call (by repeat (first | exact hB5 | exact Below.refl _ _ | (refine Below.setCell ?_ (by first | omega | (simp; done) | (simp; omega)) _) | (refine Below.alloc ?_ (by first | omega | (simp; done) | (simp; omega)) _) | refine Below.drew ?_)) hb6
  have hS6 : w.heap.size ≤ w6.heap.size := hB6.size
  obtain ⟨hc6, hf6⟩ := bcell hb6
  rw [H7.out, H8.out]
  clear hc6 hf6 k5_0 k5_1 k5_2 k5_3 k5_4 k5_5
  rcases hv with ⟨rfl, rfl, rfl⟩ | ⟨rfl, hv⟩
  · go_wp2
    go_ret
    exact ⟨rfl, (by repeat (first | exact hB6 | exact Below.refl _ _ | (refine Below.setCell ?_ (by first | omega | (simp; done) | (simp; omega)) _) | (refine Below.alloc ?_ (by first | omega | (simp; done) | (simp; omega)) _) | refine Below.drew ?_))⟩
  · rcases hv with ⟨rfl, rfl, rfl, rfl, rfl, rfl⟩ | ⟨rfl, rfl, rfl, rfl, rfl, rfl⟩ | ⟨rfl, rfl, rfl, rfl, rfl, rfl⟩ | ⟨rfl, rfl, rfl, rfl, rfl, rfl⟩ | ⟨rfl, rfl, rfl, rfl, rfl, rfl⟩ | ⟨rfl, rfl, rfl, rfl, rfl, rfl⟩ | ⟨rfl, rfl, rfl, rfl, rfl, rfl⟩ | ⟨rfl, rfl, rfl, rfl, rfl, rfl⟩ | ⟨rfl, rfl, rfl, rfl, rfl, rfl⟩
    all_goals
      go_wp2
      go_ret
      exact ⟨rfl, (by repeat (first | exact hB6 | exact Below.refl _ _ | (refine Below.setCell ?_ (by first | omega | (simp; done) | (simp; omega)) _) | (refine Below.alloc ?_ (by first | omega | (simp; done) | (simp; omega)) _) | refine Below.drew ?_))⟩

end Go.Proofs.Ytmjklmdjlojmlaa
