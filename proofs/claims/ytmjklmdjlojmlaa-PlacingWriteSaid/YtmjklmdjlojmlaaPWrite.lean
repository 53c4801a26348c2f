/- The statement PlacingWrite: its walk. No condition. -/
import Derived.Test.YtmjklmdjlojmlaaPlaceE
namespace Go.Proofs.Ytmjklmdjlojmlaa
open Go.RowKit

set_option maxHeartbeats 1000000 in
theorem pwrite_long (A : Option Addr) (n cap : Nat) (l f : Int) (d : Bool) (w : World) (hn : n ≤ maxLen) (h : 30 < n) :
    Calls Try.prog 7 #[.slice A n cap, .agg #[.int .i64 l, .bool d, .int .u8 f]] w (Ret w (.bool true)) := by
  unfold maxLen at hn
  go_enter Try.func7, Try.ntmps7
  go_wp2_with fail
  refine (palive_any _).mono ?_
  rintro e w1 ⟨rfl, hb1⟩
  have hB1 : Below w.heap.size w w1 := Below.call (by repeat (first | exact Below.refl _ _ | (refine Below.setCell ?_ (by first | omega | (simp; done) | (simp; omega)) _) | (refine Below.alloc ?_ (by first | omega | (simp; done) | (simp; omega)) _) | refine Below.drew ?_)) hb1
  have hS1 : w.heap.size ≤ w1.heap.size := hB1.size
  obtain ⟨hc1, hf1⟩ := bcell hb1
  go_wp2
  go_ret
  exact ⟨rfl, (by repeat (first | exact hB1 | exact Below.refl _ _ | (refine Below.setCell ?_ (by first | omega | (simp; done) | (simp; omega)) _) | (refine Below.alloc ?_ (by first | omega | (simp; done) | (simp; omega)) _) | refine Below.drew ?_))⟩

set_option maxHeartbeats 1000000 in
theorem pwrite_bad (A : Option Addr) (n cap : Nat) (K T : Nat → Int) (l f e : Int) (d : Bool) (w : World) (hn : n ≤ maxLen) (hT : Types w A n K T) (b4 : 0 ≤ f) (h : n ≤ 30)
    (he : (e != 0) = true) (H1 : Hid (ptE n K T l d f = e)) (H2 : Hid (pwE n K T l d f = e)) :
    Calls Try.prog 7 #[.slice A n cap, .agg #[.int .i64 l, .bool d, .int .u8 f]] w (Ret w (.bool true)) := by
  have hm := hn
  unfold maxLen at hm
  go_enter Try.func7, Try.ntmps7
  go_wp2_with fail
  refine (palive_any _).mono ?_
  rintro e w1 ⟨rfl, hb1⟩
  have hB1 : Below w.heap.size w w1 := Below.call (by repeat (first | exact Below.refl _ _ | (refine Below.setCell ?_ (by first | omega | (simp; done) | (simp; omega)) _) | (refine Below.alloc ?_ (by first | omega | (simp; done) | (simp; omega)) _) | refine Below.drew ?_)) hb1
  have hS1 : w.heap.size ≤ w1.heap.size := hB1.size
  obtain ⟨hc1, hf1⟩ := bcell hb1
  have hz1_0 : w.heap.size < w1.heap.size := by have := hb1.size; first | omega | (simp at this; omega)
  have c0 : w1.cell? ⟨w.heap.size, 0, none⟩ = some (.int .i64 l) := by go_simp
  have c1 : w1.cell? ⟨w.heap.size, 1, none⟩ = some (.bool d) := by go_simp
  have c2 : w1.cell? ⟨w.heap.size, 2, none⟩ = some (.int .u8 f) := by go_simp
  clear hc1 hf1
  go_wp2_with fail
  refine (ptype_any _ _ _ K T _ _ _ _ hn (hT.below' (by repeat (first | exact hB1 | exact Below.refl _ _ | (refine Below.setCell ?_ (by first | omega | (simp; done) | (simp; omega)) _) | (refine Below.alloc ?_ (by first | omega | (simp; done) | (simp; omega)) _) | refine Below.drew ?_))) b4).mono ?_
  rintro e w2 ⟨rfl, hb2⟩
  have hB2 : Below w.heap.size w w2 := Below.call (by repeat (first | exact hB1 | exact Below.refl _ _ | (refine Below.setCell ?_ (by first | omega | (simp; done) | (simp; omega)) _) | (refine Below.alloc ?_ (by first | omega | (simp; done) | (simp; omega)) _) | refine Below.drew ?_)) hb2
  have hS2 : w.heap.size ≤ w2.heap.size := hB2.size
  obtain ⟨hc2, hf2⟩ := bcell hb2
  have hz2_0 : w.heap.size < w2.heap.size := by have := hb2.size; first | omega | (simp at this; omega)
  rw [H1.out]
  have d0 : w2.cell? ⟨w.heap.size, 0, none⟩ = some (.int .i64 l) := by go_simp
  have d1 : w2.cell? ⟨w.heap.size, 1, none⟩ = some (.bool d) := by go_simp
  have d2 : w2.cell? ⟨w.heap.size, 2, none⟩ = some (.int .u8 f) := by go_simp
  clear hc2 hf2 c0 c1 c2
  go_wp2_with fail
  refine (pwrite_any _ _ _ K T _ _ _ _ hn (hT.below' (by repeat (first | exact hB2 | exact Below.refl _ _ | (refine Below.setCell ?_ (by first | omega | (simp; done) | (simp; omega)) _) | (refine Below.alloc ?_ (by first | omega | (simp; done) | (simp; omega)) _) | refine Below.drew ?_))) b4).mono ?_
  rintro e w3 ⟨rfl, hb3⟩
  have hB3 : Below w.heap.size w w3 := Below.call (by repeat (first | exact hB2 | exact Below.refl _ _ | (refine Below.setCell ?_ (by first | omega | (simp; done) | (simp; omega)) _) | (refine Below.alloc ?_ (by first | omega | (simp; done) | (simp; omega)) _) | refine Below.drew ?_)) hb3
  have hS3 : w.heap.size ≤ w3.heap.size := hB3.size
  obtain ⟨hc3, hf3⟩ := bcell hb3
  rw [H2.out]
  clear hc3 hf3
  go_wp2
  go_ret
  exact ⟨rfl, (by repeat (first | exact hB3 | exact Below.refl _ _ | (refine Below.setCell ?_ (by first | omega | (simp; done) | (simp; omega)) _) | (refine Below.alloc ?_ (by first | omega | (simp; done) | (simp; omega)) _) | refine Below.drew ?_))⟩

set_option maxHeartbeats 2000000 in
theorem pwrite_good (b off : Nat) (n cap m : Nat) (K T : Nat → Int) (f e k : Int) (d q : Bool) (w : World) (hn : n ≤ maxLen) (hT : Types w (some ⟨b, off, none⟩) n K T) (b4 : 0 ≤ f) (h : n ≤ 30)
    (hlt : b < w.heap.size) (hm : m < n) (hm' : m < 16) (c0 : w.cell? ⟨b, off + m * 2, none⟩ = some (.int .u8 k)) (b0 : 0 ≤ k) (b1 : k ≤ 255)
    (H1 : Hid (ptE n K T m d f = 0)) (H2 : Hid (pwE n K T m d f = e)) (H3 : Hid (pwE n K T m false 0 = 0)) (he : e = 42 ∧ d = true ∧ (k == 3) = true ∨ e = 0 ∧ d = false ∨ e = 0 ∧ d = true ∧ (k == 3) = false) :
    Calls Try.prog 7 #[.slice (some ⟨b, off, none⟩) n cap, .agg #[.int .i64 m, .bool d, .int .u8 f]] w (Ret w (.bool true)) := by
  have hl := hn
  unfold maxLen at hl
  go_enter Try.func7, Try.ntmps7
  go_wp2_with fail
  refine (palive_any _).mono ?_
  rintro e w1 ⟨rfl, hb1⟩
  have hB1 : Below w.heap.size w w1 := Below.call (by repeat (first | exact Below.refl _ _ | (refine Below.setCell ?_ (by first | omega | (simp; done) | (simp; omega)) _) | (refine Below.alloc ?_ (by first | omega | (simp; done) | (simp; omega)) _) | refine Below.drew ?_)) hb1
  have hS1 : w.heap.size ≤ w1.heap.size := hB1.size
  obtain ⟨hc1, hf1⟩ := bcell hb1
  have hz1_0 : w.heap.size < w1.heap.size := by have := hb1.size; first | omega | (simp at this; omega)
  have i0 : w1.cell? ⟨w.heap.size, 0, none⟩ = some (.int .i64 m) := by go_simp
  have i1 : w1.cell? ⟨w.heap.size, 1, none⟩ = some (.bool d) := by go_simp
  have i2 : w1.cell? ⟨w.heap.size, 2, none⟩ = some (.int .u8 f) := by go_simp
  clear hc1 hf1
  go_wp2_with fail
  refine (ptype_any _ _ _ K T _ _ _ _ hn (hT.below' (by repeat (first | exact hB1 | exact Below.refl _ _ | (refine Below.setCell ?_ (by first | omega | (simp; done) | (simp; omega)) _) | (refine Below.alloc ?_ (by first | omega | (simp; done) | (simp; omega)) _) | refine Below.drew ?_))) b4).mono ?_
  rintro e w2 ⟨rfl, hb2⟩
  have hB2 : Below w.heap.size w w2 := Below.call (by repeat (first | exact hB1 | exact Below.refl _ _ | (refine Below.setCell ?_ (by first | omega | (simp; done) | (simp; omega)) _) | (refine Below.alloc ?_ (by first | omega | (simp; done) | (simp; omega)) _) | refine Below.drew ?_)) hb2
  have hS2 : w.heap.size ≤ w2.heap.size := hB2.size
  obtain ⟨hc2, hf2⟩ := bcell hb2
  have hz2_0 : w.heap.size < w2.heap.size := by have := hb2.size; first | omega | (simp at this; omega)
  rw [H1.out]
  have j0 : w2.cell? ⟨w.heap.size, 0, none⟩ = some (.int .i64 m) := by go_simp
  have j1 : w2.cell? ⟨w.heap.size, 1, none⟩ = some (.bool d) := by go_simp
  have j2 : w2.cell? ⟨w.heap.size, 2, none⟩ = some (.int .u8 f) := by go_simp
  clear hc2 hf2 i0 i1 i2
  go_wp2_with fail
  refine (pwrite_any _ _ _ K T _ _ _ _ hn (hT.below' (by repeat (first | exact hB2 | exact Below.refl _ _ | (refine Below.setCell ?_ (by first | omega | (simp; done) | (simp; omega)) _) | (refine Below.alloc ?_ (by first | omega | (simp; done) | (simp; omega)) _) | refine Below.drew ?_))) b4).mono ?_
  rintro e w3 ⟨rfl, hb3⟩
  have hB3 : Below w.heap.size w w3 := Below.call (by repeat (first | exact hB2 | exact Below.refl _ _ | (refine Below.setCell ?_ (by first | omega | (simp; done) | (simp; omega)) _) | (refine Below.alloc ?_ (by first | omega | (simp; done) | (simp; omega)) _) | refine Below.drew ?_)) hb3
  have hS3 : w.heap.size ≤ w3.heap.size := hB3.size
  obtain ⟨hc3, hf3⟩ := bcell hb3
  have hz3_0 : w.heap.size < w3.heap.size := by have := hb3.size; first | omega | (simp at this; omega)
  rw [H2.out]
  have i0 : w3.cell? ⟨w.heap.size, 0, none⟩ = some (.int .i64 m) := by go_simp
  have i1 : w3.cell? ⟨w.heap.size, 1, none⟩ = some (.bool d) := by go_simp
  have i2 : w3.cell? ⟨w.heap.size, 2, none⟩ = some (.int .u8 f) := by go_simp
  clear hc3 hf3 j0 j1 j2
  go_wp2_with fail
  refine (pwrite_any _ _ _ K T _ _ _ _ hn (hT.below' (by repeat (first | exact hB3 | exact Below.refl _ _ | (refine Below.setCell ?_ (by first | omega | (simp; done) | (simp; omega)) _) | (refine Below.alloc ?_ (by first | omega | (simp; done) | (simp; omega)) _) | refine Below.drew ?_))) (by omega)).mono ?_
  rintro e w4 ⟨rfl, hb4⟩
  have hB4 : Below w.heap.size w w4 := Below.call (by repeat (first | exact hB3 | exact Below.refl _ _ | (refine Below.setCell ?_ (by first | omega | (simp; done) | (simp; omega)) _) | (refine Below.alloc ?_ (by first | omega | (simp; done) | (simp; omega)) _) | refine Below.drew ?_)) hb4
  have hS4 : w.heap.size ≤ w4.heap.size := hB4.size
  obtain ⟨hc4, hf4⟩ := bcell hb4
  have hz4_0 : w.heap.size < w4.heap.size := by have := hb4.size; first | omega | (simp at this; omega)
  rw [H3.out]
  have j0 : w4.cell? ⟨w.heap.size, 0, none⟩ = some (.int .i64 m) := by go_simp
  have j1 : w4.cell? ⟨w.heap.size, 1, none⟩ = some (.bool d) := by go_simp
  have j2 : w4.cell? ⟨w.heap.size, 2, none⟩ = some (.int .u8 f) := by go_simp
  have j3 : w4.cell? ⟨b, off + m * 2, none⟩ = some (.int .u8 k) := (hB4.cell (p := ⟨b, _, none⟩) hlt).trans c0
  clear hc4 hf4 i0 i1 i2 c0
  rcases he with ⟨rfl, rfl, hq⟩ | ⟨rfl, rfl⟩ | ⟨rfl, rfl, hq⟩
  all_goals
    go_wp2
    go_ret
    exact ⟨rfl, (by repeat (first | exact hB4 | exact Below.refl _ _ | (refine Below.setCell ?_ (by first | omega | (simp; done) | (simp; omega)) _) | (refine Below.alloc ?_ (by first | omega | (simp; done) | (simp; omega)) _) | refine Below.drew ?_))⟩

theorem pwrite_walk (A : Option Addr) (n cap : Nat) (K T : Nat → Int) (l f : Int) (d : Bool) (w : World) (hn : n ≤ maxLen) (hT : Types w A n K T) (b4 : 0 ≤ f) :
    Calls Try.prog 7 #[.slice A n cap, .agg #[.int .i64 l, .bool d, .int .u8 f]] w (Ret w (.bool true)) := by
  by_cases h : 30 < n
  · exact pwrite_long A n cap l f d w hn h
  · by_cases hp : ptE n K T l d f = 0
    · obtain ⟨h1, h2, h3, h4, h5, h6⟩ := pchk_zero (ptE_zero hp)
      obtain ⟨m, rfl⟩ := Int.eq_ofNat_of_zero_le h4
      obtain ⟨b, off, rfl, hlt, hc⟩ := hT (by omega)
      obtain ⟨c0, c1, b0, b1, b2, b3⟩ := hc m (by omega)
      have em : (m : Int).toNat = m := by simp
      have hv : pwE n K T m d f = if d = true ∧ K m = 3 then 42 else 0 := by rw [pwE, if_pos hp, em]
      have hw : pwE n K T m false 0 = 0 := by
        have : ptE n K T m false 0 = 0 := by rw [ptE, if_pos (pchk_at h1 h2 h3 h4 h5 (by omega))]; simp
        rw [pwE, if_pos this, if_neg (by simp)]
      refine pwrite_good b off n cap m K T f _ (K m) d true w hn hT b4 (by omega) hlt (by omega) (by omega) c0 b0 b1 hp rfl hw ?_
      cases d
      · right; left; rw [hv, if_neg (by simp)]; exact ⟨rfl, rfl⟩
      · by_cases hk : K m = 3
        · left; rw [hv, if_pos ⟨rfl, hk⟩]; exact ⟨rfl, rfl, beqT hk⟩
        · right; right; rw [hv, if_neg (fun h => hk h.2)]; exact ⟨rfl, rfl, beqF hk⟩
    · exact pwrite_bad A n cap K T l f _ d w hn hT b4 (by omega) (beqF' hp) rfl (by rw [Hid, pwE, if_neg hp])

end Go.Proofs.Ytmjklmdjlojmlaa
