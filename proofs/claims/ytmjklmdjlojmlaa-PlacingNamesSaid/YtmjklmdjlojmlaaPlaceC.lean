/- The types of places: placing.Type. No condition. -/
import Derived.Test.YtmjklmdjlojmlaaPlaceB
namespace Go.Proofs.Ytmjklmdjlojmlaa
open Go.RowKit

theorem pchk_zero {n : Nat} {K T : Nat → Int} {l f : Int} (h : pchk n K T l f = 0) : 1 ≤ n ∧ n ≤ 16 ∧ (∀ i, i < n → okB (K i) (T i) = true) ∧ 0 ≤ l ∧ l < n ∧ f ≤ 2 := by
  unfold pchk at h
  split at h
  · cases h
  · split at h
    · cases h
    · split at h
      · cases h
      · split at h
        · cases h
        · rename_i h1 h2 h3 h4
          simp [badP] at h3
          refine ⟨by omega, by omega, allOk_iff.1 (by simpa using h2), by omega, by omega, by omega⟩
theorem pchk_at {n : Nat} {K T : Nat → Int} {l f : Int} (h1 : 1 ≤ n) (h2 : n ≤ 16) (h3 : ∀ i, i < n → okB (K i) (T i) = true) (h4 : 0 ≤ l) (h5 : l < n) (h6 : f ≤ 2) : pchk n K T l f = 0 := by
  rw [pchk_ok h1 h2 h3, if_neg (by simp [badP]; omega), if_neg (by omega)]

/-- The error of Type, and the type. -/
def ptE (n : Nat) (K T : Nat → Int) (l : Int) (d : Bool) (f : Int) : Int :=
  if pchk n K T l f = 0 then
    (if d then (if T l.toNat = 0 then 42 else if f = 0 then 0 else if T l.toNat = 2 then 0 else 42)
     else (if f = 0 then 0 else if K l.toNat = 2 then 0 else 42))
  else pchk n K T l f
def ptK (n : Nat) (K T : Nat → Int) (l : Int) (d : Bool) (f : Int) : Int :=
  if ptE n K T l d f = 0 then (if f = 0 then (if d then T l.toNat else K l.toNat) else 1) else 0
def ptT (n : Nat) (K T : Nat → Int) (l : Int) (d : Bool) (f : Int) : Int :=
  if ptE n K T l d f = 0 then (if f = 0 then (if d then 0 else T l.toNat) else 0) else 0

set_option maxHeartbeats 1000000 in
theorem ptype_f0 (b off : Nat) (n cap m : Nat) (K T : Nat → Int) (k t f e1 e2 e3 : Int) (w : World) (hn : n ≤ maxLen) (hT : Types w (some ⟨b, off, none⟩) n K T) (hlt : b < w.heap.size)
    (c0 : w.cell? ⟨b, off + m * 2, none⟩ = some (.int .u8 k)) (c1 : w.cell? ⟨b, off + m * 2 + 1, none⟩ = some (.int .u8 t)) (hm : m < n) (hm' : m < 16) (b0 : 0 ≤ k) (b1 : k ≤ 255) (b2 : 0 ≤ t) (b3 : t ≤ 255) (b4 : 0 ≤ f) (b5 : f ≤ 2)
    (Hp : Hid (pchk n K T m f = 0)) (H1 : Hid (ptK n K T m false f = e1)) (H2 : Hid (ptT n K T m false f = e2)) (H3 : Hid (ptE n K T m false f = e3)) (q : (f == 0) = true) (E1 : Hid (e1 = k)) (E2 : Hid (e2 = t)) (E3 : Hid (e3 = 0)) :
    Calls Try.prog 10 #[.slice (some ⟨b, off, none⟩) n cap, .agg #[.int .i64 m, .bool false, .int .u8 f]] w (Ret w (.tuple #[.agg #[.int .u8 (ptK n K T m false f), .int .u8 (ptT n K T m false f)], .int .i64 (ptE n K T m false f)])) := by
  have hl := hn
  unfold maxLen at hl
  rw [H1.out, H2.out, H3.out]
  go_enter Try.func10, Try.ntmps10
  go_wp2_with fail
  refine (pcheck_any _ _ _ K T _ _ _ _ hn ((hT.below' (by repeat (first | exact Below.refl _ _ | (refine Below.setCell ?_ (by first | omega | (simp; done) | (simp; omega)) _) | (refine Below.alloc ?_ (by first | omega | (simp; done) | (simp; omega)) _) | refine Below.drew ?_))))).mono ?_
  rintro e w1 ⟨rfl, hb1⟩
  have hB1 : Below w.heap.size w w1 := Below.call (by repeat (first | exact Below.refl _ _ | (refine Below.setCell ?_ (by first | omega | (simp; done) | (simp; omega)) _) | (refine Below.alloc ?_ (by first | omega | (simp; done) | (simp; omega)) _) | refine Below.drew ?_)) hb1
  have hS1 : w.heap.size ≤ w1.heap.size := hB1.size
  obtain ⟨hc1, hf1⟩ := bcell hb1
  have hz1_0 : w.heap.size < w1.heap.size := by have := hb1.size; first | omega | (simp at this; omega)
  have hz1_1 : w.heap.size + 1 < w1.heap.size := by have := hb1.size; first | omega | (simp at this; omega)
  rw [Hp.out]
  have i0 : w1.cell? ⟨w.heap.size, 0, none⟩ = some (.int .i64 m) := by go_simp
  have i1 : w1.cell? ⟨w.heap.size, 1, none⟩ = some (.bool false) := by go_simp
  have i2 : w1.cell? ⟨w.heap.size, 2, none⟩ = some (.int .u8 f) := by go_simp
  have i3 : w1.cell? ⟨w.heap.size + 1, 0, none⟩ = some (.int .u8 0) := by go_simp
  have i4 : w1.cell? ⟨w.heap.size + 1, 1, none⟩ = some (.int .u8 0) := by go_simp
  have f3 : w1.frozen? ⟨w.heap.size + 1, 0, none⟩ = false := by go_simp
  have f4 : w1.frozen? ⟨w.heap.size + 1, 1, none⟩ = false := by go_simp
  have j0 : w1.cell? ⟨b, off + m * 2, none⟩ = some (.int .u8 k) := (hB1.cell (p := ⟨b, _, none⟩) hlt).trans c0
  have j1 : w1.cell? ⟨b, off + m * 2 + 1, none⟩ = some (.int .u8 t) := (hB1.cell (p := ⟨b, _, none⟩) hlt).trans c1
  clear hc1 hf1 c0 c1
  go_wp2
  rw [show e1 = k from E1.out, show e2 = t from E2.out, show e3 = 0 from E3.out]
  refine bodyPost_ret (by simp [results, Try.results10, go_sem, *]; try rfl) rfl ⟨rfl, ?_⟩
  exact (by repeat (first | exact hB1 | exact Below.refl _ _ | (refine Below.setCell ?_ (by first | omega | (simp; done) | (simp; omega)) _) | (refine Below.alloc ?_ (by first | omega | (simp; done) | (simp; omega)) _) | refine Below.drew ?_))

set_option maxHeartbeats 1000000 in
theorem ptype_f2 (b off : Nat) (n cap m : Nat) (K T : Nat → Int) (k t f e1 e2 e3 : Int) (w : World) (hn : n ≤ maxLen) (hT : Types w (some ⟨b, off, none⟩) n K T) (hlt : b < w.heap.size)
    (c0 : w.cell? ⟨b, off + m * 2, none⟩ = some (.int .u8 k)) (c1 : w.cell? ⟨b, off + m * 2 + 1, none⟩ = some (.int .u8 t)) (hm : m < n) (hm' : m < 16) (b0 : 0 ≤ k) (b1 : k ≤ 255) (b2 : 0 ≤ t) (b3 : t ≤ 255) (b4 : 0 ≤ f) (b5 : f ≤ 2)
    (Hp : Hid (pchk n K T m f = 0)) (H1 : Hid (ptK n K T m false f = e1)) (H2 : Hid (ptT n K T m false f = e2)) (H3 : Hid (ptE n K T m false f = e3)) (q : (f == 0) = false) (q2 : (k != 2) = false) (E1 : Hid (e1 = 1)) (E2 : Hid (e2 = 0)) (E3 : Hid (e3 = 0)) :
    Calls Try.prog 10 #[.slice (some ⟨b, off, none⟩) n cap, .agg #[.int .i64 m, .bool false, .int .u8 f]] w (Ret w (.tuple #[.agg #[.int .u8 (ptK n K T m false f), .int .u8 (ptT n K T m false f)], .int .i64 (ptE n K T m false f)])) := by
  have hl := hn
  unfold maxLen at hl
  rw [H1.out, H2.out, H3.out]
  go_enter Try.func10, Try.ntmps10
  go_wp2_with fail
  refine (pcheck_any _ _ _ K T _ _ _ _ hn ((hT.below' (by repeat (first | exact Below.refl _ _ | (refine Below.setCell ?_ (by first | omega | (simp; done) | (simp; omega)) _) | (refine Below.alloc ?_ (by first | omega | (simp; done) | (simp; omega)) _) | refine Below.drew ?_))))).mono ?_
  rintro e w1 ⟨rfl, hb1⟩
  have hB1 : Below w.heap.size w w1 := Below.call (by repeat (first | exact Below.refl _ _ | (refine Below.setCell ?_ (by first | omega | (simp; done) | (simp; omega)) _) | (refine Below.alloc ?_ (by first | omega | (simp; done) | (simp; omega)) _) | refine Below.drew ?_)) hb1
  have hS1 : w.heap.size ≤ w1.heap.size := hB1.size
  obtain ⟨hc1, hf1⟩ := bcell hb1
  have hz1_0 : w.heap.size < w1.heap.size := by have := hb1.size; first | omega | (simp at this; omega)
  have hz1_1 : w.heap.size + 1 < w1.heap.size := by have := hb1.size; first | omega | (simp at this; omega)
  rw [Hp.out]
  have i0 : w1.cell? ⟨w.heap.size, 0, none⟩ = some (.int .i64 m) := by go_simp
  have i1 : w1.cell? ⟨w.heap.size, 1, none⟩ = some (.bool false) := by go_simp
  have i2 : w1.cell? ⟨w.heap.size, 2, none⟩ = some (.int .u8 f) := by go_simp
  have i3 : w1.cell? ⟨w.heap.size + 1, 0, none⟩ = some (.int .u8 0) := by go_simp
  have i4 : w1.cell? ⟨w.heap.size + 1, 1, none⟩ = some (.int .u8 0) := by go_simp
  have f3 : w1.frozen? ⟨w.heap.size + 1, 0, none⟩ = false := by go_simp
  have f4 : w1.frozen? ⟨w.heap.size + 1, 1, none⟩ = false := by go_simp
  have j0 : w1.cell? ⟨b, off + m * 2, none⟩ = some (.int .u8 k) := (hB1.cell (p := ⟨b, _, none⟩) hlt).trans c0
  have j1 : w1.cell? ⟨b, off + m * 2 + 1, none⟩ = some (.int .u8 t) := (hB1.cell (p := ⟨b, _, none⟩) hlt).trans c1
  clear hc1 hf1 c0 c1
  go_wp2
  rw [show e1 = 1 from E1.out, show e2 = 0 from E2.out, show e3 = 0 from E3.out]
  refine bodyPost_ret (by simp [results, Try.results10, go_sem, *]; try rfl) rfl ⟨rfl, ?_⟩
  exact (by repeat (first | exact hB1 | exact Below.refl _ _ | (refine Below.setCell ?_ (by first | omega | (simp; done) | (simp; omega)) _) | (refine Below.alloc ?_ (by first | omega | (simp; done) | (simp; omega)) _) | refine Below.drew ?_))

set_option maxHeartbeats 1000000 in
theorem ptype_fx (b off : Nat) (n cap m : Nat) (K T : Nat → Int) (k t f e1 e2 e3 : Int) (w : World) (hn : n ≤ maxLen) (hT : Types w (some ⟨b, off, none⟩) n K T) (hlt : b < w.heap.size)
    (c0 : w.cell? ⟨b, off + m * 2, none⟩ = some (.int .u8 k)) (c1 : w.cell? ⟨b, off + m * 2 + 1, none⟩ = some (.int .u8 t)) (hm : m < n) (hm' : m < 16) (b0 : 0 ≤ k) (b1 : k ≤ 255) (b2 : 0 ≤ t) (b3 : t ≤ 255) (b4 : 0 ≤ f) (b5 : f ≤ 2)
    (Hp : Hid (pchk n K T m f = 0)) (H1 : Hid (ptK n K T m false f = e1)) (H2 : Hid (ptT n K T m false f = e2)) (H3 : Hid (ptE n K T m false f = e3)) (q : (f == 0) = false) (q2 : (k != 2) = true) (E1 : Hid (e1 = 0)) (E2 : Hid (e2 = 0)) (E3 : Hid (e3 = 42)) :
    Calls Try.prog 10 #[.slice (some ⟨b, off, none⟩) n cap, .agg #[.int .i64 m, .bool false, .int .u8 f]] w (Ret w (.tuple #[.agg #[.int .u8 (ptK n K T m false f), .int .u8 (ptT n K T m false f)], .int .i64 (ptE n K T m false f)])) := by
  have hl := hn
  unfold maxLen at hl
  rw [H1.out, H2.out, H3.out]
  go_enter Try.func10, Try.ntmps10
  go_wp2_with fail
  refine (pcheck_any _ _ _ K T _ _ _ _ hn ((hT.below' (by repeat (first | exact Below.refl _ _ | (refine Below.setCell ?_ (by first | omega | (simp; done) | (simp; omega)) _) | (refine Below.alloc ?_ (by first | omega | (simp; done) | (simp; omega)) _) | refine Below.drew ?_))))).mono ?_
  rintro e w1 ⟨rfl, hb1⟩
  have hB1 : Below w.heap.size w w1 := Below.call (by repeat (first | exact Below.refl _ _ | (refine Below.setCell ?_ (by first | omega | (simp; done) | (simp; omega)) _) | (refine Below.alloc ?_ (by first | omega | (simp; done) | (simp; omega)) _) | refine Below.drew ?_)) hb1
  have hS1 : w.heap.size ≤ w1.heap.size := hB1.size
  obtain ⟨hc1, hf1⟩ := bcell hb1
  have hz1_0 : w.heap.size < w1.heap.size := by have := hb1.size; first | omega | (simp at this; omega)
  have hz1_1 : w.heap.size + 1 < w1.heap.size := by have := hb1.size; first | omega | (simp at this; omega)
  rw [Hp.out]
  have i0 : w1.cell? ⟨w.heap.size, 0, none⟩ = some (.int .i64 m) := by go_simp
  have i1 : w1.cell? ⟨w.heap.size, 1, none⟩ = some (.bool false) := by go_simp
  have i2 : w1.cell? ⟨w.heap.size, 2, none⟩ = some (.int .u8 f) := by go_simp
  have i3 : w1.cell? ⟨w.heap.size + 1, 0, none⟩ = some (.int .u8 0) := by go_simp
  have i4 : w1.cell? ⟨w.heap.size + 1, 1, none⟩ = some (.int .u8 0) := by go_simp
  have f3 : w1.frozen? ⟨w.heap.size + 1, 0, none⟩ = false := by go_simp
  have f4 : w1.frozen? ⟨w.heap.size + 1, 1, none⟩ = false := by go_simp
  have j0 : w1.cell? ⟨b, off + m * 2, none⟩ = some (.int .u8 k) := (hB1.cell (p := ⟨b, _, none⟩) hlt).trans c0
  have j1 : w1.cell? ⟨b, off + m * 2 + 1, none⟩ = some (.int .u8 t) := (hB1.cell (p := ⟨b, _, none⟩) hlt).trans c1
  clear hc1 hf1 c0 c1
  go_wp2
  rw [show e1 = 0 from E1.out, show e2 = 0 from E2.out, show e3 = 42 from E3.out]
  refine bodyPost_ret (by simp [results, Try.results10, go_sem, *]; try rfl) rfl ⟨rfl, ?_⟩
  exact (by repeat (first | exact hB1 | exact Below.refl _ _ | (refine Below.setCell ?_ (by first | omega | (simp; done) | (simp; omega)) _) | (refine Below.alloc ?_ (by first | omega | (simp; done) | (simp; omega)) _) | refine Below.drew ?_))

set_option maxHeartbeats 1000000 in
theorem ptype_t0 (b off : Nat) (n cap m : Nat) (K T : Nat → Int) (k t f e1 e2 e3 : Int) (w : World) (hn : n ≤ maxLen) (hT : Types w (some ⟨b, off, none⟩) n K T) (hlt : b < w.heap.size)
    (c0 : w.cell? ⟨b, off + m * 2, none⟩ = some (.int .u8 k)) (c1 : w.cell? ⟨b, off + m * 2 + 1, none⟩ = some (.int .u8 t)) (hm : m < n) (hm' : m < 16) (b0 : 0 ≤ k) (b1 : k ≤ 255) (b2 : 0 ≤ t) (b3 : t ≤ 255) (b4 : 0 ≤ f) (b5 : f ≤ 2)
    (Hp : Hid (pchk n K T m f = 0)) (H1 : Hid (ptK n K T m true f = e1)) (H2 : Hid (ptT n K T m true f = e2)) (H3 : Hid (ptE n K T m true f = e3)) (G1 : Hid (tgtK k t = 0)) (G2 : Hid (tgtE k t = 6)) (E1 : Hid (e1 = 0)) (E2 : Hid (e2 = 0)) (E3 : Hid (e3 = 42)) :
    Calls Try.prog 10 #[.slice (some ⟨b, off, none⟩) n cap, .agg #[.int .i64 m, .bool true, .int .u8 f]] w (Ret w (.tuple #[.agg #[.int .u8 (ptK n K T m true f), .int .u8 (ptT n K T m true f)], .int .i64 (ptE n K T m true f)])) := by
  have hl := hn
  unfold maxLen at hl
  rw [H1.out, H2.out, H3.out]
  go_enter Try.func10, Try.ntmps10
  go_wp2_with fail
  refine (pcheck_any _ _ _ K T _ _ _ _ hn ((hT.below' (by repeat (first | exact Below.refl _ _ | (refine Below.setCell ?_ (by first | omega | (simp; done) | (simp; omega)) _) | (refine Below.alloc ?_ (by first | omega | (simp; done) | (simp; omega)) _) | refine Below.drew ?_))))).mono ?_
  rintro e w1 ⟨rfl, hb1⟩
  have hB1 : Below w.heap.size w w1 := Below.call (by repeat (first | exact Below.refl _ _ | (refine Below.setCell ?_ (by first | omega | (simp; done) | (simp; omega)) _) | (refine Below.alloc ?_ (by first | omega | (simp; done) | (simp; omega)) _) | refine Below.drew ?_)) hb1
  have hS1 : w.heap.size ≤ w1.heap.size := hB1.size
  obtain ⟨hc1, hf1⟩ := bcell hb1
  have hz1_0 : w.heap.size < w1.heap.size := by have := hb1.size; first | omega | (simp at this; omega)
  have hz1_1 : w.heap.size + 1 < w1.heap.size := by have := hb1.size; first | omega | (simp at this; omega)
  rw [Hp.out]
  have i0 : w1.cell? ⟨w.heap.size, 0, none⟩ = some (.int .i64 m) := by go_simp
  have i1 : w1.cell? ⟨w.heap.size, 1, none⟩ = some (.bool true) := by go_simp
  have i2 : w1.cell? ⟨w.heap.size, 2, none⟩ = some (.int .u8 f) := by go_simp
  have i3 : w1.cell? ⟨w.heap.size + 1, 0, none⟩ = some (.int .u8 0) := by go_simp
  have i4 : w1.cell? ⟨w.heap.size + 1, 1, none⟩ = some (.int .u8 0) := by go_simp
  have f3 : w1.frozen? ⟨w.heap.size + 1, 0, none⟩ = false := by go_simp
  have f4 : w1.frozen? ⟨w.heap.size + 1, 1, none⟩ = false := by go_simp
  have j0 : w1.cell? ⟨b, off + m * 2, none⟩ = some (.int .u8 k) := (hB1.cell (p := ⟨b, _, none⟩) hlt).trans c0
  have j1 : w1.cell? ⟨b, off + m * 2 + 1, none⟩ = some (.int .u8 t) := (hB1.cell (p := ⟨b, _, none⟩) hlt).trans c1
  clear hc1 hf1 c0 c1
  go_wp2_with fail
  refine (target_any k t _ b0 b1 b2 b3).mono ?_
  rintro e w2 ⟨rfl, hb2⟩
  have hB2 : Below w.heap.size w w2 := Below.call (by repeat (first | exact hB1 | exact Below.refl _ _ | (refine Below.setCell ?_ (by first | omega | (simp; done) | (simp; omega)) _) | (refine Below.alloc ?_ (by first | omega | (simp; done) | (simp; omega)) _) | refine Below.drew ?_)) hb2
  have hS2 : w.heap.size ≤ w2.heap.size := hB2.size
  obtain ⟨hc2, hf2⟩ := bcell hb2
  have hz2_0 : w.heap.size < w2.heap.size := by have := hb2.size; first | omega | (simp at this; omega)
  have hz2_1 : w.heap.size + 1 < w2.heap.size := by have := hb2.size; first | omega | (simp at this; omega)
  have hz2_2 : w1.heap.size < w2.heap.size := by have := hb2.size; first | omega | (simp at this; omega)
  rw [G1.out, G2.out]
  have l0 : w2.cell? ⟨w.heap.size, 2, none⟩ = some (.int .u8 f) := by go_simp
  have l3 : w2.cell? ⟨w.heap.size + 1, 0, none⟩ = some (.int .u8 0) := by go_simp
  have l4 : w2.cell? ⟨w.heap.size + 1, 1, none⟩ = some (.int .u8 0) := by go_simp
  have g3 : w2.frozen? ⟨w.heap.size + 1, 0, none⟩ = false := by go_simp
  have g4 : w2.frozen? ⟨w.heap.size + 1, 1, none⟩ = false := by go_simp
  have l5 : w2.cell? ⟨w1.heap.size, 0, none⟩ = some (.int .u8 k) := by go_simp
  have l6 : w2.cell? ⟨w1.heap.size, 1, none⟩ = some (.int .u8 t) := by go_simp
  have g5 : w2.frozen? ⟨w1.heap.size, 0, none⟩ = false := by go_simp
  have g6 : w2.frozen? ⟨w1.heap.size, 1, none⟩ = false := by go_simp
  clear hc2 hf2 i0 i1 i2 i3 i4 f3 f4 j0 j1
  go_wp2
  rw [show e1 = 0 from E1.out, show e2 = 0 from E2.out, show e3 = 42 from E3.out]
  refine bodyPost_ret (by simp [results, Try.results10, go_sem, *]; try rfl) rfl ⟨rfl, ?_⟩
  exact (by repeat (first | exact hB2 | exact Below.refl _ _ | (refine Below.setCell ?_ (by first | omega | (simp; done) | (simp; omega)) _) | (refine Below.alloc ?_ (by first | omega | (simp; done) | (simp; omega)) _) | refine Below.drew ?_))

set_option maxHeartbeats 1000000 in
theorem ptype_t1 (b off : Nat) (n cap m : Nat) (K T : Nat → Int) (k t f e1 e2 e3 : Int) (w : World) (hn : n ≤ maxLen) (hT : Types w (some ⟨b, off, none⟩) n K T) (hlt : b < w.heap.size)
    (c0 : w.cell? ⟨b, off + m * 2, none⟩ = some (.int .u8 k)) (c1 : w.cell? ⟨b, off + m * 2 + 1, none⟩ = some (.int .u8 t)) (hm : m < n) (hm' : m < 16) (b0 : 0 ≤ k) (b1 : k ≤ 255) (b2 : 0 ≤ t) (b3 : t ≤ 255) (b4 : 0 ≤ f) (b5 : f ≤ 2)
    (Hp : Hid (pchk n K T m f = 0)) (H1 : Hid (ptK n K T m true f = e1)) (H2 : Hid (ptT n K T m true f = e2)) (H3 : Hid (ptE n K T m true f = e3)) (G1 : Hid (tgtK k t = t)) (G2 : Hid (tgtE k t = 0)) (q : (f == 0) = true) (E1 : Hid (e1 = t)) (E2 : Hid (e2 = 0)) (E3 : Hid (e3 = 0)) :
    Calls Try.prog 10 #[.slice (some ⟨b, off, none⟩) n cap, .agg #[.int .i64 m, .bool true, .int .u8 f]] w (Ret w (.tuple #[.agg #[.int .u8 (ptK n K T m true f), .int .u8 (ptT n K T m true f)], .int .i64 (ptE n K T m true f)])) := by
  have hl := hn
  unfold maxLen at hl
  rw [H1.out, H2.out, H3.out]
  go_enter Try.func10, Try.ntmps10
  go_wp2_with fail
  refine (pcheck_any _ _ _ K T _ _ _ _ hn ((hT.below' (by repeat (first | exact Below.refl _ _ | (refine Below.setCell ?_ (by first | omega | (simp; done) | (simp; omega)) _) | (refine Below.alloc ?_ (by first | omega | (simp; done) | (simp; omega)) _) | refine Below.drew ?_))))).mono ?_
  rintro e w1 ⟨rfl, hb1⟩
  have hB1 : Below w.heap.size w w1 := Below.call (by repeat (first | exact Below.refl _ _ | (refine Below.setCell ?_ (by first | omega | (simp; done) | (simp; omega)) _) | (refine Below.alloc ?_ (by first | omega | (simp; done) | (simp; omega)) _) | refine Below.drew ?_)) hb1
  have hS1 : w.heap.size ≤ w1.heap.size := hB1.size
  obtain ⟨hc1, hf1⟩ := bcell hb1
  have hz1_0 : w.heap.size < w1.heap.size := by have := hb1.size; first | omega | (simp at this; omega)
  have hz1_1 : w.heap.size + 1 < w1.heap.size := by have := hb1.size; first | omega | (simp at this; omega)
  rw [Hp.out]
  have i0 : w1.cell? ⟨w.heap.size, 0, none⟩ = some (.int .i64 m) := by go_simp
  have i1 : w1.cell? ⟨w.heap.size, 1, none⟩ = some (.bool true) := by go_simp
  have i2 : w1.cell? ⟨w.heap.size, 2, none⟩ = some (.int .u8 f) := by go_simp
  have i3 : w1.cell? ⟨w.heap.size + 1, 0, none⟩ = some (.int .u8 0) := by go_simp
  have i4 : w1.cell? ⟨w.heap.size + 1, 1, none⟩ = some (.int .u8 0) := by go_simp
  have f3 : w1.frozen? ⟨w.heap.size + 1, 0, none⟩ = false := by go_simp
  have f4 : w1.frozen? ⟨w.heap.size + 1, 1, none⟩ = false := by go_simp
  have j0 : w1.cell? ⟨b, off + m * 2, none⟩ = some (.int .u8 k) := (hB1.cell (p := ⟨b, _, none⟩) hlt).trans c0
  have j1 : w1.cell? ⟨b, off + m * 2 + 1, none⟩ = some (.int .u8 t) := (hB1.cell (p := ⟨b, _, none⟩) hlt).trans c1
  clear hc1 hf1 c0 c1
  go_wp2_with fail
  refine (target_any k t _ b0 b1 b2 b3).mono ?_
  rintro e w2 ⟨rfl, hb2⟩
  have hB2 : Below w.heap.size w w2 := Below.call (by repeat (first | exact hB1 | exact Below.refl _ _ | (refine Below.setCell ?_ (by first | omega | (simp; done) | (simp; omega)) _) | (refine Below.alloc ?_ (by first | omega | (simp; done) | (simp; omega)) _) | refine Below.drew ?_)) hb2
  have hS2 : w.heap.size ≤ w2.heap.size := hB2.size
  obtain ⟨hc2, hf2⟩ := bcell hb2
  have hz2_0 : w.heap.size < w2.heap.size := by have := hb2.size; first | omega | (simp at this; omega)
  have hz2_1 : w.heap.size + 1 < w2.heap.size := by have := hb2.size; first | omega | (simp at this; omega)
  have hz2_2 : w1.heap.size < w2.heap.size := by have := hb2.size; first | omega | (simp at this; omega)
  rw [G1.out, G2.out]
  have l0 : w2.cell? ⟨w.heap.size, 2, none⟩ = some (.int .u8 f) := by go_simp
  have l3 : w2.cell? ⟨w.heap.size + 1, 0, none⟩ = some (.int .u8 0) := by go_simp
  have l4 : w2.cell? ⟨w.heap.size + 1, 1, none⟩ = some (.int .u8 0) := by go_simp
  have g3 : w2.frozen? ⟨w.heap.size + 1, 0, none⟩ = false := by go_simp
  have g4 : w2.frozen? ⟨w.heap.size + 1, 1, none⟩ = false := by go_simp
  have l5 : w2.cell? ⟨w1.heap.size, 0, none⟩ = some (.int .u8 k) := by go_simp
  have l6 : w2.cell? ⟨w1.heap.size, 1, none⟩ = some (.int .u8 t) := by go_simp
  have g5 : w2.frozen? ⟨w1.heap.size, 0, none⟩ = false := by go_simp
  have g6 : w2.frozen? ⟨w1.heap.size, 1, none⟩ = false := by go_simp
  clear hc2 hf2 i0 i1 i2 i3 i4 f3 f4 j0 j1
  go_wp2
  rw [show e1 = t from E1.out, show e2 = 0 from E2.out, show e3 = 0 from E3.out]
  refine bodyPost_ret (by simp [results, Try.results10, go_sem, *]; try rfl) rfl ⟨rfl, ?_⟩
  exact (by repeat (first | exact hB2 | exact Below.refl _ _ | (refine Below.setCell ?_ (by first | omega | (simp; done) | (simp; omega)) _) | (refine Below.alloc ?_ (by first | omega | (simp; done) | (simp; omega)) _) | refine Below.drew ?_))

set_option maxHeartbeats 1000000 in
theorem ptype_t2 (b off : Nat) (n cap m : Nat) (K T : Nat → Int) (k t f e1 e2 e3 : Int) (w : World) (hn : n ≤ maxLen) (hT : Types w (some ⟨b, off, none⟩) n K T) (hlt : b < w.heap.size)
    (c0 : w.cell? ⟨b, off + m * 2, none⟩ = some (.int .u8 k)) (c1 : w.cell? ⟨b, off + m * 2 + 1, none⟩ = some (.int .u8 t)) (hm : m < n) (hm' : m < 16) (b0 : 0 ≤ k) (b1 : k ≤ 255) (b2 : 0 ≤ t) (b3 : t ≤ 255) (b4 : 0 ≤ f) (b5 : f ≤ 2)
    (Hp : Hid (pchk n K T m f = 0)) (H1 : Hid (ptK n K T m true f = e1)) (H2 : Hid (ptT n K T m true f = e2)) (H3 : Hid (ptE n K T m true f = e3)) (G1 : Hid (tgtK k t = t)) (G2 : Hid (tgtE k t = 0)) (q : (f == 0) = false) (q2 : (t != 2) = false) (E1 : Hid (e1 = 1)) (E2 : Hid (e2 = 0)) (E3 : Hid (e3 = 0)) :
    Calls Try.prog 10 #[.slice (some ⟨b, off, none⟩) n cap, .agg #[.int .i64 m, .bool true, .int .u8 f]] w (Ret w (.tuple #[.agg #[.int .u8 (ptK n K T m true f), .int .u8 (ptT n K T m true f)], .int .i64 (ptE n K T m true f)])) := by
  have hl := hn
  unfold maxLen at hl
  rw [H1.out, H2.out, H3.out]
  go_enter Try.func10, Try.ntmps10
  go_wp2_with fail
  refine (pcheck_any _ _ _ K T _ _ _ _ hn ((hT.below' (by repeat (first | exact Below.refl _ _ | (refine Below.setCell ?_ (by first | omega | (simp; done) | (simp; omega)) _) | (refine Below.alloc ?_ (by first | omega | (simp; done) | (simp; omega)) _) | refine Below.drew ?_))))).mono ?_
  rintro e w1 ⟨rfl, hb1⟩
  have hB1 : Below w.heap.size w w1 := Below.call (by repeat (first | exact Below.refl _ _ | (refine Below.setCell ?_ (by first | omega | (simp; done) | (simp; omega)) _) | (refine Below.alloc ?_ (by first | omega | (simp; done) | (simp; omega)) _) | refine Below.drew ?_)) hb1
  have hS1 : w.heap.size ≤ w1.heap.size := hB1.size
  obtain ⟨hc1, hf1⟩ := bcell hb1
  have hz1_0 : w.heap.size < w1.heap.size := by have := hb1.size; first | omega | (simp at this; omega)
  have hz1_1 : w.heap.size + 1 < w1.heap.size := by have := hb1.size; first | omega | (simp at this; omega)
  rw [Hp.out]
  have i0 : w1.cell? ⟨w.heap.size, 0, none⟩ = some (.int .i64 m) := by go_simp
  have i1 : w1.cell? ⟨w.heap.size, 1, none⟩ = some (.bool true) := by go_simp
  have i2 : w1.cell? ⟨w.heap.size, 2, none⟩ = some (.int .u8 f) := by go_simp
  have i3 : w1.cell? ⟨w.heap.size + 1, 0, none⟩ = some (.int .u8 0) := by go_simp
  have i4 : w1.cell? ⟨w.heap.size + 1, 1, none⟩ = some (.int .u8 0) := by go_simp
  have f3 : w1.frozen? ⟨w.heap.size + 1, 0, none⟩ = false := by go_simp
  have f4 : w1.frozen? ⟨w.heap.size + 1, 1, none⟩ = false := by go_simp
  have j0 : w1.cell? ⟨b, off + m * 2, none⟩ = some (.int .u8 k) := (hB1.cell (p := ⟨b, _, none⟩) hlt).trans c0
  have j1 : w1.cell? ⟨b, off + m * 2 + 1, none⟩ = some (.int .u8 t) := (hB1.cell (p := ⟨b, _, none⟩) hlt).trans c1
  clear hc1 hf1 c0 c1
  go_wp2_with fail
  refine (target_any k t _ b0 b1 b2 b3).mono ?_
  rintro e w2 ⟨rfl, hb2⟩
  have hB2 : Below w.heap.size w w2 := Below.call (by repeat (first | exact hB1 | exact Below.refl _ _ | (refine Below.setCell ?_ (by first | omega | (simp; done) | (simp; omega)) _) | (refine Below.alloc ?_ (by first | omega | (simp; done) | (simp; omega)) _) | refine Below.drew ?_)) hb2
  have hS2 : w.heap.size ≤ w2.heap.size := hB2.size
  obtain ⟨hc2, hf2⟩ := bcell hb2
  have hz2_0 : w.heap.size < w2.heap.size := by have := hb2.size; first | omega | (simp at this; omega)
  have hz2_1 : w.heap.size + 1 < w2.heap.size := by have := hb2.size; first | omega | (simp at this; omega)
  have hz2_2 : w1.heap.size < w2.heap.size := by have := hb2.size; first | omega | (simp at this; omega)
  rw [G1.out, G2.out]
  have l0 : w2.cell? ⟨w.heap.size, 2, none⟩ = some (.int .u8 f) := by go_simp
  have l3 : w2.cell? ⟨w.heap.size + 1, 0, none⟩ = some (.int .u8 0) := by go_simp
  have l4 : w2.cell? ⟨w.heap.size + 1, 1, none⟩ = some (.int .u8 0) := by go_simp
  have g3 : w2.frozen? ⟨w.heap.size + 1, 0, none⟩ = false := by go_simp
  have g4 : w2.frozen? ⟨w.heap.size + 1, 1, none⟩ = false := by go_simp
  have l5 : w2.cell? ⟨w1.heap.size, 0, none⟩ = some (.int .u8 k) := by go_simp
  have l6 : w2.cell? ⟨w1.heap.size, 1, none⟩ = some (.int .u8 t) := by go_simp
  have g5 : w2.frozen? ⟨w1.heap.size, 0, none⟩ = false := by go_simp
  have g6 : w2.frozen? ⟨w1.heap.size, 1, none⟩ = false := by go_simp
  clear hc2 hf2 i0 i1 i2 i3 i4 f3 f4 j0 j1
  go_wp2
  rw [show e1 = 1 from E1.out, show e2 = 0 from E2.out, show e3 = 0 from E3.out]
  refine bodyPost_ret (by simp [results, Try.results10, go_sem, *]; try rfl) rfl ⟨rfl, ?_⟩
  exact (by repeat (first | exact hB2 | exact Below.refl _ _ | (refine Below.setCell ?_ (by first | omega | (simp; done) | (simp; omega)) _) | (refine Below.alloc ?_ (by first | omega | (simp; done) | (simp; omega)) _) | refine Below.drew ?_))

set_option maxHeartbeats 1000000 in
theorem ptype_tx (b off : Nat) (n cap m : Nat) (K T : Nat → Int) (k t f e1 e2 e3 : Int) (w : World) (hn : n ≤ maxLen) (hT : Types w (some ⟨b, off, none⟩) n K T) (hlt : b < w.heap.size)
    (c0 : w.cell? ⟨b, off + m * 2, none⟩ = some (.int .u8 k)) (c1 : w.cell? ⟨b, off + m * 2 + 1, none⟩ = some (.int .u8 t)) (hm : m < n) (hm' : m < 16) (b0 : 0 ≤ k) (b1 : k ≤ 255) (b2 : 0 ≤ t) (b3 : t ≤ 255) (b4 : 0 ≤ f) (b5 : f ≤ 2)
    (Hp : Hid (pchk n K T m f = 0)) (H1 : Hid (ptK n K T m true f = e1)) (H2 : Hid (ptT n K T m true f = e2)) (H3 : Hid (ptE n K T m true f = e3)) (G1 : Hid (tgtK k t = t)) (G2 : Hid (tgtE k t = 0)) (q : (f == 0) = false) (q2 : (t != 2) = true) (E1 : Hid (e1 = 0)) (E2 : Hid (e2 = 0)) (E3 : Hid (e3 = 42)) :
    Calls Try.prog 10 #[.slice (some ⟨b, off, none⟩) n cap, .agg #[.int .i64 m, .bool true, .int .u8 f]] w (Ret w (.tuple #[.agg #[.int .u8 (ptK n K T m true f), .int .u8 (ptT n K T m true f)], .int .i64 (ptE n K T m true f)])) := by
  have hl := hn
  unfold maxLen at hl
  rw [H1.out, H2.out, H3.out]
  go_enter Try.func10, Try.ntmps10
  go_wp2_with fail
  refine (pcheck_any _ _ _ K T _ _ _ _ hn ((hT.below' (by repeat (first | exact Below.refl _ _ | (refine Below.setCell ?_ (by first | omega | (simp; done) | (simp; omega)) _) | (refine Below.alloc ?_ (by first | omega | (simp; done) | (simp; omega)) _) | refine Below.drew ?_))))).mono ?_
  rintro e w1 ⟨rfl, hb1⟩
  have hB1 : Below w.heap.size w w1 := Below.call (by repeat (first | exact Below.refl _ _ | (refine Below.setCell ?_ (by first | omega | (simp; done) | (simp; omega)) _) | (refine Below.alloc ?_ (by first | omega | (simp; done) | (simp; omega)) _) | refine Below.drew ?_)) hb1
  have hS1 : w.heap.size ≤ w1.heap.size := hB1.size
  obtain ⟨hc1, hf1⟩ := bcell hb1
  have hz1_0 : w.heap.size < w1.heap.size := by have := hb1.size; first | omega | (simp at this; omega)
  have hz1_1 : w.heap.size + 1 < w1.heap.size := by have := hb1.size; first | omega | (simp at this; omega)
  rw [Hp.out]
  have i0 : w1.cell? ⟨w.heap.size, 0, none⟩ = some (.int .i64 m) := by go_simp
  have i1 : w1.cell? ⟨w.heap.size, 1, none⟩ = some (.bool true) := by go_simp
  have i2 : w1.cell? ⟨w.heap.size, 2, none⟩ = some (.int .u8 f) := by go_simp
  have i3 : w1.cell? ⟨w.heap.size + 1, 0, none⟩ = some (.int .u8 0) := by go_simp
  have i4 : w1.cell? ⟨w.heap.size + 1, 1, none⟩ = some (.int .u8 0) := by go_simp
  have f3 : w1.frozen? ⟨w.heap.size + 1, 0, none⟩ = false := by go_simp
  have f4 : w1.frozen? ⟨w.heap.size + 1, 1, none⟩ = false := by go_simp
  have j0 : w1.cell? ⟨b, off + m * 2, none⟩ = some (.int .u8 k) := (hB1.cell (p := ⟨b, _, none⟩) hlt).trans c0
  have j1 : w1.cell? ⟨b, off + m * 2 + 1, none⟩ = some (.int .u8 t) := (hB1.cell (p := ⟨b, _, none⟩) hlt).trans c1
  clear hc1 hf1 c0 c1
  go_wp2_with fail
  refine (target_any k t _ b0 b1 b2 b3).mono ?_
  rintro e w2 ⟨rfl, hb2⟩
  have hB2 : Below w.heap.size w w2 := Below.call (by repeat (first | exact hB1 | exact Below.refl _ _ | (refine Below.setCell ?_ (by first | omega | (simp; done) | (simp; omega)) _) | (refine Below.alloc ?_ (by first | omega | (simp; done) | (simp; omega)) _) | refine Below.drew ?_)) hb2
  have hS2 : w.heap.size ≤ w2.heap.size := hB2.size
  obtain ⟨hc2, hf2⟩ := bcell hb2
  have hz2_0 : w.heap.size < w2.heap.size := by have := hb2.size; first | omega | (simp at this; omega)
  have hz2_1 : w.heap.size + 1 < w2.heap.size := by have := hb2.size; first | omega | (simp at this; omega)
  have hz2_2 : w1.heap.size < w2.heap.size := by have := hb2.size; first | omega | (simp at this; omega)
  rw [G1.out, G2.out]
  have l0 : w2.cell? ⟨w.heap.size, 2, none⟩ = some (.int .u8 f) := by go_simp
  have l3 : w2.cell? ⟨w.heap.size + 1, 0, none⟩ = some (.int .u8 0) := by go_simp
  have l4 : w2.cell? ⟨w.heap.size + 1, 1, none⟩ = some (.int .u8 0) := by go_simp
  have g3 : w2.frozen? ⟨w.heap.size + 1, 0, none⟩ = false := by go_simp
  have g4 : w2.frozen? ⟨w.heap.size + 1, 1, none⟩ = false := by go_simp
  have l5 : w2.cell? ⟨w1.heap.size, 0, none⟩ = some (.int .u8 k) := by go_simp
  have l6 : w2.cell? ⟨w1.heap.size, 1, none⟩ = some (.int .u8 t) := by go_simp
  have g5 : w2.frozen? ⟨w1.heap.size, 0, none⟩ = false := by go_simp
  have g6 : w2.frozen? ⟨w1.heap.size, 1, none⟩ = false := by go_simp
  clear hc2 hf2 i0 i1 i2 i3 i4 f3 f4 j0 j1
  go_wp2
  rw [show e1 = 0 from E1.out, show e2 = 0 from E2.out, show e3 = 42 from E3.out]
  refine bodyPost_ret (by simp [results, Try.results10, go_sem, *]; try rfl) rfl ⟨rfl, ?_⟩
  exact (by repeat (first | exact hB2 | exact Below.refl _ _ | (refine Below.setCell ?_ (by first | omega | (simp; done) | (simp; omega)) _) | (refine Below.alloc ?_ (by first | omega | (simp; done) | (simp; omega)) _) | refine Below.drew ?_))

end Go.Proofs.Ytmjklmdjlojmlaa
