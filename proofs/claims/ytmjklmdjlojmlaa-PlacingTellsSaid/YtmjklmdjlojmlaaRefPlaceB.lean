/- The reference of layer 13: Type, Write, Cells. No condition. -/
import Derived.Test.YtmjklmdjlojmlaaRefPlace
namespace Go.Proofs.Ytmjklmdjlojmlaa
open Go.RowKit

set_option maxHeartbeats 1000000 in
theorem rtype_any (A : Option Addr) (n cap : Nat) (K T : Nat → Int) (l f : Int) (d : Bool) (w : World) (hn : n ≤ maxLen) (hT : Types w A n K T) (b4 : 0 ≤ f) :
    Calls Try.prog 16 #[.slice A n cap, .agg #[.int .i64 l, .bool d, .int .u8 f]] w (Ret w (.tuple #[.agg #[.int .u8 (ptK n K T l d f), .int .u8 (ptT n K T l d f)], .int .i64 (ptE n K T l d f)])) := by
  have hn' := hn
  unfold maxLen at hn'
  have C1 := fun W (h : Types W A n K T) => rasked_any A n cap K T l f d W hn h b4
  by_cases hp : ptE n K T l d f = 0
  · have C2 := fun W (h : Types W A n K T) => rtyped_any A n cap K T l f d W hn h b4 (ptE_zero hp)
    rw [hp] at C1 C2 ⊢
    generalize ptK n K T l d f = k at *
    generalize ptT n K T l d f = t at *
    clear hp
    have D1 := Lib.hid C1
    have D2 := Lib.hid C2
    clear C1 C2
    go_enter Try.func16, Try.ntmps16
    go_wp2_with fail
    refine (D1.out _ (hT.below' (by repeat (first | exact Below.refl _ _ | (refine Below.setCell ?_ (by first | omega | (simp; done) | (simp; omega)) _) | (refine Below.alloc ?_ (by first | omega | (simp; done) | (simp; omega)) _) | refine Below.drew ?_)))).mono ?_
    rintro e w1 ⟨rfl, hb1⟩
    have hB1 : Below w.heap.size w w1 := Below.call (by repeat (first | exact Below.refl _ _ | (refine Below.setCell ?_ (by first | omega | (simp; done) | (simp; omega)) _) | (refine Below.alloc ?_ (by first | omega | (simp; done) | (simp; omega)) _) | refine Below.drew ?_)) hb1
    have hS1 : w.heap.size ≤ w1.heap.size := hB1.size
    obtain ⟨hc1, hf1⟩ := bcell hb1
    have hz1_0 : w.heap.size < w1.heap.size := by have := hb1.size; first | omega | (simp at this; omega)
    have hz1_1 : w.heap.size + 1 < w1.heap.size := by have := hb1.size; first | omega | (simp at this; omega)
    have i0 : w1.cell? ⟨w.heap.size, 0, none⟩ = some (.int .i64 l) := by go_simp
    have i1 : w1.cell? ⟨w.heap.size, 1, none⟩ = some (.bool d) := by go_simp
    have i2 : w1.cell? ⟨w.heap.size, 2, none⟩ = some (.int .u8 f) := by go_simp
    have i3 : w1.cell? ⟨w.heap.size + 1, 0, none⟩ = some (.int .u8 0) := by go_simp
    have i4 : w1.cell? ⟨w.heap.size + 1, 1, none⟩ = some (.int .u8 0) := by go_simp
    have f3 : w1.frozen? ⟨w.heap.size + 1, 0, none⟩ = false := by go_simp
    have f4 : w1.frozen? ⟨w.heap.size + 1, 1, none⟩ = false := by go_simp
    clear hc1 hf1
    go_wp2_with fail
    refine (D2.out _ (hT.below' (by repeat (first | exact hB1 | exact Below.refl _ _ | (refine Below.setCell ?_ (by first | omega | (simp; done) | (simp; omega)) _) | (refine Below.alloc ?_ (by first | omega | (simp; done) | (simp; omega)) _) | refine Below.drew ?_)))).mono ?_
    rintro e w2 ⟨rfl, hb2⟩
    have hB2 : Below w.heap.size w w2 := Below.call (by repeat (first | exact hB1 | exact Below.refl _ _ | (refine Below.setCell ?_ (by first | omega | (simp; done) | (simp; omega)) _) | (refine Below.alloc ?_ (by first | omega | (simp; done) | (simp; omega)) _) | refine Below.drew ?_)) hb2
    have hS2 : w.heap.size ≤ w2.heap.size := hB2.size
    obtain ⟨hc2, hf2⟩ := bcell hb2
    have hz2_0 : w.heap.size < w2.heap.size := by have := hb2.size; first | omega | (simp at this; omega)
    have hz2_1 : w.heap.size + 1 < w2.heap.size := by have := hb2.size; first | omega | (simp at this; omega)
    have j3 : w2.cell? ⟨w.heap.size + 1, 0, none⟩ = some (.int .u8 0) := by go_simp
    have j4 : w2.cell? ⟨w.heap.size + 1, 1, none⟩ = some (.int .u8 0) := by go_simp
    have g3 : w2.frozen? ⟨w.heap.size + 1, 0, none⟩ = false := by go_simp
    have g4 : w2.frozen? ⟨w.heap.size + 1, 1, none⟩ = false := by go_simp
    clear hc2 hf2 i0 i1 i2 i3 i4 f3 f4
    go_wp2
    refine bodyPost_ret (by simp [results, Try.results16, go_sem, *]; try rfl) rfl ⟨rfl, ?_⟩
    exact (by repeat (first | exact hB2 | exact Below.refl _ _ | (refine Below.setCell ?_ (by first | omega | (simp; done) | (simp; omega)) _) | (refine Below.alloc ?_ (by first | omega | (simp; done) | (simp; omega)) _) | refine Below.drew ?_))
  · rw [show ptK n K T l d f = 0 from by rw [ptK, if_neg hp], show ptT n K T l d f = 0 from by rw [ptT, if_neg hp]]
    have he := beqF' hp
    clear hp
    generalize ptE n K T l d f = e at *
    have D1 := Lib.hid C1
    clear C1
    go_enter Try.func16, Try.ntmps16
    go_wp2_with fail
    refine (D1.out _ (hT.below' (by repeat (first | exact Below.refl _ _ | (refine Below.setCell ?_ (by first | omega | (simp; done) | (simp; omega)) _) | (refine Below.alloc ?_ (by first | omega | (simp; done) | (simp; omega)) _) | refine Below.drew ?_)))).mono ?_
    rintro e w1 ⟨rfl, hb1⟩
    have hB1 : Below w.heap.size w w1 := Below.call (by repeat (first | exact Below.refl _ _ | (refine Below.setCell ?_ (by first | omega | (simp; done) | (simp; omega)) _) | (refine Below.alloc ?_ (by first | omega | (simp; done) | (simp; omega)) _) | refine Below.drew ?_)) hb1
    have hS1 : w.heap.size ≤ w1.heap.size := hB1.size
    obtain ⟨hc1, hf1⟩ := bcell hb1
    have hz1_0 : w.heap.size < w1.heap.size := by have := hb1.size; first | omega | (simp at this; omega)
    have hz1_1 : w.heap.size + 1 < w1.heap.size := by have := hb1.size; first | omega | (simp at this; omega)
    have i0 : w1.cell? ⟨w.heap.size, 0, none⟩ = some (.int .i64 l) := by go_simp
    have i1 : w1.cell? ⟨w.heap.size, 1, none⟩ = some (.bool d) := by go_simp
    have i2 : w1.cell? ⟨w.heap.size, 2, none⟩ = some (.int .u8 f) := by go_simp
    have i3 : w1.cell? ⟨w.heap.size + 1, 0, none⟩ = some (.int .u8 0) := by go_simp
    have i4 : w1.cell? ⟨w.heap.size + 1, 1, none⟩ = some (.int .u8 0) := by go_simp
    have f3 : w1.frozen? ⟨w.heap.size + 1, 0, none⟩ = false := by go_simp
    have f4 : w1.frozen? ⟨w.heap.size + 1, 1, none⟩ = false := by go_simp
    clear hc1 hf1
    go_wp2_with fail
    refine (D1.out _ (hT.below' (by repeat (first | exact hB1 | exact Below.refl _ _ | (refine Below.setCell ?_ (by first | omega | (simp; done) | (simp; omega)) _) | (refine Below.alloc ?_ (by first | omega | (simp; done) | (simp; omega)) _) | refine Below.drew ?_)))).mono ?_
    rintro e w2 ⟨rfl, hb2⟩
    have hB2 : Below w.heap.size w w2 := Below.call (by repeat (first | exact hB1 | exact Below.refl _ _ | (refine Below.setCell ?_ (by first | omega | (simp; done) | (simp; omega)) _) | (refine Below.alloc ?_ (by first | omega | (simp; done) | (simp; omega)) _) | refine Below.drew ?_)) hb2
    have hS2 : w.heap.size ≤ w2.heap.size := hB2.size
    obtain ⟨hc2, hf2⟩ := bcell hb2
    have hz2_0 : w.heap.size < w2.heap.size := by have := hb2.size; first | omega | (simp at this; omega)
    have hz2_1 : w.heap.size + 1 < w2.heap.size := by have := hb2.size; first | omega | (simp at this; omega)
    have j3 : w2.cell? ⟨w.heap.size + 1, 0, none⟩ = some (.int .u8 0) := by go_simp
    have j4 : w2.cell? ⟨w.heap.size + 1, 1, none⟩ = some (.int .u8 0) := by go_simp
    have g3 : w2.frozen? ⟨w.heap.size + 1, 0, none⟩ = false := by go_simp
    have g4 : w2.frozen? ⟨w.heap.size + 1, 1, none⟩ = false := by go_simp
    clear hc2 hf2 i0 i1 i2 i3 i4 f3 f4
    go_wp2
    refine bodyPost_ret (by simp [results, Try.results16, go_sem, *]; try rfl) rfl ⟨rfl, ?_⟩
    exact (by repeat (first | exact hB2 | exact Below.refl _ _ | (refine Below.setCell ?_ (by first | omega | (simp; done) | (simp; omega)) _) | (refine Below.alloc ?_ (by first | omega | (simp; done) | (simp; omega)) _) | refine Below.drew ?_))

set_option maxHeartbeats 1000000 in
theorem rwrite_any (A : Option Addr) (n cap : Nat) (K T : Nat → Int) (l f : Int) (d : Bool) (w : World) (hn : n ≤ maxLen) (hT : Types w A n K T) (b4 : 0 ≤ f) :
    Calls Try.prog 19 #[.slice A n cap, .agg #[.int .i64 l, .bool d, .int .u8 f]] w (Ret w (.int .i64 (pwE n K T l d f))) := by
  have hn' := hn
  unfold maxLen at hn'
  have C1 := fun W (h : Types W A n K T) => rasked_any A n cap K T l f d W hn h b4
  by_cases hp : ptE n K T l d f = 0
  · obtain ⟨h1, h2, h3, h4, h5, h6⟩ := pchk_zero (ptE_zero hp)
    obtain ⟨m, rfl⟩ := Int.eq_ofNat_of_zero_le h4
    obtain ⟨b, off, rfl, hlt, hc⟩ := hT (by omega)
    obtain ⟨c0, c1, b0, b1, b2, b3⟩ := hc m (by omega)
    have em : (m : Int).toNat = m := by simp
    rw [pwE, if_pos hp, em]
    rw [hp] at C1
    have D1 := Lib.hid C1
    clear C1 hp hc
    have hm : m < n := by omega
    have hm' : m < 16 := by omega
    cases d
    · simp only [Bool.false_eq_true, false_and, if_false]
      go_enter Try.func19, Try.ntmps19
      go_wp2_with fail
      refine (D1.out _ (hT.below' (by repeat (first | exact Below.refl _ _ | (refine Below.setCell ?_ (by first | omega | (simp; done) | (simp; omega)) _) | (refine Below.alloc ?_ (by first | omega | (simp; done) | (simp; omega)) _) | refine Below.drew ?_)))).mono ?_
      rintro e w1 ⟨rfl, hb1⟩
      have hB1 : Below w.heap.size w w1 := Below.call (by repeat (first | exact Below.refl _ _ | (refine Below.setCell ?_ (by first | omega | (simp; done) | (simp; omega)) _) | (refine Below.alloc ?_ (by first | omega | (simp; done) | (simp; omega)) _) | refine Below.drew ?_)) hb1
      have hS1 : w.heap.size ≤ w1.heap.size := hB1.size
      obtain ⟨hc1, hf1⟩ := bcell hb1
      have hz1_0 : w.heap.size < w1.heap.size := by have := hb1.size; first | omega | (simp at this; omega)
      have i1 : w1.cell? ⟨w.heap.size, 1, none⟩ = some (.bool false) := by go_simp
      clear hc1 hf1
      go_wp2
      go_ret
      exact ⟨rfl, (by repeat (first | exact hB1 | exact Below.refl _ _ | (refine Below.setCell ?_ (by first | omega | (simp; done) | (simp; omega)) _) | (refine Below.alloc ?_ (by first | omega | (simp; done) | (simp; omega)) _) | refine Below.drew ?_))⟩
    · simp only [true_and]
      have hr : ∃ r, (if K m = 3 then (42 : Int) else 0) = r ∧ ((K m == 3) = true ∧ r = 42 ∨ (K m == 3) = false ∧ r = 0) := by
        by_cases hk : K m = 3
        · exact ⟨42, if_pos hk, .inl ⟨beqT hk, rfl⟩⟩
        · exact ⟨0, if_neg hk, .inr ⟨beqF hk, rfl⟩⟩
      obtain ⟨r, e, hr⟩ := hr
      rw [e]
      clear e
      rcases hr with ⟨q, rfl⟩ | ⟨q, rfl⟩
      all_goals
        go_enter Try.func19, Try.ntmps19
        go_wp2_with fail
        refine (D1.out _ (hT.below' (by repeat (first | exact Below.refl _ _ | (refine Below.setCell ?_ (by first | omega | (simp; done) | (simp; omega)) _) | (refine Below.alloc ?_ (by first | omega | (simp; done) | (simp; omega)) _) | refine Below.drew ?_)))).mono ?_
        rintro e w1 ⟨rfl, hb1⟩
        have hB1 : Below w.heap.size w w1 := Below.call (by repeat (first | exact Below.refl _ _ | (refine Below.setCell ?_ (by first | omega | (simp; done) | (simp; omega)) _) | (refine Below.alloc ?_ (by first | omega | (simp; done) | (simp; omega)) _) | refine Below.drew ?_)) hb1
        have hS1 : w.heap.size ≤ w1.heap.size := hB1.size
        obtain ⟨hc1, hf1⟩ := bcell hb1
        have hz1_0 : w.heap.size < w1.heap.size := by have := hb1.size; first | omega | (simp at this; omega)
        have i0 : w1.cell? ⟨w.heap.size, 0, none⟩ = some (.int .i64 m) := by go_simp
        have i1 : w1.cell? ⟨w.heap.size, 1, none⟩ = some (.bool true) := by go_simp
        have j0 : w1.cell? ⟨b, off + m * 2, none⟩ = some (.int .u8 (K m)) := (hB1.cell (p := ⟨b, _, none⟩) hlt).trans c0
        clear hc1 hf1 c0 c1
        go_wp2
        go_ret
        exact ⟨rfl, (by repeat (first | exact hB1 | exact Below.refl _ _ | (refine Below.setCell ?_ (by first | omega | (simp; done) | (simp; omega)) _) | (refine Below.alloc ?_ (by first | omega | (simp; done) | (simp; omega)) _) | refine Below.drew ?_))⟩
  · rw [pwE, if_neg hp]
    have he := beqF' hp
    clear hp
    generalize ptE n K T l d f = e at *
    have D1 := Lib.hid C1
    clear C1
    go_enter Try.func19, Try.ntmps19
    go_wp2_with fail
    refine (D1.out _ (hT.below' (by repeat (first | exact Below.refl _ _ | (refine Below.setCell ?_ (by first | omega | (simp; done) | (simp; omega)) _) | (refine Below.alloc ?_ (by first | omega | (simp; done) | (simp; omega)) _) | refine Below.drew ?_)))).mono ?_
    rintro e w1 ⟨rfl, hb1⟩
    have hB1 : Below w.heap.size w w1 := Below.call (by repeat (first | exact Below.refl _ _ | (refine Below.setCell ?_ (by first | omega | (simp; done) | (simp; omega)) _) | (refine Below.alloc ?_ (by first | omega | (simp; done) | (simp; omega)) _) | refine Below.drew ?_)) hb1
    have hS1 : w.heap.size ≤ w1.heap.size := hB1.size
    obtain ⟨hc1, hf1⟩ := bcell hb1
    have hz1_0 : w.heap.size < w1.heap.size := by have := hb1.size; first | omega | (simp at this; omega)
    have i0 : w1.cell? ⟨w.heap.size, 0, none⟩ = some (.int .i64 l) := by go_simp
    have i1 : w1.cell? ⟨w.heap.size, 1, none⟩ = some (.bool d) := by go_simp
    have i2 : w1.cell? ⟨w.heap.size, 2, none⟩ = some (.int .u8 f) := by go_simp
    clear hc1 hf1
    go_wp2_with fail
    refine (D1.out _ (hT.below' (by repeat (first | exact hB1 | exact Below.refl _ _ | (refine Below.setCell ?_ (by first | omega | (simp; done) | (simp; omega)) _) | (refine Below.alloc ?_ (by first | omega | (simp; done) | (simp; omega)) _) | refine Below.drew ?_)))).mono ?_
    rintro e w2 ⟨rfl, hb2⟩
    have hB2 : Below w.heap.size w w2 := Below.call (by repeat (first | exact hB1 | exact Below.refl _ _ | (refine Below.setCell ?_ (by first | omega | (simp; done) | (simp; omega)) _) | (refine Below.alloc ?_ (by first | omega | (simp; done) | (simp; omega)) _) | refine Below.drew ?_)) hb2
    have hS2 : w.heap.size ≤ w2.heap.size := hB2.size
    obtain ⟨hc2, hf2⟩ := bcell hb2
    clear hc2 hf2
    go_wp2
    go_ret
    exact ⟨rfl, (by repeat (first | exact hB2 | exact Below.refl _ _ | (refine Below.setCell ?_ (by first | omega | (simp; done) | (simp; omega)) _) | (refine Below.alloc ?_ (by first | omega | (simp; done) | (simp; omega)) _) | refine Below.drew ?_))⟩

set_option maxHeartbeats 1000000 in
theorem rhas_half (A : Option Addr) (n cap : Nat) (l f c : Int) (d q : Bool) (w : World) (hq : f = 1 ∧ (c == 0) = q ∨ f = 2 ∧ (c == 1) = q) :
    Calls Try.prog 28 #[.slice A n cap, .agg #[.int .i64 l, .bool d, .int .u8 f], .int .i64 c] w (Ret w (.bool q)) := by
  rcases hq with ⟨rfl, hq⟩ | ⟨rfl, hq⟩
  all_goals
    go_enter Try.func28, Try.ntmps28
    go_wp2
    go_ret
    exact ⟨rfl, (by repeat (first | exact Below.refl _ _ | (refine Below.setCell ?_ (by first | omega | (simp; done) | (simp; omega)) _) | (refine Below.alloc ?_ (by first | omega | (simp; done) | (simp; omega)) _) | refine Below.drew ?_))⟩

set_option maxHeartbeats 1000000 in
theorem rhas_whole (A : Option Addr) (n cap : Nat) (K T : Nat → Int) (l c : Int) (d q r : Bool) (w : World) (hn : n ≤ maxLen) (hT : Types w A n K T) (hp : Hid (ptE n K T l d 0 = 0)) (hq : Hid ((ptK n K T l d 0 == 2) = q)) (hr : c = 0 ∧ r = true ∨ c = 1 ∧ r = q) :
    Calls Try.prog 28 #[.slice A n cap, .agg #[.int .i64 l, .bool d, .int .u8 0], .int .i64 c] w (Ret w (.bool r)) := by
  have C2 := fun W (h : Types W A n K T) => rtyped_any A n cap K T l 0 d W hn h (by omega) (ptE_zero hp.out)
  have q' := hq.out
  clear hq hp
  generalize ptK n K T l d 0 = k at *
  generalize ptT n K T l d 0 = t at *
  have D2 := Lib.hid C2
  clear C2
  rcases hr with ⟨rfl, rfl⟩ | ⟨rfl, rfl⟩
  all_goals
    go_enter Try.func28, Try.ntmps28
    go_wp2_with fail
    refine (D2.out _ (hT.below' (by repeat (first | exact Below.refl _ _ | (refine Below.setCell ?_ (by first | omega | (simp; done) | (simp; omega)) _) | (refine Below.alloc ?_ (by first | omega | (simp; done) | (simp; omega)) _) | refine Below.drew ?_)))).mono ?_
    rintro e w1 ⟨rfl, hb1⟩
    have hB1 : Below w.heap.size w w1 := Below.call (by repeat (first | exact Below.refl _ _ | (refine Below.setCell ?_ (by first | omega | (simp; done) | (simp; omega)) _) | (refine Below.alloc ?_ (by first | omega | (simp; done) | (simp; omega)) _) | refine Below.drew ?_)) hb1
    have hS1 : w.heap.size ≤ w1.heap.size := hB1.size
    obtain ⟨hc1, hf1⟩ := bcell hb1
    clear hc1 hf1
    go_wp2
    go_ret
    exact ⟨rfl, (by repeat (first | exact hB1 | exact Below.refl _ _ | (refine Below.setCell ?_ (by first | omega | (simp; done) | (simp; omega)) _) | (refine Below.alloc ?_ (by first | omega | (simp; done) | (simp; omega)) _) | refine Below.drew ?_))⟩

set_option maxHeartbeats 1000000 in
theorem rcells_walk (A : Option Addr) (n cap : Nat) (K T : Nat → Int) (l f a s e : Int) (d h0 h1 q : Bool) (w : World) (hT : Types w A n K T)
    (hq : (e != 0) = q) (D1 : Hid (∀ W, Types W A n K T → Calls Try.prog 26 #[.slice A n cap, .agg #[.int .i64 l, .bool d, .int .u8 f]] W (Ret W (.int .i64 e))))
    (D2 : q = false → Hid (∀ W, Types W A n K T → Calls Try.prog 28 #[.slice A n cap, .agg #[.int .i64 l, .bool d, .int .u8 f], .int .i64 0] W (Ret W (.bool h0))))
    (D3 : q = false → Hid (∀ W, Types W A n K T → Calls Try.prog 28 #[.slice A n cap, .agg #[.int .i64 l, .bool d, .int .u8 f], .int .i64 1] W (Ret W (.bool h1))))
    (hv : q = true ∧ a = 0 ∧ s = 0 ∨ q = false ∧ e = 0 ∧ (h0 = false ∧ a = 1 ∧ s = 1 ∨ h0 = true ∧ h1 = true ∧ a = 0 ∧ s = 2 ∨ h0 = true ∧ h1 = false ∧ a = 0 ∧ s = 1)) :
    Calls Try.prog 17 #[.slice A n cap, .agg #[.int .i64 l, .bool d, .int .u8 f]] w (Ret w (.tuple #[.int .i64 a, .int .i64 s, .int .i64 e])) := by
  rcases hv with ⟨rfl, rfl, rfl⟩ | ⟨rfl, rfl, hv⟩
  · clear D2 D3
    go_enter Try.func17, Try.ntmps17
    go_wp2_with fail
    refine (D1.out _ (hT.below' (by repeat (first | exact Below.refl _ _ | (refine Below.setCell ?_ (by first | omega | (simp; done) | (simp; omega)) _) | (refine Below.alloc ?_ (by first | omega | (simp; done) | (simp; omega)) _) | refine Below.drew ?_)))).mono ?_
    rintro e w1 ⟨rfl, hb1⟩
    have hB1 : Below w.heap.size w w1 := Below.call (by repeat (first | exact Below.refl _ _ | (refine Below.setCell ?_ (by first | omega | (simp; done) | (simp; omega)) _) | (refine Below.alloc ?_ (by first | omega | (simp; done) | (simp; omega)) _) | refine Below.drew ?_)) hb1
    have hS1 : w.heap.size ≤ w1.heap.size := hB1.size
    obtain ⟨hc1, hf1⟩ := bcell hb1
    have hz1_0 : w.heap.size < w1.heap.size := by have := hb1.size; first | omega | (simp at this; omega)
    have i0 : w1.cell? ⟨w.heap.size, 0, none⟩ = some (.int .i64 l) := by go_simp
    have i1 : w1.cell? ⟨w.heap.size, 1, none⟩ = some (.bool d) := by go_simp
    have i2 : w1.cell? ⟨w.heap.size, 2, none⟩ = some (.int .u8 f) := by go_simp
    clear hc1 hf1
    go_wp2_with fail
    refine (D1.out _ (hT.below' (by repeat (first | exact hB1 | exact Below.refl _ _ | (refine Below.setCell ?_ (by first | omega | (simp; done) | (simp; omega)) _) | (refine Below.alloc ?_ (by first | omega | (simp; done) | (simp; omega)) _) | refine Below.drew ?_)))).mono ?_
    rintro e w2 ⟨rfl, hb2⟩
    have hB2 : Below w.heap.size w w2 := Below.call (by repeat (first | exact hB1 | exact Below.refl _ _ | (refine Below.setCell ?_ (by first | omega | (simp; done) | (simp; omega)) _) | (refine Below.alloc ?_ (by first | omega | (simp; done) | (simp; omega)) _) | refine Below.drew ?_)) hb2
    have hS2 : w.heap.size ≤ w2.heap.size := hB2.size
    obtain ⟨hc2, hf2⟩ := bcell hb2
    clear hc2 hf2
    go_wp2
    go_ret3
    exact ⟨rfl, (by repeat (first | exact hB2 | exact Below.refl _ _ | (refine Below.setCell ?_ (by first | omega | (simp; done) | (simp; omega)) _) | (refine Below.alloc ?_ (by first | omega | (simp; done) | (simp; omega)) _) | refine Below.drew ?_))⟩
  · have E2 := D2 rfl
    have E3 := D3 rfl
    clear D2 D3 hq
    rcases hv with ⟨rfl, rfl, rfl⟩ | ⟨rfl, rfl, rfl, rfl⟩ | ⟨rfl, rfl, rfl, rfl⟩
    · go_enter Try.func17, Try.ntmps17
      go_wp2_with fail
      refine (D1.out _ (hT.below' (by repeat (first | exact Below.refl _ _ | (refine Below.setCell ?_ (by first | omega | (simp; done) | (simp; omega)) _) | (refine Below.alloc ?_ (by first | omega | (simp; done) | (simp; omega)) _) | refine Below.drew ?_)))).mono ?_
      rintro e w1 ⟨rfl, hb1⟩
      have hB1 : Below w.heap.size w w1 := Below.call (by repeat (first | exact Below.refl _ _ | (refine Below.setCell ?_ (by first | omega | (simp; done) | (simp; omega)) _) | (refine Below.alloc ?_ (by first | omega | (simp; done) | (simp; omega)) _) | refine Below.drew ?_)) hb1
      have hS1 : w.heap.size ≤ w1.heap.size := hB1.size
      obtain ⟨hc1, hf1⟩ := bcell hb1
      have hz1_0 : w.heap.size < w1.heap.size := by have := hb1.size; first | omega | (simp at this; omega)
      have i0 : w1.cell? ⟨w.heap.size, 0, none⟩ = some (.int .i64 l) := by go_simp
      have i1 : w1.cell? ⟨w.heap.size, 1, none⟩ = some (.bool d) := by go_simp
      have i2 : w1.cell? ⟨w.heap.size, 2, none⟩ = some (.int .u8 f) := by go_simp
      clear hc1 hf1
      go_wp2_with fail
      refine (E2.out _ (hT.below' (by repeat (first | exact hB1 | exact Below.refl _ _ | (refine Below.setCell ?_ (by first | omega | (simp; done) | (simp; omega)) _) | (refine Below.alloc ?_ (by first | omega | (simp; done) | (simp; omega)) _) | refine Below.drew ?_)))).mono ?_
      rintro e w2 ⟨rfl, hb2⟩
      have hB2 : Below w.heap.size w w2 := Below.call (by repeat (first | exact hB1 | exact Below.refl _ _ | (refine Below.setCell ?_ (by first | omega | (simp; done) | (simp; omega)) _) | (refine Below.alloc ?_ (by first | omega | (simp; done) | (simp; omega)) _) | refine Below.drew ?_)) hb2
      have hS2 : w.heap.size ≤ w2.heap.size := hB2.size
      obtain ⟨hc2, hf2⟩ := bcell hb2
      clear hc2 hf2
      go_wp2
      go_ret3
      exact ⟨rfl, (by repeat (first | exact hB2 | exact Below.refl _ _ | (refine Below.setCell ?_ (by first | omega | (simp; done) | (simp; omega)) _) | (refine Below.alloc ?_ (by first | omega | (simp; done) | (simp; omega)) _) | refine Below.drew ?_))⟩
    all_goals
      go_enter Try.func17, Try.ntmps17
      go_wp2_with fail
      refine (D1.out _ (hT.below' (by repeat (first | exact Below.refl _ _ | (refine Below.setCell ?_ (by first | omega | (simp; done) | (simp; omega)) _) | (refine Below.alloc ?_ (by first | omega | (simp; done) | (simp; omega)) _) | refine Below.drew ?_)))).mono ?_
      rintro e w1 ⟨rfl, hb1⟩
      have hB1 : Below w.heap.size w w1 := Below.call (by repeat (first | exact Below.refl _ _ | (refine Below.setCell ?_ (by first | omega | (simp; done) | (simp; omega)) _) | (refine Below.alloc ?_ (by first | omega | (simp; done) | (simp; omega)) _) | refine Below.drew ?_)) hb1
      have hS1 : w.heap.size ≤ w1.heap.size := hB1.size
      obtain ⟨hc1, hf1⟩ := bcell hb1
      have hz1_0 : w.heap.size < w1.heap.size := by have := hb1.size; first | omega | (simp at this; omega)
      have i0 : w1.cell? ⟨w.heap.size, 0, none⟩ = some (.int .i64 l) := by go_simp
      have i1 : w1.cell? ⟨w.heap.size, 1, none⟩ = some (.bool d) := by go_simp
      have i2 : w1.cell? ⟨w.heap.size, 2, none⟩ = some (.int .u8 f) := by go_simp
      clear hc1 hf1
      go_wp2_with fail
      refine (E2.out _ (hT.below' (by repeat (first | exact hB1 | exact Below.refl _ _ | (refine Below.setCell ?_ (by first | omega | (simp; done) | (simp; omega)) _) | (refine Below.alloc ?_ (by first | omega | (simp; done) | (simp; omega)) _) | refine Below.drew ?_)))).mono ?_
      rintro e w2 ⟨rfl, hb2⟩
      have hB2 : Below w.heap.size w w2 := Below.call (by repeat (first | exact hB1 | exact Below.refl _ _ | (refine Below.setCell ?_ (by first | omega | (simp; done) | (simp; omega)) _) | (refine Below.alloc ?_ (by first | omega | (simp; done) | (simp; omega)) _) | refine Below.drew ?_)) hb2
      have hS2 : w.heap.size ≤ w2.heap.size := hB2.size
      obtain ⟨hc2, hf2⟩ := bcell hb2
      have hz2_0 : w.heap.size < w2.heap.size := by have := hb2.size; first | omega | (simp at this; omega)
      have j0 : w2.cell? ⟨w.heap.size, 0, none⟩ = some (.int .i64 l) := by go_simp
      have j1 : w2.cell? ⟨w.heap.size, 1, none⟩ = some (.bool d) := by go_simp
      have j2 : w2.cell? ⟨w.heap.size, 2, none⟩ = some (.int .u8 f) := by go_simp
      clear hc2 hf2 i0 i1 i2
      go_wp2_with fail
      refine (E3.out _ (hT.below' (by repeat (first | exact hB2 | exact Below.refl _ _ | (refine Below.setCell ?_ (by first | omega | (simp; done) | (simp; omega)) _) | (refine Below.alloc ?_ (by first | omega | (simp; done) | (simp; omega)) _) | refine Below.drew ?_)))).mono ?_
      rintro e w3 ⟨rfl, hb3⟩
      have hB3 : Below w.heap.size w w3 := Below.call (by repeat (first | exact hB2 | exact Below.refl _ _ | (refine Below.setCell ?_ (by first | omega | (simp; done) | (simp; omega)) _) | (refine Below.alloc ?_ (by first | omega | (simp; done) | (simp; omega)) _) | refine Below.drew ?_)) hb3
      have hS3 : w.heap.size ≤ w3.heap.size := hB3.size
      obtain ⟨hc3, hf3⟩ := bcell hb3
      clear hc3 hf3
      go_wp2
      go_ret3
      exact ⟨rfl, (by repeat (first | exact hB3 | exact Below.refl _ _ | (refine Below.setCell ?_ (by first | omega | (simp; done) | (simp; omega)) _) | (refine Below.alloc ?_ (by first | omega | (simp; done) | (simp; omega)) _) | refine Below.drew ?_))⟩

theorem rcells_any (A : Option Addr) (n cap : Nat) (K T : Nat → Int) (l f : Int) (d : Bool) (w : World) (hn : n ≤ maxLen) (hT : Types w A n K T) (b4 : 0 ≤ f) :
    Calls Try.prog 17 #[.slice A n cap, .agg #[.int .i64 l, .bool d, .int .u8 f]] w (Ret w (.tuple #[.int .i64 (pcA n K T l d f), .int .i64 (pcS n K T l d f), .int .i64 (ptE n K T l d f)])) := by
  have D1 := Lib.hid fun W (h : Types W A n K T) => rasked_any A n cap K T l f d W hn h b4
  by_cases hp : ptE n K T l d f = 0
  · have hok := ptype_ok hp
    obtain ⟨h1, h2, h3, h4, h5, h6⟩ := pchk_zero (ptE_zero hp)
    by_cases hf : f = 0
    · subst hf
      refine rcells_walk A n cap K T l 0 _ _ _ d true (ptK n K T l d 0 == 2) false w hT (beqT' hp) D1
        (fun _ => Lib.hid fun W h => rhas_whole A n cap K T l 0 d _ true W hn h hp rfl (.inl ⟨rfl, rfl⟩)) (fun _ => Lib.hid fun W h => rhas_whole A n cap K T l 1 d _ _ W hn h hp rfl (.inr ⟨rfl, rfl⟩)) (.inr ⟨rfl, hp, .inr ?_⟩)
      rw [pcA, pcS, if_pos hp, if_pos hp, if_neg (by omega), sizeV, if_pos hok, sizeOf_]
      by_cases hk : ptK n K T l d 0 = 2
      · left; simp [hk]
      · right; simp [hk]
    · have hk : ptK n K T l d f = 1 := by rw [ptK, if_pos hp, if_neg hf]
      rw [pcA, pcS, if_pos hp, if_pos hp, sizeV, if_pos hok, sizeOf_, hk]
      have hf12 : f = 1 ∨ f = 2 := by omega
      rcases hf12 with rfl | rfl
      · exact rcells_walk A n cap K T l 1 _ _ _ d true false false w hT (beqT' hp) D1 (fun _ => Lib.hid fun W _ => rhas_half A n cap l 1 0 d true W (.inl ⟨rfl, rfl⟩)) (fun _ => Lib.hid fun W _ => rhas_half A n cap l 1 1 d false W (.inl ⟨rfl, rfl⟩)) (.inr ⟨rfl, hp, .inr (.inr ⟨rfl, rfl, rfl, rfl⟩)⟩)
      · exact rcells_walk A n cap K T l 2 _ _ _ d false true false w hT (beqT' hp) D1 (fun _ => Lib.hid fun W _ => rhas_half A n cap l 2 0 d false W (.inr ⟨rfl, rfl⟩)) (fun _ => Lib.hid fun W _ => rhas_half A n cap l 2 1 d true W (.inr ⟨rfl, rfl⟩)) (.inr ⟨rfl, hp, .inl ⟨rfl, rfl, rfl⟩⟩)
  · have H4 : pcA n K T l d f = 0 := by rw [pcA, if_neg hp]
    have H5 : pcS n K T l d f = 0 := by rw [pcS, if_neg hp]
    rw [H4, H5]
    exact rcells_walk A n cap K T l f 0 0 _ d true true true w hT (beqF' hp) D1 (fun h => by cases h) (fun h => by cases h) (.inl ⟨rfl, rfl, rfl⟩)

end Go.Proofs.Ytmjklmdjlojmlaa
