/- The types of places: Type, Write and Cells. No condition. -/
import Derived.Test.YtmjklmdjlojmlaaPlaceC
namespace Go.Proofs.Ytmjklmdjlojmlaa
open Go.RowKit

theorem beqT' {a b : Int} (h : a = b) : (a != b) = false := by simpa using h
theorem beqF' {a b : Int} (h : ¬ a = b) : (a != b) = true := by simpa using h

set_option maxHeartbeats 1000000 in
theorem ptype_err (A : Option Addr) (n cap : Nat) (K T : Nat → Int) (l f e : Int) (d : Bool) (w : World) (hn : n ≤ maxLen) (hT : Types w A n K T)
    (he : (e != 0) = true) (Hp : Hid (pchk n K T l f = e)) :
    Calls Try.prog 10 #[.slice A n cap, .agg #[.int .i64 l, .bool d, .int .u8 f]] w (Ret w (.tuple #[.agg #[.int .u8 0, .int .u8 0], .int .i64 e])) := by
  go_enter Try.func10, Try.ntmps10
  go_wp2_with fail
  refine (pcheck_any _ _ _ K T _ _ _ _ hn (hT.below' (by repeat (first | exact Below.refl _ _ | (refine Below.setCell ?_ (by first | omega | (simp; done) | (simp; omega)) _) | (refine Below.alloc ?_ (by first | omega | (simp; done) | (simp; omega)) _) | refine Below.drew ?_)))).mono ?_
  rintro e w1 ⟨rfl, hb1⟩
  have hB1 : Below w.heap.size w w1 := Below.call (by repeat (first | exact Below.refl _ _ | (refine Below.setCell ?_ (by first | omega | (simp; done) | (simp; omega)) _) | (refine Below.alloc ?_ (by first | omega | (simp; done) | (simp; omega)) _) | refine Below.drew ?_)) hb1
  have hS1 : w.heap.size ≤ w1.heap.size := hB1.size
  obtain ⟨hc1, hf1⟩ := bcell hb1
  have hz1_0 : w.heap.size < w1.heap.size := by have := hb1.size; first | omega | (simp at this; omega)
  have hz1_1 : w.heap.size + 1 < w1.heap.size := by have := hb1.size; first | omega | (simp at this; omega)
  rw [Hp.out]
  have i3 : w1.cell? ⟨w.heap.size + 1, 0, none⟩ = some (.int .u8 0) := by go_simp
  have i4 : w1.cell? ⟨w.heap.size + 1, 1, none⟩ = some (.int .u8 0) := by go_simp
  have f3 : w1.frozen? ⟨w.heap.size + 1, 0, none⟩ = false := by go_simp
  have f4 : w1.frozen? ⟨w.heap.size + 1, 1, none⟩ = false := by go_simp
  clear hc1 hf1
  go_wp2
  refine bodyPost_ret (by simp [results, Try.results10, go_sem, *]; try rfl) rfl ⟨rfl, ?_⟩
  exact (by repeat (first | exact hB1 | exact Below.refl _ _ | (refine Below.setCell ?_ (by first | omega | (simp; done) | (simp; omega)) _) | (refine Below.alloc ?_ (by first | omega | (simp; done) | (simp; omega)) _) | refine Below.drew ?_))

theorem ptype_any (A : Option Addr) (n cap : Nat) (K T : Nat → Int) (l f : Int) (d : Bool) (w : World) (hn : n ≤ maxLen) (hT : Types w A n K T) (b4 : 0 ≤ f) :
    Calls Try.prog 10 #[.slice A n cap, .agg #[.int .i64 l, .bool d, .int .u8 f]] w (Ret w (.tuple #[.agg #[.int .u8 (ptK n K T l d f), .int .u8 (ptT n K T l d f)], .int .i64 (ptE n K T l d f)])) := by
  by_cases hp : pchk n K T l f = 0
  · obtain ⟨h1, h2, h3, h4, h5, h6⟩ := pchk_zero hp
    obtain ⟨m, rfl⟩ := Int.eq_ofNat_of_zero_le h4
    obtain ⟨b, off, rfl, hlt, hc⟩ := hT (by omega)
    obtain ⟨c0, c1, b0, b1, b2, b3⟩ := hc m (by omega)
    have hok := h3 m (by omega)
    have hok' := (okB_iff _ _).1 hok
    have em : (m : Int).toNat = m := by simp
    have x1 : ∀ d, ptE n K T m d f = (if d then (if T m = 0 then 42 else if f = 0 then 0 else if T m = 2 then 0 else 42) else (if f = 0 then 0 else if K m = 2 then 0 else 42)) := fun d => by rw [ptE, if_pos hp, em]
    have x2 : ∀ d, ptK n K T m d f = if ptE n K T m d f = 0 then (if f = 0 then (if d then T m else K m) else 1) else 0 := fun d => by rw [ptK, em]
    have x3 : ∀ d, ptT n K T m d f = if ptE n K T m d f = 0 then (if f = 0 then (if d then 0 else T m) else 0) else 0 := fun d => by rw [ptT, em]
    cases d
    · have y1 := x1 false
      have y2 := x2 false
      have y3 := x3 false
      simp only [Bool.false_eq_true, if_false] at y1 y2 y3
      rw [y1] at y2 y3
      by_cases hf : f = 0
      · rw [if_pos hf] at y1 y2 y3
        rw [if_pos rfl, if_pos hf] at y2 y3
        exact ptype_f0 b off n cap m K T (K m) (T m) f _ _ _ w hn hT hlt c0 c1 (by omega) (by omega) b0 b1 b2 b3 b4 h6 hp y2 y3 y1 (beqT hf) rfl rfl rfl
      · rw [if_neg hf] at y1 y2 y3
        by_cases hk : K m = 2
        · rw [if_pos hk] at y1 y2 y3
          rw [if_pos rfl, if_neg hf] at y2 y3
          exact ptype_f2 b off n cap m K T (K m) (T m) f _ _ _ w hn hT hlt c0 c1 (by omega) (by omega) b0 b1 b2 b3 b4 h6 hp y2 y3 y1 (beqF hf) (beqT' hk) rfl rfl rfl
        · rw [if_neg hk] at y1 y2 y3
          rw [if_neg (by omega)] at y2 y3
          exact ptype_fx b off n cap m K T (K m) (T m) f _ _ _ w hn hT hlt c0 c1 (by omega) (by omega) b0 b1 b2 b3 b4 h6 hp y2 y3 y1 (beqF hf) (beqF' hk) rfl rfl rfl
    · have y1 := x1 true
      have y2 := x2 true
      have y3 := x3 true
      simp only [if_true] at y1 y2 y3
      rw [y1] at y2 y3
      by_cases ht : T m = 0
      · rw [if_pos ht] at y1 y2 y3
        rw [if_neg (by omega)] at y2 y3
        exact ptype_t0 b off n cap m K T (K m) (T m) f _ _ _ w hn hT hlt c0 c1 (by omega) (by omega) b0 b1 b2 b3 b4 h6 hp y2 y3 y1 (by rw [Hid, tgtK, if_pos hok, ht]) (by rw [Hid, tgtE, if_pos hok, if_pos ht]) rfl rfl rfl
      · have g1 : tgtK (K m) (T m) = T m := by rw [tgtK, if_pos hok]
        have g2 : tgtE (K m) (T m) = 0 := by rw [tgtE, if_pos hok, if_neg ht]
        rw [if_neg ht] at y1 y2 y3
        by_cases hf : f = 0
        · rw [if_pos hf] at y1 y2 y3
          rw [if_pos rfl, if_pos hf] at y2 y3
          exact ptype_t1 b off n cap m K T (K m) (T m) f _ _ _ w hn hT hlt c0 c1 (by omega) (by omega) b0 b1 b2 b3 b4 h6 hp y2 y3 y1 g1 g2 (beqT hf) rfl rfl rfl
        · rw [if_neg hf] at y1 y2 y3
          by_cases hk : T m = 2
          · rw [if_pos hk] at y1 y2 y3
            rw [if_pos rfl, if_neg hf] at y2 y3
            exact ptype_t2 b off n cap m K T (K m) (T m) f _ _ _ w hn hT hlt c0 c1 (by omega) (by omega) b0 b1 b2 b3 b4 h6 hp y2 y3 y1 g1 g2 (beqF hf) (beqT' hk) rfl rfl rfl
          · rw [if_neg hk] at y1 y2 y3
            rw [if_neg (by omega)] at y2 y3
            exact ptype_tx b off n cap m K T (K m) (T m) f _ _ _ w hn hT hlt c0 c1 (by omega) (by omega) b0 b1 b2 b3 b4 h6 hp y2 y3 y1 g1 g2 (beqF hf) (beqF' hk) rfl rfl rfl
  · have e1 : ptE n K T l d f = pchk n K T l f := by rw [ptE, if_neg hp]
    have e2 : ptK n K T l d f = 0 := by rw [ptK, e1, if_neg hp]
    have e3 : ptT n K T l d f = 0 := by rw [ptT, e1, if_neg hp]
    rw [e1, e2, e3]
    exact ptype_err A n cap K T l f _ d w hn hT (beqF' hp) rfl

theorem ptE_zero {n : Nat} {K T : Nat → Int} {l f : Int} {d : Bool} (h : ptE n K T l d f = 0) : pchk n K T l f = 0 := by
  unfold ptE at h
  split at h
  · assumption
  · exact absurd h (by assumption)

/-- The error of Write. -/
def pwE (n : Nat) (K T : Nat → Int) (l : Int) (d : Bool) (f : Int) : Int :=
  if ptE n K T l d f = 0 then (if d = true ∧ K l.toNat = 3 then 42 else 0) else ptE n K T l d f

set_option maxHeartbeats 1000000 in
theorem pwrite_any (A : Option Addr) (n cap : Nat) (K T : Nat → Int) (l f : Int) (d : Bool) (w : World) (hn : n ≤ maxLen) (hT : Types w A n K T) (b4 : 0 ≤ f) :
    Calls Try.prog 18 #[.slice A n cap, .agg #[.int .i64 l, .bool d, .int .u8 f]] w (Ret w (.int .i64 (pwE n K T l d f))) := by
  have hl := hn
  unfold maxLen at hl
  by_cases hp : ptE n K T l d f = 0
  · obtain ⟨h1, h2, h3, h4, h5, h6⟩ := pchk_zero (ptE_zero hp)
    obtain ⟨m, rfl⟩ := Int.eq_ofNat_of_zero_le h4
    have hT0 := hT
    obtain ⟨b, off, rfl, hlt, hc⟩ := hT (by omega)
    obtain ⟨c0, c1, b0, b1, b2, b3⟩ := hc m (by omega)
    have em : (m : Int).toNat = m := by simp
    have hm : m < n := by omega
    have hv : pwE n K T m d f = if d = true ∧ K m = 3 then 42 else 0 := by rw [pwE, if_pos hp, em]
    have Hp := Lib.hid hp
    clear hp hc h3 hT c1
    cases d
    · rw [hv, if_neg (by simp)]
      clear hv
      go_enter Try.func18, Try.ntmps18
      go_wp2_with fail
      refine (ptype_any _ _ _ K T _ _ _ _ hn (hT0.below' (by repeat (first | exact Below.refl _ _ | (refine Below.setCell ?_ (by first | omega | (simp; done) | (simp; omega)) _) | (refine Below.alloc ?_ (by first | omega | (simp; done) | (simp; omega)) _) | refine Below.drew ?_))) b4).mono ?_
      rintro e w1 ⟨rfl, hb1⟩
      have hB1 : Below w.heap.size w w1 := Below.call (by repeat (first | exact Below.refl _ _ | (refine Below.setCell ?_ (by first | omega | (simp; done) | (simp; omega)) _) | (refine Below.alloc ?_ (by first | omega | (simp; done) | (simp; omega)) _) | refine Below.drew ?_)) hb1
      have hS1 : w.heap.size ≤ w1.heap.size := hB1.size
      obtain ⟨hc1, hf1⟩ := bcell hb1
      have hz1_0 : w.heap.size < w1.heap.size := by have := hb1.size; first | omega | (simp at this; omega)
      rw [Hp.out]
      have i1 : w1.cell? ⟨w.heap.size, 1, none⟩ = some (.bool false) := by go_simp
      clear hc1 hf1
      go_wp2
      go_ret
      exact ⟨rfl, (by repeat (first | exact hB1 | exact Below.refl _ _ | (refine Below.setCell ?_ (by first | omega | (simp; done) | (simp; omega)) _) | (refine Below.alloc ?_ (by first | omega | (simp; done) | (simp; omega)) _) | refine Below.drew ?_))⟩
    · have Hv := Lib.hid hv
      clear hv
      go_enter Try.func18, Try.ntmps18
      go_wp2_with fail
      refine (ptype_any _ _ _ K T _ _ _ _ hn (hT0.below' (by repeat (first | exact Below.refl _ _ | (refine Below.setCell ?_ (by first | omega | (simp; done) | (simp; omega)) _) | (refine Below.alloc ?_ (by first | omega | (simp; done) | (simp; omega)) _) | refine Below.drew ?_))) b4).mono ?_
      rintro e w1 ⟨rfl, hb1⟩
      have hB1 : Below w.heap.size w w1 := Below.call (by repeat (first | exact Below.refl _ _ | (refine Below.setCell ?_ (by first | omega | (simp; done) | (simp; omega)) _) | (refine Below.alloc ?_ (by first | omega | (simp; done) | (simp; omega)) _) | refine Below.drew ?_)) hb1
      have hS1 : w.heap.size ≤ w1.heap.size := hB1.size
      obtain ⟨hc1, hf1⟩ := bcell hb1
      have hz1_0 : w.heap.size < w1.heap.size := by have := hb1.size; first | omega | (simp at this; omega)
      rw [Hp.out]
      have i0 : w1.cell? ⟨w.heap.size, 0, none⟩ = some (.int .i64 m) := by go_simp
      have i1 : w1.cell? ⟨w.heap.size, 1, none⟩ = some (.bool true) := by go_simp
      have j0 : w1.cell? ⟨b, off + m * 2, none⟩ = some (.int .u8 (K m)) := (hB1.cell (p := ⟨b, _, none⟩) hlt).trans c0
      have hlt1 : b < w1.heap.size := by omega
      clear hc1 hf1 c0
      by_cases hk : K m = 3
      · have Hw := Lib.hid (show pwE n K T m true f = 42 from by rw [Hv.out, if_pos (by simp [hk])])
        have q := beqT hk
        clear hk
        go_wp2
        go_ret
        rw [Hw.out]
        exact ⟨rfl, (by repeat (first | exact hB1 | exact Below.refl _ _ | (refine Below.setCell ?_ (by first | omega | (simp; done) | (simp; omega)) _) | (refine Below.alloc ?_ (by first | omega | (simp; done) | (simp; omega)) _) | refine Below.drew ?_))⟩
      · have Hw := Lib.hid (show pwE n K T m true f = 0 from by rw [Hv.out, if_neg (by simp [hk])])
        have q := beqF hk
        clear hk
        go_wp2
        go_ret
        rw [Hw.out]
        exact ⟨rfl, (by repeat (first | exact hB1 | exact Below.refl _ _ | (refine Below.setCell ?_ (by first | omega | (simp; done) | (simp; omega)) _) | (refine Below.alloc ?_ (by first | omega | (simp; done) | (simp; omega)) _) | refine Below.drew ?_))⟩
  · have hv : pwE n K T l d f = ptE n K T l d f := by rw [pwE, if_neg hp]
    rw [hv]
    clear hv
    have q := beqF' hp
    clear hp
    generalize he : ptE n K T l d f = e at *
    have He := Lib.hid he
    clear he
    go_enter Try.func18, Try.ntmps18
    go_wp2_with fail
    refine (ptype_any _ _ _ K T _ _ _ _ hn (hT.below' (by repeat (first | exact Below.refl _ _ | (refine Below.setCell ?_ (by first | omega | (simp; done) | (simp; omega)) _) | (refine Below.alloc ?_ (by first | omega | (simp; done) | (simp; omega)) _) | refine Below.drew ?_))) b4).mono ?_
    rintro e w1 ⟨rfl, hb1⟩
    have hB1 : Below w.heap.size w w1 := Below.call (by repeat (first | exact Below.refl _ _ | (refine Below.setCell ?_ (by first | omega | (simp; done) | (simp; omega)) _) | (refine Below.alloc ?_ (by first | omega | (simp; done) | (simp; omega)) _) | refine Below.drew ?_)) hb1
    have hS1 : w.heap.size ≤ w1.heap.size := hB1.size
    obtain ⟨hc1, hf1⟩ := bcell hb1
    rw [He.out]
    clear hc1 hf1
    go_wp2
    go_ret
    exact ⟨rfl, (by repeat (first | exact hB1 | exact Below.refl _ _ | (refine Below.setCell ?_ (by first | omega | (simp; done) | (simp; omega)) _) | (refine Below.alloc ?_ (by first | omega | (simp; done) | (simp; omega)) _) | refine Below.drew ?_))⟩

/-- Where the cells of a place begin, and how many there are. -/
def pcA (n : Nat) (K T : Nat → Int) (l : Int) (d : Bool) (f : Int) : Int := if ptE n K T l d f = 0 then (if f = 2 then 1 else 0) else 0
def pcS (n : Nat) (K T : Nat → Int) (l : Int) (d : Bool) (f : Int) : Int := if ptE n K T l d f = 0 then sizeV (ptK n K T l d f) (ptT n K T l d f) else 0

theorem ptype_ok {n : Nat} {K T : Nat → Int} {l f : Int} {d : Bool} (h : ptE n K T l d f = 0) : okB (ptK n K T l d f) (ptT n K T l d f) = true := by
  have hp := ptE_zero h
  obtain ⟨h1, h2, h3, h4, h5, h6⟩ := pchk_zero hp
  have hok := h3 l.toNat (by omega)
  have hok' := (okB_iff _ _).1 hok
  unfold ptK ptT
  rw [if_pos h, if_pos h]
  by_cases hf : f = 0
  · rw [if_pos hf, if_pos hf]
    cases d
    · simpa using hok
    · simp only [if_true]
      rw [ptE, if_pos hp] at h
      simp only [if_true] at h
      split at h
      · cases h
      · rw [okB_iff]; omega
  · rw [if_neg hf, if_neg hf]; decide
theorem ptype_bd {n : Nat} {K T : Nat → Int} {l f : Int} {d : Bool} : 0 ≤ ptK n K T l d f ∧ ptK n K T l d f ≤ 5 ∧ 0 ≤ ptT n K T l d f ∧ ptT n K T l d f ≤ 2 := by
  by_cases h : ptE n K T l d f = 0
  · have := bdd (ptype_ok h)
    omega
  · unfold ptK ptT
    rw [if_neg h, if_neg h]
    omega

set_option maxHeartbeats 1000000 in
theorem pcells_any (A : Option Addr) (n cap : Nat) (K T : Nat → Int) (l f : Int) (d : Bool) (w : World) (hn : n ≤ maxLen) (hT : Types w A n K T) (b4 : 0 ≤ f) :
    Calls Try.prog 11 #[.slice A n cap, .agg #[.int .i64 l, .bool d, .int .u8 f]] w (Ret w (.tuple #[.int .i64 (pcA n K T l d f), .int .i64 (pcS n K T l d f), .int .i64 (ptE n K T l d f)])) := by
  have hbd := @ptype_bd n K T l f d
  by_cases hp : ptE n K T l d f = 0
  · have hok := ptype_ok hp
    have H1 : pcA n K T l d f = if f = 2 then 1 else 0 := by rw [pcA, if_pos hp]
    have H2 : pcS n K T l d f = sizeV (ptK n K T l d f) (ptT n K T l d f) := by rw [pcS, if_pos hp]
    have C := fun W (h : Types W A n K T) => ptype_any A n cap K T l f d W hn h b4
    rw [H1, H2, hp]
    rw [hp] at C
    clear H1 H2 hp
    have Hc := Lib.hid (chk_ok hok)
    have HC := Lib.hid C
    clear hok C
    generalize ptK n K T l d f = k at *
    generalize ptT n K T l d f = t at *
    by_cases hf : f = 2
    · rw [if_pos hf]
      have q := beqT hf
      clear hf
      go_enter Try.func11, Try.ntmps11
      go_wp2_with fail
      refine (HC.out _ (hT.below' (by repeat (first | exact Below.refl _ _ | (refine Below.setCell ?_ (by first | omega | (simp; done) | (simp; omega)) _) | (refine Below.alloc ?_ (by first | omega | (simp; done) | (simp; omega)) _) | refine Below.drew ?_)))).mono ?_
      rintro e w1 ⟨rfl, hb1⟩
      have hB1 : Below w.heap.size w w1 := Below.call (by repeat (first | exact Below.refl _ _ | (refine Below.setCell ?_ (by first | omega | (simp; done) | (simp; omega)) _) | (refine Below.alloc ?_ (by first | omega | (simp; done) | (simp; omega)) _) | refine Below.drew ?_)) hb1
      have hS1 : w.heap.size ≤ w1.heap.size := hB1.size
      obtain ⟨hc1, hf1⟩ := bcell hb1
      have hz1_0 : w.heap.size < w1.heap.size := by have := hb1.size; first | omega | (simp at this; omega)
      have i1 : w1.cell? ⟨w.heap.size, 2, none⟩ = some (.int .u8 f) := by go_simp
      clear hc1 hf1
      go_wp2_with fail
      refine (size_any k t _ (by omega) (by omega) (by omega) (by omega)).mono ?_
      rintro e w2 ⟨rfl, hb2⟩
      have hB2 : Below w.heap.size w w2 := Below.call (by repeat (first | exact hB1 | exact Below.refl _ _ | (refine Below.setCell ?_ (by first | omega | (simp; done) | (simp; omega)) _) | (refine Below.alloc ?_ (by first | omega | (simp; done) | (simp; omega)) _) | refine Below.drew ?_)) hb2
      have hS2 : w.heap.size ≤ w2.heap.size := hB2.size
      obtain ⟨hc2, hf2⟩ := bcell hb2
      have hz2_0 : w.heap.size < w2.heap.size := by have := hb2.size; first | omega | (simp at this; omega)
      rw [Hc.out]
      have i2 : w2.cell? ⟨w.heap.size, 2, none⟩ = some (.int .u8 f) := by go_simp
      clear hc2 hf2
      go_wp2
      go_ret3
      exact ⟨rfl, (by repeat (first | exact hB2 | exact Below.refl _ _ | (refine Below.setCell ?_ (by first | omega | (simp; done) | (simp; omega)) _) | (refine Below.alloc ?_ (by first | omega | (simp; done) | (simp; omega)) _) | refine Below.drew ?_))⟩
    · rw [if_neg hf]
      have q := beqF hf
      clear hf
      go_enter Try.func11, Try.ntmps11
      go_wp2_with fail
      refine (HC.out _ (hT.below' (by repeat (first | exact Below.refl _ _ | (refine Below.setCell ?_ (by first | omega | (simp; done) | (simp; omega)) _) | (refine Below.alloc ?_ (by first | omega | (simp; done) | (simp; omega)) _) | refine Below.drew ?_)))).mono ?_
      rintro e w1 ⟨rfl, hb1⟩
      have hB1 : Below w.heap.size w w1 := Below.call (by repeat (first | exact Below.refl _ _ | (refine Below.setCell ?_ (by first | omega | (simp; done) | (simp; omega)) _) | (refine Below.alloc ?_ (by first | omega | (simp; done) | (simp; omega)) _) | refine Below.drew ?_)) hb1
      have hS1 : w.heap.size ≤ w1.heap.size := hB1.size
      obtain ⟨hc1, hf1⟩ := bcell hb1
      have hz1_0 : w.heap.size < w1.heap.size := by have := hb1.size; first | omega | (simp at this; omega)
      have i1 : w1.cell? ⟨w.heap.size, 2, none⟩ = some (.int .u8 f) := by go_simp
      clear hc1 hf1
      go_wp2_with fail
      refine (size_any k t _ (by omega) (by omega) (by omega) (by omega)).mono ?_
      rintro e w2 ⟨rfl, hb2⟩
      have hB2 : Below w.heap.size w w2 := Below.call (by repeat (first | exact hB1 | exact Below.refl _ _ | (refine Below.setCell ?_ (by first | omega | (simp; done) | (simp; omega)) _) | (refine Below.alloc ?_ (by first | omega | (simp; done) | (simp; omega)) _) | refine Below.drew ?_)) hb2
      have hS2 : w.heap.size ≤ w2.heap.size := hB2.size
      obtain ⟨hc2, hf2⟩ := bcell hb2
      have hz2_0 : w.heap.size < w2.heap.size := by have := hb2.size; first | omega | (simp at this; omega)
      rw [Hc.out]
      have i2 : w2.cell? ⟨w.heap.size, 2, none⟩ = some (.int .u8 f) := by go_simp
      clear hc2 hf2
      go_wp2
      go_ret3
      exact ⟨rfl, (by repeat (first | exact hB2 | exact Below.refl _ _ | (refine Below.setCell ?_ (by first | omega | (simp; done) | (simp; omega)) _) | (refine Below.alloc ?_ (by first | omega | (simp; done) | (simp; omega)) _) | refine Below.drew ?_))⟩
  · have H1 : pcA n K T l d f = 0 := by rw [pcA, if_neg hp]
    have H2 : pcS n K T l d f = 0 := by rw [pcS, if_neg hp]
    have C := fun W (h : Types W A n K T) => ptype_any A n cap K T l f d W hn h b4
    rw [H1, H2]
    have q := beqF' hp
    clear H1 H2 hp
    have HC := Lib.hid C
    clear C
    generalize ptK n K T l d f = k at *
    generalize ptT n K T l d f = t at *
    generalize ptE n K T l d f = e at *
    go_enter Try.func11, Try.ntmps11
    go_wp2_with fail
    refine (HC.out _ (hT.below' (by repeat (first | exact Below.refl _ _ | (refine Below.setCell ?_ (by first | omega | (simp; done) | (simp; omega)) _) | (refine Below.alloc ?_ (by first | omega | (simp; done) | (simp; omega)) _) | refine Below.drew ?_)))).mono ?_
    rintro e w1 ⟨rfl, hb1⟩
    have hB1 : Below w.heap.size w w1 := Below.call (by repeat (first | exact Below.refl _ _ | (refine Below.setCell ?_ (by first | omega | (simp; done) | (simp; omega)) _) | (refine Below.alloc ?_ (by first | omega | (simp; done) | (simp; omega)) _) | refine Below.drew ?_)) hb1
    have hS1 : w.heap.size ≤ w1.heap.size := hB1.size
    obtain ⟨hc1, hf1⟩ := bcell hb1
    clear hc1 hf1
    go_wp2
    go_ret3
    exact ⟨rfl, (by repeat (first | exact hB1 | exact Below.refl _ _ | (refine Below.setCell ?_ (by first | omega | (simp; done) | (simp; omega)) _) | (refine Below.alloc ?_ (by first | omega | (simp; done) | (simp; omega)) _) | refine Below.drew ?_))⟩

end Go.Proofs.Ytmjklmdjlojmlaa
