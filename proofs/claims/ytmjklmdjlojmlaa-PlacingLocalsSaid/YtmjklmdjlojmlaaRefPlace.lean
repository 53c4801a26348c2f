/- The reference of layer 13: Check of locals, Typed, Asked. No condition. -/
import Derived.Test.YtmjklmdjlojmlaaPlaceD
namespace Go.Proofs.Ytmjklmdjlojmlaa
open Go.RowKit

/-- The error of locals. -/
def rlV (n : Nat) (K T : Nat → Int) : Int := if n < 1 ∨ 16 < n then 8 else if allOk n K T = false then 8 else 0
theorem rlV_len {n : Nat} {K T : Nat → Int} (h : n < 1 ∨ 16 < n) : rlV n K T = 8 := by rw [rlV, if_pos h]
theorem rlV_bad {n : Nat} {K T : Nat → Int} {i : Nat} (hi : i < n) (h : okB (K i) (T i) = false) : rlV n K T = 8 := by
  rw [rlV, allOk_not hi h, if_pos rfl]; split <;> rfl
theorem rlV_ok {n : Nat} {K T : Nat → Int} (h1 : 1 ≤ n) (h2 : n ≤ 16) (h : ∀ i, i < n → okB (K i) (T i) = true) : rlV n K T = 0 := by
  rw [rlV, if_neg (by omega), allOk_iff.2 h, if_neg (by simp)]
theorem rlV_zero {n : Nat} {K T : Nat → Int} (h : rlV n K T = 0) : 1 ≤ n ∧ n ≤ 16 ∧ ∀ i, i < n → okB (K i) (T i) = true := by
  unfold rlV at h
  split at h
  · cases h
  · split at h
    · cases h
    · rename_i h1 h2
      exact ⟨by omega, by omega, allOk_iff.1 (by simpa using h2)⟩

set_option maxHeartbeats 1000000 in
theorem rlocals_any (A : Option Addr) (n cap : Nat) (K T : Nat → Int) (w : World) (hn : n ≤ maxLen) (hT : Types w A n K T) :
    Calls Try.prog 14 #[.slice A n cap] w (Ret w (.int .i64 (rlV n K T))) := by
  unfold maxLen at hn
  by_cases h0 : n < 1
  · have H := Lib.hid (rlV_len (K := K) (T := T) (.inl h0))
    have q1 : ((n : Int) == 0) = true := by simp; omega
    go_enter Try.func14, Try.ntmps14
    go_wp2
    go_ret
    rw [H.out]
    exact ⟨rfl, (by repeat (first | exact Below.refl _ _ | (refine Below.setCell ?_ (by first | omega | (simp; done) | (simp; omega)) _) | (refine Below.alloc ?_ (by first | omega | (simp; done) | (simp; omega)) _) | refine Below.drew ?_))⟩
  · have q1 : ((n : Int) == 0) = false := by simp; omega
    by_cases h1 : 16 < n
    · have H := Lib.hid (rlV_len (K := K) (T := T) (.inr h1))
      go_enter Try.func14, Try.ntmps14
      go_wp2
      go_ret
      rw [H.out]
      exact ⟨rfl, (by repeat (first | exact Below.refl _ _ | (refine Below.setCell ?_ (by first | omega | (simp; done) | (simp; omega)) _) | (refine Below.alloc ?_ (by first | omega | (simp; done) | (simp; omega)) _) | refine Below.drew ?_))⟩
    · have q2 : decide (16 < (n : Int)) = false := by simp; omega
      obtain ⟨b, off, rfl, hlt, hc⟩ := hT (by omega)
      have HC := Lib.hid hc
      clear hc hT
      go_enter Try.func14, Try.ntmps14
      go_wp2
      go_loopw [3] (fun v wr => ∃ i : Nat, i ≤ n ∧ v = .int .i64 i ∧ (∀ j, j < i → okB (K j) (T j) = true) ∧ Below w.heap.size w wr) (fun v _ => n - (intOf v).toNat)
      case atStart => exact ⟨0, by omega, rfl, fun j hj => by omega, Below.refl _ _⟩
      case round =>
        obtain ⟨i, hi, rfl, hok, hB⟩ := hrel
        have Hok := Lib.hid hok
        clear hok
        have hz := hB.size
        by_cases hlt' : i < n
        · obtain ⟨e0, e1, b0, b1, b2, b3⟩ := HC.out i hlt'
          have c0 : wr.cell? ⟨b, off + i * 2, none⟩ = some (.int .u8 (K i)) := (hB.cell (p := ⟨b, _, none⟩) hlt).trans e0
          have c1 : wr.cell? ⟨b, off + i * 2 + 1, none⟩ = some (.int .u8 (T i)) := (hB.cell (p := ⟨b, _, none⟩) hlt).trans e1
          clear e0 e1
          go_wp2_with fail
          refine (refcheck_any (K i) (T i) _ b0 b1 b2 b3).mono ?_
          rintro e w1 ⟨rfl, hb1⟩
          have hB1 : Below (w.heap.size) (w) w1 := Below.trans (by repeat (first | exact hB | (refine Below.setCell ?_ (by first | omega | (simp; done) | (simp; omega)) _) | (refine Below.alloc ?_ (by first | omega | (simp; done) | (simp; omega)) _) | refine Below.drew ?_)) (hb1.mono (by first | omega | (simp; done) | (simp; omega)))
          have hS1 := hB1.size
          have hT1 := hb1.size
          try simp only [World.size_alloc] at hS1 hT1
          obtain ⟨hc1, hf1⟩ := bcell hb1
          rcases okB_cases (K i) (T i) with h | h
          · rw [chk_ok h]
            have Hs := Lib.hid (show ∀ j, j < i + 1 → okB (K j) (T j) = true from by
              intro j hj
              rcases Nat.lt_or_eq_of_le (Nat.le_of_lt_succ hj) with h' | rfl
              · exact Hok.out j h'
              · exact h)
            clear h
            go_wp2
            go_roundw
            case rel => exact ⟨i + 1, by omega, by go_num, Hs.out, hB1⟩
            case measure => simp [intOf]; omega
          · rw [chk_no h]
            have H := Lib.hid (rlV_bad hlt' h)
            clear h
            go_wp2
            go_ret
            rw [H.out]
            exact ⟨rfl, hB1⟩
        · have : i = n := by omega
          subst this
          have H := Lib.hid (rlV_ok (show 1 ≤ i by omega) (by omega) Hok.out)
          clear hlt'
          have hd : decide ((i : Int) < i) = false := by simp
          go_wp2
          go_ret
          rw [H.out]
          exact ⟨rfl, hB⟩

set_option maxHeartbeats 400000 in
theorem rplaceCheck_any (l f : Int) (d : Bool) (w : World) :
    Calls Try.prog 34 #[.agg #[.int .i64 l, .bool d, .int .u8 f]] w (Ret w (.int .i64 (plC l f))) := by
  by_cases h1 : l < 0
  · have H := Lib.hid (show plC l f = 8 from by rw [plC, if_pos (by simp [badP, h1])])
    have q1 : decide (l < 0) = true := by simpa using h1
    go_enter Try.func34, Try.ntmps34
    go_wp2
    go_ret
    rw [H.out]
    exact ⟨rfl, (by repeat (first | exact Below.refl _ _ | (refine Below.setCell ?_ (by first | omega | (simp; done) | (simp; omega)) _) | (refine Below.alloc ?_ (by first | omega | (simp; done) | (simp; omega)) _) | refine Below.drew ?_))⟩
  · have q1 : decide (l < 0) = false := by simpa using h1
    by_cases h2 : 16 ≤ l
    · have H := Lib.hid (show plC l f = 8 from by rw [plC, if_pos (by simp [badP, h2])])
      have q2 : decide (16 ≤ l) = true := by simpa using h2
      go_enter Try.func34, Try.ntmps34
      go_wp2
      go_ret
      rw [H.out]
      exact ⟨rfl, (by repeat (first | exact Below.refl _ _ | (refine Below.setCell ?_ (by first | omega | (simp; done) | (simp; omega)) _) | (refine Below.alloc ?_ (by first | omega | (simp; done) | (simp; omega)) _) | refine Below.drew ?_))⟩
    · have q2 : decide (16 ≤ l) = false := by simpa using h2
      by_cases h3 : 2 < f
      · have H := Lib.hid (show plC l f = 8 from by rw [plC, if_pos (by simp [badP, h3])])
        have q3 : decide (2 < f) = true := by simpa using h3
        go_enter Try.func34, Try.ntmps34
        go_wp2
        go_ret
        rw [H.out]
        exact ⟨rfl, (by repeat (first | exact Below.refl _ _ | (refine Below.setCell ?_ (by first | omega | (simp; done) | (simp; omega)) _) | (refine Below.alloc ?_ (by first | omega | (simp; done) | (simp; omega)) _) | refine Below.drew ?_))⟩
      · have H := Lib.hid (show plC l f = 0 from by rw [plC, if_neg (by simp [badP]; omega)])
        have q3 : decide (2 < f) = false := by simpa using h3
        go_enter Try.func34, Try.ntmps34
        go_wp2
        go_ret
        rw [H.out]
        exact ⟨rfl, (by repeat (first | exact Below.refl _ _ | (refine Below.setCell ?_ (by first | omega | (simp; done) | (simp; omega)) _) | (refine Below.alloc ?_ (by first | omega | (simp; done) | (simp; omega)) _) | refine Below.drew ?_))⟩

set_option maxHeartbeats 1000000 in
theorem rtyped_local (b off n cap m : Nat) (k t f rk rt : Int) (q2 q3 rb : Bool) (w : World) (hl : n ≤ 9223372036854775807) (hlt : b < w.heap.size)
    (c0 : w.cell? ⟨b, off + m * 2, none⟩ = some (.int .u8 k)) (c1 : w.cell? ⟨b, off + m * 2 + 1, none⟩ = some (.int .u8 t)) (hm : m < n) (hq2 : decide (0 < f) = q2) (hq3 : (k != 2) = q3)
    (hv : q2 = false ∧ rk = k ∧ rt = t ∧ rb = true ∨ q2 = true ∧ q3 = true ∧ rk = 0 ∧ rt = 0 ∧ rb = false ∨ q2 = true ∧ q3 = false ∧ rk = 1 ∧ rt = 0 ∧ rb = true) :
    Calls Try.prog 27 #[.slice (some ⟨b, off, none⟩) n cap, .agg #[.int .i64 m, .bool false, .int .u8 f]] w (Ret w (.tuple #[.agg #[.int .u8 rk, .int .u8 rt], .bool rb])) := by
  rcases hv with ⟨rfl, rfl, rfl, rfl⟩ | ⟨rfl, rfl, rfl, rfl, rfl⟩ | ⟨rfl, rfl, rfl, rfl, rfl⟩
  all_goals
    go_enter Try.func27, Try.ntmps27
    go_wp2
    refine bodyPost_ret (by simp [results, Try.results27, go_sem, *]; try rfl) rfl ⟨rfl, ?_⟩
    exact (by repeat (first | exact Below.refl _ _ | (refine Below.setCell ?_ (by first | omega | (simp; done) | (simp; omega)) _) | (refine Below.alloc ?_ (by first | omega | (simp; done) | (simp; omega)) _) | refine Below.drew ?_))

set_option maxHeartbeats 4000000 in
theorem rtyped_deref (b off n cap m : Nat) (k t f rk rt : Int) (q1 q2 q3 rb : Bool) (w : World) (hl : n ≤ 9223372036854775807) (hlt : b < w.heap.size)
    (c0 : w.cell? ⟨b, off + m * 2, none⟩ = some (.int .u8 k)) (c1 : w.cell? ⟨b, off + m * 2 + 1, none⟩ = some (.int .u8 t)) (hm : m < n) (hq1 : Hid (decide (3 ≤ k) = q1)) (hq2 : decide (0 < f) = q2) (hq3 : (t != 2) = q3)
    (hv : q1 = false ∧ rk = 0 ∧ rt = 0 ∧ rb = false ∨ q1 = true ∧ q2 = false ∧ t = rk ∧ rt = 0 ∧ rb = true ∨ q1 = true ∧ q2 = true ∧ q3 = true ∧ rk = 0 ∧ rt = 0 ∧ rb = false ∨ q1 = true ∧ q2 = true ∧ q3 = false ∧ rk = 1 ∧ rt = 0 ∧ rb = true) :
    Calls Try.prog 27 #[.slice (some ⟨b, off, none⟩) n cap, .agg #[.int .i64 m, .bool true, .int .u8 f]] w (Ret w (.tuple #[.agg #[.int .u8 rk, .int .u8 rt], .bool rb])) := by
  have C := fun W => refpointer_any k t W
  rw [hq1.out] at C
  have D := Lib.hid C
  clear C hq1
  rcases hv with ⟨rfl, rfl, rfl, rfl⟩ | ⟨rfl, rfl, rfl, rfl, rfl⟩ | ⟨rfl, rfl, rfl, rfl, rfl, rfl⟩ | ⟨rfl, rfl, rfl, rfl, rfl, rfl⟩
  rotate_left 3
  · go_enter Try.func27, Try.ntmps27
    go_wp2_with fail
    refine (D.out _).mono ?_
    rintro e w1 ⟨rfl, hb1⟩
    have hB1 : Below w.heap.size w w1 := Below.call (by repeat (first | exact Below.refl _ _ | (refine Below.setCell ?_ (by first | omega | (simp; done) | (simp; omega)) _) | (refine Below.alloc ?_ (by first | omega | (simp; done) | (simp; omega)) _) | refine Below.drew ?_)) hb1
    have hS1 : w.heap.size ≤ w1.heap.size := hB1.size
    obtain ⟨hc1, hf1⟩ := bcell hb1
    have hz1_0 : w.heap.size < w1.heap.size := by have := hb1.size; first | omega | (simp at this; omega)
    have hz1_1 : w.heap.size + 1 < w1.heap.size := by have := hb1.size; first | omega | (simp at this; omega)
    have hz1_2 : w.heap.size + 1 + 1 < w1.heap.size := by have := hb1.size; first | omega | (simp at this; omega)
    have i1 : w1.cell? ⟨w.heap.size, 1, none⟩ = some (.bool true) := by go_simp
    have i2 : w1.cell? ⟨w.heap.size, 2, none⟩ = some (.int .u8 f) := by go_simp
    have i3 : w1.cell? ⟨w.heap.size + 1, 0, none⟩ = some (.int .u8 0) := by go_simp
    have i4 : w1.cell? ⟨w.heap.size + 1, 1, none⟩ = some (.int .u8 0) := by go_simp
    have f3 : w1.frozen? ⟨w.heap.size + 1, 0, none⟩ = false := by go_simp
    have f4 : w1.frozen? ⟨w.heap.size + 1, 1, none⟩ = false := by go_simp
    have i5 : w1.cell? ⟨w.heap.size + 1 + 1, 0, none⟩ = some (.int .u8 k) := by go_simp
    have i6 : w1.cell? ⟨w.heap.size + 1 + 1, 1, none⟩ = some (.int .u8 t) := by go_simp
    have f5 : w1.frozen? ⟨w.heap.size + 1 + 1, 0, none⟩ = false := by go_simp
    have f6 : w1.frozen? ⟨w.heap.size + 1 + 1, 1, none⟩ = false := by go_simp
    clear hc1 hf1 c0 c1
    have s1 : ((w1.setCell ⟨w.heap.size + 1 + 1, 0, none⟩ (.int .u8 t)).setCell ⟨w.heap.size + 1 + 1, 1, none⟩ (.int .u8 0)).cell? ⟨w.heap.size + 1 + 1, 0, none⟩ = some (.int .u8 t) := by go_simp
    have s2 : ((w1.setCell ⟨w.heap.size + 1 + 1, 0, none⟩ (.int .u8 t)).setCell ⟨w.heap.size + 1 + 1, 1, none⟩ (.int .u8 0)).cell? ⟨w.heap.size + 1 + 1, 1, none⟩ = some (.int .u8 0) := by go_simp
    have s3 : (((w1.setCell ⟨w.heap.size + 1 + 1, 0, none⟩ (.int .u8 t)).setCell ⟨w.heap.size + 1 + 1, 1, none⟩ (.int .u8 0)).setCell ⟨w.heap.size + 1 + 1, 0, none⟩ (.int .u8 1)).cell? ⟨w.heap.size + 1 + 1, 0, none⟩ = some (.int .u8 1) := by go_simp
    have s4 : (((w1.setCell ⟨w.heap.size + 1 + 1, 0, none⟩ (.int .u8 t)).setCell ⟨w.heap.size + 1 + 1, 1, none⟩ (.int .u8 0)).setCell ⟨w.heap.size + 1 + 1, 0, none⟩ (.int .u8 1)).cell? ⟨w.heap.size + 1 + 1, 1, none⟩ = some (.int .u8 0) := by go_simp
    have s5 : ((((w1.setCell ⟨w.heap.size + 1 + 1, 0, none⟩ (.int .u8 t)).setCell ⟨w.heap.size + 1 + 1, 1, none⟩ (.int .u8 0)).setCell ⟨w.heap.size + 1 + 1, 0, none⟩ (.int .u8 1)).setCell ⟨w.heap.size + 1 + 1, 1, none⟩ (.int .u8 0)).cell? ⟨w.heap.size + 1 + 1, 0, none⟩ = some (.int .u8 1) := by go_simp
    have s6 : ((((w1.setCell ⟨w.heap.size + 1 + 1, 0, none⟩ (.int .u8 t)).setCell ⟨w.heap.size + 1 + 1, 1, none⟩ (.int .u8 0)).setCell ⟨w.heap.size + 1 + 1, 0, none⟩ (.int .u8 1)).setCell ⟨w.heap.size + 1 + 1, 1, none⟩ (.int .u8 0)).cell? ⟨w.heap.size + 1 + 1, 1, none⟩ = some (.int .u8 0) := by go_simp
    go_wp2
    refine bodyPost_ret (by simp [results, Try.results27, go_sem, *]; try rfl) rfl ⟨rfl, ?_⟩
    exact (by repeat (first | exact hB1 | exact Below.refl _ _ | (refine Below.setCell ?_ (by first | omega | (simp; done) | (simp; omega)) _) | (refine Below.alloc ?_ (by first | omega | (simp; done) | (simp; omega)) _) | refine Below.drew ?_))
  all_goals
    go_enter Try.func27, Try.ntmps27
    go_wp2_with fail
    refine (D.out _).mono ?_
    rintro e w1 ⟨rfl, hb1⟩
    have hB1 : Below w.heap.size w w1 := Below.call (by repeat (first | exact Below.refl _ _ | (refine Below.setCell ?_ (by first | omega | (simp; done) | (simp; omega)) _) | (refine Below.alloc ?_ (by first | omega | (simp; done) | (simp; omega)) _) | refine Below.drew ?_)) hb1
    have hS1 : w.heap.size ≤ w1.heap.size := hB1.size
    obtain ⟨hc1, hf1⟩ := bcell hb1
    have hz1_0 : w.heap.size < w1.heap.size := by have := hb1.size; first | omega | (simp at this; omega)
    have hz1_1 : w.heap.size + 1 < w1.heap.size := by have := hb1.size; first | omega | (simp at this; omega)
    have hz1_2 : w.heap.size + 1 + 1 < w1.heap.size := by have := hb1.size; first | omega | (simp at this; omega)
    have i1 : w1.cell? ⟨w.heap.size, 1, none⟩ = some (.bool true) := by go_simp
    have i2 : w1.cell? ⟨w.heap.size, 2, none⟩ = some (.int .u8 f) := by go_simp
    have i3 : w1.cell? ⟨w.heap.size + 1, 0, none⟩ = some (.int .u8 0) := by go_simp
    have i4 : w1.cell? ⟨w.heap.size + 1, 1, none⟩ = some (.int .u8 0) := by go_simp
    have f3 : w1.frozen? ⟨w.heap.size + 1, 0, none⟩ = false := by go_simp
    have f4 : w1.frozen? ⟨w.heap.size + 1, 1, none⟩ = false := by go_simp
    have i5 : w1.cell? ⟨w.heap.size + 1 + 1, 0, none⟩ = some (.int .u8 k) := by go_simp
    have i6 : w1.cell? ⟨w.heap.size + 1 + 1, 1, none⟩ = some (.int .u8 t) := by go_simp
    have f5 : w1.frozen? ⟨w.heap.size + 1 + 1, 0, none⟩ = false := by go_simp
    have f6 : w1.frozen? ⟨w.heap.size + 1 + 1, 1, none⟩ = false := by go_simp
    clear hc1 hf1 c0 c1
    go_wp2
    refine bodyPost_ret (by simp [results, Try.results27, go_sem, *]; try rfl) rfl ⟨rfl, ?_⟩
    exact (by repeat (first | exact hB1 | exact Below.refl _ _ | (refine Below.setCell ?_ (by first | omega | (simp; done) | (simp; omega)) _) | (refine Below.alloc ?_ (by first | omega | (simp; done) | (simp; omega)) _) | refine Below.drew ?_))

/-- Typed, of a place that the check of locals and place takes. -/
theorem rtyped_any (A : Option Addr) (n cap : Nat) (K T : Nat → Int) (l f : Int) (d : Bool) (w : World) (hn : n ≤ maxLen) (hT : Types w A n K T) (b4 : 0 ≤ f) (hp : pchk n K T l f = 0) :
    Calls Try.prog 27 #[.slice A n cap, .agg #[.int .i64 l, .bool d, .int .u8 f]] w (Ret w (.tuple #[.agg #[.int .u8 (ptK n K T l d f), .int .u8 (ptT n K T l d f)], .bool (ptE n K T l d f == 0)])) := by
  unfold maxLen at hn
  obtain ⟨h1, h2, h3, h4, h5, h6⟩ := pchk_zero hp
  obtain ⟨m, rfl⟩ := Int.eq_ofNat_of_zero_le h4
  obtain ⟨b, off, rfl, hlt, hc⟩ := hT (by omega)
  obtain ⟨c0, c1, b0, b1, b2, b3⟩ := hc m (by omega)
  have em : (m : Int).toNat = m := by simp
  have hE : ptE n K T m d f = if d then (if T m = 0 then 42 else if f = 0 then 0 else if T m = 2 then 0 else 42) else (if f = 0 then 0 else if K m = 2 then 0 else 42) := by rw [ptE, if_pos hp, em]
  have hok := h3 m (by omega)
  rw [okB_iff] at hok
  cases d
  · refine rtyped_local b off n cap m (K m) (T m) f _ _ (decide (0 < f)) (K m != 2) _ w (by omega) hlt c0 c1 (by omega) rfl rfl ?_
    rw [ptK, ptT, hE, em]
    simp only [Bool.false_eq_true, if_false]
    by_cases hf : f = 0
    · left; subst hf; simp
    · right
      have : 0 < f := by omega
      by_cases hk : K m = 2
      · right; simp [hf, hk, this]
      · left; simp [hf, hk, this]
  · refine rtyped_deref b off n cap m (K m) (T m) f _ _ (decide (3 ≤ K m)) (decide (0 < f)) (T m != 2) _ w (by omega) hlt c0 c1 (by omega) rfl rfl rfl ?_
    rw [ptK, ptT, hE, em]
    simp only [if_true]
    by_cases ht : T m = 0
    · left
      have : ¬ 3 ≤ K m := by omega
      simp [ht, this]
    · right
      have h3' : 3 ≤ K m := by omega
      by_cases hf : f = 0
      · left; subst hf; simp [ht, h3']
      · right
        have : 0 < f := by omega
        by_cases hk : T m = 2
        · right; simp [hf, hk, this, h3']
        · left; simp [hf, hk, this, ht, h3']

/-- The check of locals and place, as the reference has it. -/
theorem pchk_rl {n : Nat} {K T : Nat → Int} {l f : Int} : pchk n K T l f = if rlV n K T = 0 then (if plC l f = 0 then (if n ≤ l then 6 else 0) else 8) else 8 := by
  by_cases h : n < 1 ∨ 16 < n
  · rw [pchk_len h, rlV_len h]; rfl
  · rw [pchk, rlV, if_neg h, if_neg h]
    by_cases h2 : allOk n K T = false
    · rw [if_pos h2, if_pos h2]; rfl
    · rw [if_neg h2, if_neg h2, if_pos rfl, plC]
      by_cases h3 : badP l f = true
      · rw [if_pos h3, if_pos h3]; rfl
      · rw [if_neg h3, if_neg h3, if_pos rfl]
theorem ptE_chk {n : Nat} {K T : Nat → Int} {l f : Int} {d : Bool} (h : pchk n K T l f ≠ 0) : ptE n K T l d f = pchk n K T l f := by rw [ptE, if_neg h]
theorem ptE_42 {n : Nat} {K T : Nat → Int} {l f : Int} {d : Bool} (h : pchk n K T l f = 0) (h' : ptE n K T l d f ≠ 0) : ptE n K T l d f = 42 := by
  rw [ptE, if_pos h] at h' ⊢
  repeat (first | split at h' | (exfalso; exact h' rfl))
  all_goals simp_all

set_option maxHeartbeats 1000000 in
theorem rasked_any (A : Option Addr) (n cap : Nat) (K T : Nat → Int) (l f : Int) (d : Bool) (w : World) (hn : n ≤ maxLen) (hT : Types w A n K T) (b4 : 0 ≤ f) :
    Calls Try.prog 26 #[.slice A n cap, .agg #[.int .i64 l, .bool d, .int .u8 f]] w (Ret w (.int .i64 (ptE n K T l d f))) := by
  have hn' := hn
  unfold maxLen at hn'
  have C1 := fun W (h : Types W A n K T) => rlocals_any A n cap K T W hn h
  have C2 := fun W => rplaceCheck_any l f d W
  by_cases h1 : rlV n K T = 0
  · rw [h1] at C1
    by_cases h2 : plC l f = 0
    · rw [h2] at C2
      by_cases h3 : (n : Int) ≤ l
      · have hv : ptE n K T l d f = 6 := by
          have e : pchk n K T l f = 6 := by rw [pchk_rl, if_pos h1, if_pos h2, if_pos h3]
          rw [ptE_chk (by rw [e]; decide), e]
        rw [hv]
        have q := decide_eq_true h3
        clear hv h1 h2 h3
        have D1 := Lib.hid C1
        have D2 := Lib.hid C2
        clear C1 C2
        go_enter Try.func26, Try.ntmps26
        go_wp2_with fail
        refine (D1.out _ (hT.below' (by repeat (first | exact Below.refl _ _ | (refine Below.setCell ?_ (by first | omega | (simp; done) | (simp; omega)) _) | (refine Below.alloc ?_ (by first | omega | (simp; done) | (simp; omega)) _) | refine Below.drew ?_)))).mono ?_
        rintro e w1 ⟨rfl, hb1⟩
        have hB1 : Below w.heap.size w w1 := Below.call (by repeat (first | exact Below.refl _ _ | (refine Below.setCell ?_ (by first | omega | (simp; done) | (simp; omega)) _) | (refine Below.alloc ?_ (by first | omega | (simp; done) | (simp; omega)) _) | refine Below.drew ?_)) hb1
        have hS1 : w.heap.size ≤ w1.heap.size := hB1.size
        obtain ⟨hc1, hf1⟩ := bcell hb1
        have hz1_0 : w.heap.size < w1.heap.size := by have := hb1.size; first | omega | (simp at this; omega)
        have i0 : w1.cell? ⟨w.heap.size, 0, none⟩ = some (.int .i64 l) := by go_simp
        have i1 : w1.cell? ⟨w.heap.size, 1, none⟩ = some (.bool d) := by go_simp
        have i2 : w1.cell? ⟨w.heap.size, 2, none⟩ = some (.int .u8 f) := by go_simp
        clear hc1 hf1
        go_wp2_with fail
        refine (D2.out _).mono ?_
        rintro e w2 ⟨rfl, hb2⟩
        have hB2 : Below w.heap.size w w2 := Below.call (by repeat (first | exact hB1 | exact Below.refl _ _ | (refine Below.setCell ?_ (by first | omega | (simp; done) | (simp; omega)) _) | (refine Below.alloc ?_ (by first | omega | (simp; done) | (simp; omega)) _) | refine Below.drew ?_)) hb2
        have hS2 : w.heap.size ≤ w2.heap.size := hB2.size
        obtain ⟨hc2, hf2⟩ := bcell hb2
        have hz2_0 : w.heap.size < w2.heap.size := by have := hb2.size; first | omega | (simp at this; omega)
        have j0 : w2.cell? ⟨w.heap.size, 0, none⟩ = some (.int .i64 l) := by go_simp
        clear hc2 hf2
        go_wp2
        go_ret
        exact ⟨rfl, (by repeat (first | exact hB2 | exact Below.refl _ _ | (refine Below.setCell ?_ (by first | omega | (simp; done) | (simp; omega)) _) | (refine Below.alloc ?_ (by first | omega | (simp; done) | (simp; omega)) _) | refine Below.drew ?_))⟩
      · have hp : pchk n K T l f = 0 := by rw [pchk_rl, if_pos h1, if_pos h2, if_neg h3]
        have C3 := fun W (h : Types W A n K T) => rtyped_any A n cap K T l f d W hn h b4 hp
        have q := decide_eq_false h3
        by_cases he : ptE n K T l d f = 0
        · rw [he] at C3 ⊢
          rw [show ((0 : Int) == 0) = true from rfl] at C3
          clear he hp h1 h2 h3
          have D1 := Lib.hid C1
          have D2 := Lib.hid C2
          have D3 := Lib.hid C3
          clear C1 C2 C3
          go_enter Try.func26, Try.ntmps26
          go_wp2_with fail
          refine (D1.out _ (hT.below' (by repeat (first | exact Below.refl _ _ | (refine Below.setCell ?_ (by first | omega | (simp; done) | (simp; omega)) _) | (refine Below.alloc ?_ (by first | omega | (simp; done) | (simp; omega)) _) | refine Below.drew ?_)))).mono ?_
          rintro e w1 ⟨rfl, hb1⟩
          have hB1 : Below w.heap.size w w1 := Below.call (by repeat (first | exact Below.refl _ _ | (refine Below.setCell ?_ (by first | omega | (simp; done) | (simp; omega)) _) | (refine Below.alloc ?_ (by first | omega | (simp; done) | (simp; omega)) _) | refine Below.drew ?_)) hb1
          have hS1 : w.heap.size ≤ w1.heap.size := hB1.size
          obtain ⟨hc1, hf1⟩ := bcell hb1
          have hz1_0 : w.heap.size < w1.heap.size := by have := hb1.size; first | omega | (simp at this; omega)
          have i0 : w1.cell? ⟨w.heap.size, 0, none⟩ = some (.int .i64 l) := by go_simp
          have i1 : w1.cell? ⟨w.heap.size, 1, none⟩ = some (.bool d) := by go_simp
          have i2 : w1.cell? ⟨w.heap.size, 2, none⟩ = some (.int .u8 f) := by go_simp
          clear hc1 hf1
          go_wp2_with fail
          refine (D2.out _).mono ?_
          rintro e w2 ⟨rfl, hb2⟩
          have hB2 : Below w.heap.size w w2 := Below.call (by repeat (first | exact hB1 | exact Below.refl _ _ | (refine Below.setCell ?_ (by first | omega | (simp; done) | (simp; omega)) _) | (refine Below.alloc ?_ (by first | omega | (simp; done) | (simp; omega)) _) | refine Below.drew ?_)) hb2
          have hS2 : w.heap.size ≤ w2.heap.size := hB2.size
          obtain ⟨hc2, hf2⟩ := bcell hb2
          have hz2_0 : w.heap.size < w2.heap.size := by have := hb2.size; first | omega | (simp at this; omega)
          have j0 : w2.cell? ⟨w.heap.size, 0, none⟩ = some (.int .i64 l) := by go_simp
          have j1 : w2.cell? ⟨w.heap.size, 1, none⟩ = some (.bool d) := by go_simp
          have j2 : w2.cell? ⟨w.heap.size, 2, none⟩ = some (.int .u8 f) := by go_simp
          clear hc2 hf2 i0 i1 i2
          go_wp2_with fail
          refine (D3.out _ (hT.below' (by repeat (first | exact hB2 | exact Below.refl _ _ | (refine Below.setCell ?_ (by first | omega | (simp; done) | (simp; omega)) _) | (refine Below.alloc ?_ (by first | omega | (simp; done) | (simp; omega)) _) | refine Below.drew ?_)))).mono ?_
          rintro e w3 ⟨rfl, hb3⟩
          have hB3 : Below w.heap.size w w3 := Below.call (by repeat (first | exact hB2 | exact Below.refl _ _ | (refine Below.setCell ?_ (by first | omega | (simp; done) | (simp; omega)) _) | (refine Below.alloc ?_ (by first | omega | (simp; done) | (simp; omega)) _) | refine Below.drew ?_)) hb3
          have hS3 : w.heap.size ≤ w3.heap.size := hB3.size
          obtain ⟨hc3, hf3⟩ := bcell hb3
          clear hc3 hf3
          go_wp2
          go_ret
          exact ⟨rfl, (by repeat (first | exact hB3 | exact Below.refl _ _ | (refine Below.setCell ?_ (by first | omega | (simp; done) | (simp; omega)) _) | (refine Below.alloc ?_ (by first | omega | (simp; done) | (simp; omega)) _) | refine Below.drew ?_))⟩
        · rw [beqF he] at C3
          rw [ptE_42 hp he]
          clear he hp h1 h2 h3
          have D1 := Lib.hid C1
          have D2 := Lib.hid C2
          have D3 := Lib.hid C3
          clear C1 C2 C3
          go_enter Try.func26, Try.ntmps26
          go_wp2_with fail
          refine (D1.out _ (hT.below' (by repeat (first | exact Below.refl _ _ | (refine Below.setCell ?_ (by first | omega | (simp; done) | (simp; omega)) _) | (refine Below.alloc ?_ (by first | omega | (simp; done) | (simp; omega)) _) | refine Below.drew ?_)))).mono ?_
          rintro e w1 ⟨rfl, hb1⟩
          have hB1 : Below w.heap.size w w1 := Below.call (by repeat (first | exact Below.refl _ _ | (refine Below.setCell ?_ (by first | omega | (simp; done) | (simp; omega)) _) | (refine Below.alloc ?_ (by first | omega | (simp; done) | (simp; omega)) _) | refine Below.drew ?_)) hb1
          have hS1 : w.heap.size ≤ w1.heap.size := hB1.size
          obtain ⟨hc1, hf1⟩ := bcell hb1
          have hz1_0 : w.heap.size < w1.heap.size := by have := hb1.size; first | omega | (simp at this; omega)
          have i0 : w1.cell? ⟨w.heap.size, 0, none⟩ = some (.int .i64 l) := by go_simp
          have i1 : w1.cell? ⟨w.heap.size, 1, none⟩ = some (.bool d) := by go_simp
          have i2 : w1.cell? ⟨w.heap.size, 2, none⟩ = some (.int .u8 f) := by go_simp
          clear hc1 hf1
          go_wp2_with fail
          refine (D2.out _).mono ?_
          rintro e w2 ⟨rfl, hb2⟩
          have hB2 : Below w.heap.size w w2 := Below.call (by repeat (first | exact hB1 | exact Below.refl _ _ | (refine Below.setCell ?_ (by first | omega | (simp; done) | (simp; omega)) _) | (refine Below.alloc ?_ (by first | omega | (simp; done) | (simp; omega)) _) | refine Below.drew ?_)) hb2
          have hS2 : w.heap.size ≤ w2.heap.size := hB2.size
          obtain ⟨hc2, hf2⟩ := bcell hb2
          have hz2_0 : w.heap.size < w2.heap.size := by have := hb2.size; first | omega | (simp at this; omega)
          have j0 : w2.cell? ⟨w.heap.size, 0, none⟩ = some (.int .i64 l) := by go_simp
          have j1 : w2.cell? ⟨w.heap.size, 1, none⟩ = some (.bool d) := by go_simp
          have j2 : w2.cell? ⟨w.heap.size, 2, none⟩ = some (.int .u8 f) := by go_simp
          clear hc2 hf2 i0 i1 i2
          go_wp2_with fail
          refine (D3.out _ (hT.below' (by repeat (first | exact hB2 | exact Below.refl _ _ | (refine Below.setCell ?_ (by first | omega | (simp; done) | (simp; omega)) _) | (refine Below.alloc ?_ (by first | omega | (simp; done) | (simp; omega)) _) | refine Below.drew ?_)))).mono ?_
          rintro e w3 ⟨rfl, hb3⟩
          have hB3 : Below w.heap.size w w3 := Below.call (by repeat (first | exact hB2 | exact Below.refl _ _ | (refine Below.setCell ?_ (by first | omega | (simp; done) | (simp; omega)) _) | (refine Below.alloc ?_ (by first | omega | (simp; done) | (simp; omega)) _) | refine Below.drew ?_)) hb3
          have hS3 : w.heap.size ≤ w3.heap.size := hB3.size
          obtain ⟨hc3, hf3⟩ := bcell hb3
          clear hc3 hf3
          go_wp2
          go_ret
          exact ⟨rfl, (by repeat (first | exact hB3 | exact Below.refl _ _ | (refine Below.setCell ?_ (by first | omega | (simp; done) | (simp; omega)) _) | (refine Below.alloc ?_ (by first | omega | (simp; done) | (simp; omega)) _) | refine Below.drew ?_))⟩
    · have h2' : plC l f = 8 := by unfold plC at h2 ⊢; split <;> simp_all
      have hv : ptE n K T l d f = 8 := by
        have e : pchk n K T l f = 8 := by rw [pchk_rl, if_pos h1, if_neg h2]
        rw [ptE_chk (by rw [e]; decide), e]
      rw [hv]
      rw [h2'] at C2
      clear hv h1 h2 h2'
      have D1 := Lib.hid C1
      have D2 := Lib.hid C2
      clear C1 C2
      go_enter Try.func26, Try.ntmps26
      go_wp2_with fail
      refine (D1.out _ (hT.below' (by repeat (first | exact Below.refl _ _ | (refine Below.setCell ?_ (by first | omega | (simp; done) | (simp; omega)) _) | (refine Below.alloc ?_ (by first | omega | (simp; done) | (simp; omega)) _) | refine Below.drew ?_)))).mono ?_
      rintro e w1 ⟨rfl, hb1⟩
      have hB1 : Below w.heap.size w w1 := Below.call (by repeat (first | exact Below.refl _ _ | (refine Below.setCell ?_ (by first | omega | (simp; done) | (simp; omega)) _) | (refine Below.alloc ?_ (by first | omega | (simp; done) | (simp; omega)) _) | refine Below.drew ?_)) hb1
      have hS1 : w.heap.size ≤ w1.heap.size := hB1.size
      obtain ⟨hc1, hf1⟩ := bcell hb1
      have hz1_0 : w.heap.size < w1.heap.size := by have := hb1.size; first | omega | (simp at this; omega)
      have i0 : w1.cell? ⟨w.heap.size, 0, none⟩ = some (.int .i64 l) := by go_simp
      have i1 : w1.cell? ⟨w.heap.size, 1, none⟩ = some (.bool d) := by go_simp
      have i2 : w1.cell? ⟨w.heap.size, 2, none⟩ = some (.int .u8 f) := by go_simp
      clear hc1 hf1
      go_wp2_with fail
      refine (D2.out _).mono ?_
      rintro e w2 ⟨rfl, hb2⟩
      have hB2 : Below w.heap.size w w2 := Below.call (by repeat (first | exact hB1 | exact Below.refl _ _ | (refine Below.setCell ?_ (by first | omega | (simp; done) | (simp; omega)) _) | (refine Below.alloc ?_ (by first | omega | (simp; done) | (simp; omega)) _) | refine Below.drew ?_)) hb2
      have hS2 : w.heap.size ≤ w2.heap.size := hB2.size
      obtain ⟨hc2, hf2⟩ := bcell hb2
      clear hc2 hf2
      go_wp2
      go_ret
      exact ⟨rfl, (by repeat (first | exact hB2 | exact Below.refl _ _ | (refine Below.setCell ?_ (by first | omega | (simp; done) | (simp; omega)) _) | (refine Below.alloc ?_ (by first | omega | (simp; done) | (simp; omega)) _) | refine Below.drew ?_))⟩
  · have h1' : rlV n K T = 8 := by
      unfold rlV at h1 ⊢
      by_cases q : n < 1 ∨ 16 < n
      · rw [if_pos q]
      · rw [if_neg q] at h1 ⊢
        by_cases q2 : allOk n K T = false
        · rw [if_pos q2]
        · rw [if_neg q2] at h1; exact absurd rfl h1
    have hv : ptE n K T l d f = 8 := by
      have e : pchk n K T l f = 8 := by rw [pchk_rl, if_neg h1]
      rw [ptE_chk (by rw [e]; decide), e]
    rw [hv]
    rw [h1'] at C1
    clear hv h1 h1'
    have D1 := Lib.hid C1
    clear C1 C2
    go_enter Try.func26, Try.ntmps26
    go_wp2_with fail
    refine (D1.out _ (hT.below' (by repeat (first | exact Below.refl _ _ | (refine Below.setCell ?_ (by first | omega | (simp; done) | (simp; omega)) _) | (refine Below.alloc ?_ (by first | omega | (simp; done) | (simp; omega)) _) | refine Below.drew ?_)))).mono ?_
    rintro e w1 ⟨rfl, hb1⟩
    have hB1 : Below w.heap.size w w1 := Below.call (by repeat (first | exact Below.refl _ _ | (refine Below.setCell ?_ (by first | omega | (simp; done) | (simp; omega)) _) | (refine Below.alloc ?_ (by first | omega | (simp; done) | (simp; omega)) _) | refine Below.drew ?_)) hb1
    have hS1 : w.heap.size ≤ w1.heap.size := hB1.size
    obtain ⟨hc1, hf1⟩ := bcell hb1
    clear hc1 hf1
    go_wp2
    go_ret
    exact ⟨rfl, (by repeat (first | exact hB1 | exact Below.refl _ _ | (refine Below.setCell ?_ (by first | omega | (simp; done) | (simp; omega)) _) | (refine Below.alloc ?_ (by first | omega | (simp; done) | (simp; omega)) _) | refine Below.drew ?_))⟩

end Go.Proofs.Ytmjklmdjlojmlaa
