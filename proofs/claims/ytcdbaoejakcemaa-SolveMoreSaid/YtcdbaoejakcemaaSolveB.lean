/- Layer 20: sets, as they lie in memory; layer 18: the functions on two sets. No condition. -/
import Derived.Test.YtcdbaoejakcemaaSolveA
import Derived.Test.YtcdbaoejakcemaaWords
namespace Go.Proofs.Ytcdbaoejakcemaa
open Go.RowKit

/-- A set: n truth values, as they lie in memory. -/
def Bits (w : World) (A : Option Addr) (n : Nat) (X : Nat → Bool) : Prop :=
  0 < n → ∃ b off, A = some ⟨b, off, none⟩ ∧ b < w.heap.size ∧ ∀ j, j < n → w.cell? ⟨b, off + j, none⟩ = some (.bool (X j))
theorem Bits.below {w w' : World} {A : Option Addr} {n : Nat} {X : Nat → Bool} {B : Nat} (h : Bits w A n X) (hb : Below B w w') (hB : w.heap.size ≤ B) : Bits w' A n X := by
  intro hn
  obtain ⟨b, off, rfl, hlt, hc⟩ := h hn
  exact ⟨b, off, rfl, Nat.lt_of_lt_of_le hlt hb.size, fun i hi => (hb.cell (p := ⟨b, _, none⟩) (by simp; omega)).trans (hc i hi)⟩
theorem Bits.below' {w w' : World} {A : Option Addr} {n : Nat} {X : Nat → Bool} (h : Bits w A n X) (hb : Below w.heap.size w w') : Bits w' A n X := h.below hb (Nat.le_refl _)
theorem Bits.alloc {w : World} {A : Option Addr} {n : Nat} {X : Nat → Bool} (h : Bits w A n X) (o : Obj) : Bits (w.alloc o) A n X := h.below' ((Below.refl _ _).alloc (Nat.le_refl _) o)
theorem Bits.drew {w : World} {A : Option Addr} {n : Nat} {X : Nat → Bool} (h : Bits w A n X) : Bits w.drew A n X := h.below' (Below.refl _ _).drew
theorem Bits.later {w : World} {A : Option Addr} {n : Nat} {X : Nat → Bool} (h : Bits w A n X) (x : Later w) : Bits x.wd A n X := h.below' x.below
theorem Bits.congr {w : World} {A : Option Addr} {n : Nat} {X Y : Nat → Bool} (h : Bits w A n X) (he : ∀ j, j < n → X j = Y j) : Bits w A n Y := by
  intro hn
  obtain ⟨b, off, rfl, hlt, hc⟩ := h hn
  exact ⟨b, off, rfl, hlt, fun i hi => by rw [hc i hi, he i hi]⟩
theorem Bits.of_none {w : World} {X : Nat → Bool} : Bits w none 0 X := fun h => absurd h (by omega)

/-- n sets, of L truth values each, as they lie in memory. -/
def Sets (w : World) (A : Option Addr) (n : Nat) (L : Nat → Nat) (S : Nat → Nat → Bool) : Prop :=
  0 < n → ∃ b off, A = some ⟨b, off, none⟩ ∧ b < w.heap.size ∧ ∀ i, i < n → ∃ R C, w.cell? ⟨b, off + i, none⟩ = some (.slice R (L i) C) ∧ L i ≤ maxLen ∧ Bits w R (L i) (S i)
theorem Sets.below {w w' : World} {A : Option Addr} {n : Nat} {L : Nat → Nat} {S : Nat → Nat → Bool} {B : Nat} (h : Sets w A n L S) (hb : Below B w w') (hB : w.heap.size ≤ B) : Sets w' A n L S := by
  intro hn
  obtain ⟨b, off, rfl, hlt, hc⟩ := h hn
  refine ⟨b, off, rfl, Nat.lt_of_lt_of_le hlt hb.size, fun i hi => ?_⟩
  obtain ⟨R, C, h1, h2, h3⟩ := hc i hi
  exact ⟨R, C, (hb.cell (p := ⟨b, _, none⟩) (by simp; omega)).trans h1, h2, h3.below hb hB⟩
theorem Sets.below' {w w' : World} {A : Option Addr} {n : Nat} {L : Nat → Nat} {S : Nat → Nat → Bool} (h : Sets w A n L S) (hb : Below w.heap.size w w') : Sets w' A n L S := h.below hb (Nat.le_refl _)
theorem Sets.alloc {w : World} {A : Option Addr} {n : Nat} {L : Nat → Nat} {S : Nat → Nat → Bool} (h : Sets w A n L S) (o : Obj) : Sets (w.alloc o) A n L S := h.below' ((Below.refl _ _).alloc (Nat.le_refl _) o)
theorem Sets.drew {w : World} {A : Option Addr} {n : Nat} {L : Nat → Nat} {S : Nat → Nat → Bool} (h : Sets w A n L S) : Sets w.drew A n L S := h.below' (Below.refl _ _).drew
theorem Sets.later {w : World} {A : Option Addr} {n : Nat} {L : Nat → Nat} {S : Nat → Nat → Bool} (h : Sets w A n L S) (x : Later w) : Sets x.wd A n L S := h.below' x.below
theorem Sets.of_none {w : World} {L : Nat → Nat} {S : Nat → Nat → Bool} : Sets w none 0 L S := fun h => absurd h (by omega)

/-- The error of two sets. -/
def wiE (n m : Nat) : Int := if 600 < n ∨ 600 < m then 4 else if n = m then 0 else 2
theorem wiE_much {n m : Nat} (h : 600 < n ∨ 600 < m) : wiE n m = 4 := by rw [wiE, if_pos h]
theorem wiE_bad {n m : Nat} (h : ¬ (600 < n ∨ 600 < m)) (h' : n ≠ m) : wiE n m = 2 := by rw [wiE, if_neg h, if_neg h']
theorem wiE_ok {n : Nat} (h : n ≤ 600) : wiE n n = 0 := by rw [wiE, if_neg (by omega), if_pos rfl]
theorem wiE_zero {n m : Nat} (h : wiE n m = 0) : n = m ∧ n ≤ 600 := by
  unfold wiE at h
  split at h
  · cases h
  · split at h
    · exact ⟨by assumption, by omega⟩
    · cases h

set_option maxHeartbeats 400000 in
theorem ptscheck_any (A A' : Option Addr) (n m c c' : Nat) (w : World) (hn : n ≤ maxLen) (hm : m ≤ maxLen) :
    Calls Try.prog 28 #[.slice A n c, .slice A' m c'] w (Ret w (.int .i64 (wiE n m))) := by
  unfold maxLen at hn hm
  by_cases h1 : 600 < n
  · have H := Lib.hid (wiE_much (m := m) (.inl h1))
    have q1 : decide (600 < (n : Int)) = true := by simp; omega
    go_enter Try.func28, Try.ntmps28
    go_wp2
    go_ret
    rw [H.out]
    exact ⟨rfl, (by repeat (first | exact Below.refl _ _ | (refine Below.setCell ?_ (by first | omega | (simp; done) | (simp; omega)) _) | (refine Below.alloc ?_ (by first | omega | (simp; done) | (simp; omega)) _) | refine Below.drew ?_))⟩
  · have q1 : decide (600 < (n : Int)) = false := by simp; omega
    by_cases h2 : 600 < m
    · have H := Lib.hid (wiE_much (n := n) (.inr h2))
      have q2 : decide (600 < (m : Int)) = true := by simp; omega
      go_enter Try.func28, Try.ntmps28
      go_wp2
      go_ret
      rw [H.out]
      exact ⟨rfl, (by repeat (first | exact Below.refl _ _ | (refine Below.setCell ?_ (by first | omega | (simp; done) | (simp; omega)) _) | (refine Below.alloc ?_ (by first | omega | (simp; done) | (simp; omega)) _) | refine Below.drew ?_))⟩
    · have q2 : decide (600 < (m : Int)) = false := by simp; omega
      by_cases h3 : n = m
      · subst h3
        have H := Lib.hid (wiE_ok (n := n) (by omega))
        have q3 : ((n : Int) != n) = false := by simp
        clear h1 h2
        go_enter Try.func28, Try.ntmps28
        go_wp2
        go_ret
        rw [H.out]
        exact ⟨rfl, (by repeat (first | exact Below.refl _ _ | (refine Below.setCell ?_ (by first | omega | (simp; done) | (simp; omega)) _) | (refine Below.alloc ?_ (by first | omega | (simp; done) | (simp; omega)) _) | refine Below.drew ?_))⟩
      · have H := Lib.hid (wiE_bad (n := n) (m := m) (by omega) h3)
        have q3 : ((n : Int) != m) = true := by simp; omega
        clear h1 h2 h3
        go_enter Try.func28, Try.ntmps28
        go_wp2
        go_ret
        rw [H.out]
        exact ⟨rfl, (by repeat (first | exact Below.refl _ _ | (refine Below.setCell ?_ (by first | omega | (simp; done) | (simp; omega)) _) | (refine Below.alloc ?_ (by first | omega | (simp; done) | (simp; omega)) _) | refine Below.drew ?_))⟩

set_option maxHeartbeats 400000 in
theorem rptscheck_any (A A' : Option Addr) (n m c c' : Nat) (w : World) (hn : n ≤ maxLen) (hm : m ≤ maxLen) :
    Calls Try.prog 29 #[.slice A n c, .slice A' m c'] w (Ret w (.int .i64 (wiE n m))) := by
  unfold maxLen at hn hm
  by_cases h3 : n = m
  · subst h3
    have q0 : ¬ (n : Int) < n := by omega
    have q3 : ((n : Int) != n) = false := by simp
    by_cases h1 : 600 < n
    · have H := Lib.hid (wiE_much (m := n) (.inl h1))
      have q1 : decide (600 < (n : Int)) = true := by simp; omega
      go_enter Try.func29, Try.ntmps29
      go_wp2
      go_ret
      rw [H.out]
      exact ⟨rfl, (by repeat (first | exact Below.refl _ _ | (refine Below.setCell ?_ (by first | omega | (simp; done) | (simp; omega)) _) | (refine Below.alloc ?_ (by first | omega | (simp; done) | (simp; omega)) _) | refine Below.drew ?_))⟩
    · have H := Lib.hid (wiE_ok (n := n) (by omega))
      have q1 : decide (600 < (n : Int)) = false := by simp; omega
      clear h1
      go_enter Try.func29, Try.ntmps29
      go_wp2
      go_ret
      rw [H.out]
      exact ⟨rfl, (by repeat (first | exact Below.refl _ _ | (refine Below.setCell ?_ (by first | omega | (simp; done) | (simp; omega)) _) | (refine Below.alloc ?_ (by first | omega | (simp; done) | (simp; omega)) _) | refine Below.drew ?_))⟩
  · have q3 : ((n : Int) != m) = true := by simp; omega
    rcases Nat.lt_or_gt_of_ne h3 with h4 | h4
    · have q0 : (n : Int) < m := by omega
      by_cases h1 : 600 < m
      · have H := Lib.hid (wiE_much (n := n) (.inr h1))
        have q1 : decide (600 < (m : Int)) = true := by simp; omega
        clear h3 h1
        go_enter Try.func29, Try.ntmps29
        go_wp2
        go_ret
        rw [H.out]
        exact ⟨rfl, (by repeat (first | exact Below.refl _ _ | (refine Below.setCell ?_ (by first | omega | (simp; done) | (simp; omega)) _) | (refine Below.alloc ?_ (by first | omega | (simp; done) | (simp; omega)) _) | refine Below.drew ?_))⟩
      · have H := Lib.hid (wiE_bad (n := n) (m := m) (by omega) h3)
        have q1 : decide (600 < (m : Int)) = false := by simp; omega
        clear h3 h1
        go_enter Try.func29, Try.ntmps29
        go_wp2
        go_ret
        rw [H.out]
        exact ⟨rfl, (by repeat (first | exact Below.refl _ _ | (refine Below.setCell ?_ (by first | omega | (simp; done) | (simp; omega)) _) | (refine Below.alloc ?_ (by first | omega | (simp; done) | (simp; omega)) _) | refine Below.drew ?_))⟩
    · have q0 : ¬ (n : Int) < m := by omega
      by_cases h1 : 600 < n
      · have H := Lib.hid (wiE_much (m := m) (.inl h1))
        have q1 : decide (600 < (n : Int)) = true := by simp; omega
        clear h3 h1
        go_enter Try.func29, Try.ntmps29
        go_wp2
        go_ret
        rw [H.out]
        exact ⟨rfl, (by repeat (first | exact Below.refl _ _ | (refine Below.setCell ?_ (by first | omega | (simp; done) | (simp; omega)) _) | (refine Below.alloc ?_ (by first | omega | (simp; done) | (simp; omega)) _) | refine Below.drew ?_))⟩
      · have H := Lib.hid (wiE_bad (n := n) (m := m) (by omega) h3)
        have q1 : decide (600 < (n : Int)) = false := by simp; omega
        clear h3 h1
        go_enter Try.func29, Try.ntmps29
        go_wp2
        go_ret
        rw [H.out]
        exact ⟨rfl, (by repeat (first | exact Below.refl _ _ | (refine Below.setCell ?_ (by first | omega | (simp; done) | (simp; omega)) _) | (refine Below.alloc ?_ (by first | omega | (simp; done) | (simp; omega)) _) | refine Below.drew ?_))⟩

theorem sameB_not {n m : Nat} {X Y : Nat → Bool} (h : n ≠ m) : sameB n m X Y = false := by simp [sameB, h]
theorem sameB_bit {n m : Nat} {X Y : Nat → Bool} {j : Nat} (hj : j < n) (h : X j ≠ Y j) : sameB n m X Y = false := by
  cases hs : sameB n m X Y with
  | false => rfl
  | true =>
    simp only [sameB, Bool.and_eq_true, decide_eq_true_eq] at hs
    exact absurd (hs.2 j hj) h

set_option maxHeartbeats 1000000 in
theorem same18_any (A A' : Option Addr) (n m c c' : Nat) (X Y : Nat → Bool) (w : World) (hn : n ≤ maxLen) (hm : m ≤ maxLen) (hX : Bits w A n X) (hY : Bits w A' m Y) :
    Calls Try.prog 23 #[.slice A n c, .slice A' m c'] w (Ret w (.bool (sameB n m X Y))) := by
  unfold maxLen at hn hm
  by_cases h1 : n = m
  · subst h1
    have q1 : ((n : Int) != n) = false := by simp
    have HX := Lib.hid hX
    have HY := Lib.hid hY
    clear hX hY
    go_enter Try.func23, Try.ntmps23
    go_wp2
    go_loopw [5] (fun v wr => ∃ i : Nat, i ≤ n ∧ v = .int .i64 i ∧ (∀ j, j < i → X j = Y j) ∧ Below w.heap.size w wr) (fun v _ => n - (intOf v).toNat)
    case atStart => exact ⟨0, by omega, rfl, fun j hj => by omega, Below.refl _ _⟩
    case round =>
      obtain ⟨i, hi, rfl, hok, hB⟩ := hrel
      have Hok := Lib.hid hok
      clear hok
      have hz := hB.size
      by_cases hlt : i < n
      · have hdi : decide ((i : Int) < n) = true := by simp; omega
        obtain ⟨b, off, rfl, hb, hc⟩ := HX.out (by omega)
        obtain ⟨b', off', rfl, hb', hc'⟩ := HY.out (by omega)
        have c0 := Later.cell ((hB.cell (p := ⟨b, _, none⟩) hb).trans (hc i hlt)) (by omega)
        have c1 := Later.cell ((hB.cell (p := ⟨b', _, none⟩) hb').trans (hc' i hlt)) (by omega)
        clear hc hc' HX HY
        by_cases he : X i = Y i
        · have Hs := Lib.hid (show ∀ j, j < i + 1 → X j = Y j from by
            intro j hj
            rcases Nat.lt_or_eq_of_le (Nat.le_of_lt_succ hj) with h' | rfl
            · exact Hok.out j h'
            · exact he)
          have q2 : (!(X i == Y i)) = false := by simp [he]
          clear he
          go_wp2
          refine wp_region_later (by kernel_rfl) (by kernel_rfl) ?_
          repeat go_big_quiet_step (fail)
          refine wpQuiet_nil ?_
          rintro _ ⟨x, rfl⟩
          go_wp2
          go_roundw
          case rel => exact ⟨i + 1, by omega, by go_num, Hs.out, hB.trans (x.below.mono hB.size)⟩
          case measure => simp [intOf]; omega
        · have H := Lib.hid (sameB_bit (m := n) hlt he)
          have q2 : (!(X i == Y i)) = true := by simpa using he
          clear he
          go_wp2
          refine wp_region_later (by kernel_rfl) (by kernel_rfl) ?_
          repeat go_big_quiet_step (fail)
          refine wpQuiet_nil ?_
          rintro _ ⟨x, rfl⟩
          go_wp2
          go_ret
          rw [H.out]
          exact ⟨rfl, hB.trans (x.below.mono hB.size)⟩
      · have : i = n := by omega
        subst this
        have hdi : decide ((i : Int) < i) = false := by simp
        have H := Lib.hid (sameB_ok rfl Hok.out)
        clear hlt
        go_wp2
        go_ret
        rw [H.out]
        exact ⟨rfl, hB⟩
  · have H := Lib.hid (sameB_not (X := X) (Y := Y) h1)
    have q1 : ((n : Int) != m) = true := by simp; omega
    clear h1
    go_enter Try.func23, Try.ntmps23
    go_wp2
    go_ret
    rw [H.out]
    exact ⟨rfl, (by repeat (first | exact Below.refl _ _ | (refine Below.setCell ?_ (by first | omega | (simp; done) | (simp; omega)) _) | (refine Below.alloc ?_ (by first | omega | (simp; done) | (simp; omega)) _) | refine Below.drew ?_))⟩

theorem sameAllB_not {n m : Nat} {L L' : Nat → Nat} {S S' : Nat → Nat → Bool} (h : n ≠ m) : sameAllB n m L L' S S' = false := by simp [sameAllB, h]
theorem sameAllB_bit {n m : Nat} {L L' : Nat → Nat} {S S' : Nat → Nat → Bool} {j : Nat} (hj : j < n) (h : sameB (L j) (L' j) (S j) (S' j) = false) : sameAllB n m L L' S S' = false := by
  cases hs : sameAllB n m L L' S S' with
  | false => rfl
  | true =>
    simp only [sameAllB, Bool.and_eq_true, decide_eq_true_eq] at hs
    rw [hs.2 j hj] at h
    cases h

set_option maxHeartbeats 1000000 in
theorem sameAll_any (A A' : Option Addr) (n m c c' : Nat) (L L' : Nat → Nat) (S S' : Nat → Nat → Bool) (w : World) (hn : n ≤ maxLen) (hm : m ≤ maxLen) (hX : Sets w A n L S) (hY : Sets w A' m L' S') :
    Calls Try.prog 13 #[.slice A n c, .slice A' m c'] w (Ret w (.bool (sameAllB n m L L' S S'))) := by
  unfold maxLen at hn hm
  by_cases h1 : n = m
  · subst h1
    have q1 : ((n : Int) != n) = false := by simp
    have HX := Lib.hid hX
    have HY := Lib.hid hY
    clear hX hY
    go_enter Try.func13, Try.ntmps13
    go_wp2
    go_loopw [5] (fun v wr => ∃ i : Nat, i ≤ n ∧ v = .int .i64 i ∧ (∀ j, j < i → sameB (L j) (L' j) (S j) (S' j) = true) ∧ Below w.heap.size w wr) (fun v _ => n - (intOf v).toNat)
    case atStart => exact ⟨0, by omega, rfl, fun j hj => by omega, Below.refl _ _⟩
    case round =>
      obtain ⟨i, hi, rfl, hok, hB⟩ := hrel
      have Hok := Lib.hid hok
      clear hok
      have hz := hB.size
      by_cases hlt : i < n
      · have hdi : decide ((i : Int) < n) = true := by simp; omega
        obtain ⟨b, off, rfl, hb, hc⟩ := HX.out (by omega)
        obtain ⟨b', off', rfl, hb', hc'⟩ := HY.out (by omega)
        obtain ⟨R, C, e0, hl0, hX0⟩ := hc i hlt
        obtain ⟨R', C', e1, hl1, hX1⟩ := hc' i hlt
        have c0 := Later.cell ((hB.cell (p := ⟨b, _, none⟩) hb).trans e0) (by omega)
        have c1 := Later.cell ((hB.cell (p := ⟨b', _, none⟩) hb').trans e1) (by omega)
        have C0 := Lib.hid fun y => same18_any _ _ _ _ C C' _ _ _ hl0 hl1 ((hX0.below' hB).later y) ((hX1.below' hB).later y)
        clear hc hc' HX HY e0 e1 hX0 hX1
        rcases Bool.eq_false_or_eq_true (sameB (L i) (L' i) (S i) (S' i)) with he | he
        · rw [he] at C0
          have Hs := Lib.hid (show ∀ j, j < i + 1 → sameB (L j) (L' j) (S j) (S' j) = true from by
            intro j hj
            rcases Nat.lt_or_eq_of_le (Nat.le_of_lt_succ hj) with h' | rfl
            · exact Hok.out j h'
            · exact he)
          clear he
          go_wp2
          refine wp_region_later (by kernel_rfl) (by kernel_rfl) ?_
          repeat go_big_quiet_step (((go_at_call 23; exact Later.call (C0.out _))))
          refine wpQuiet_nil ?_
          rintro _ ⟨x, rfl⟩
          go_wp2
          go_roundw
          case rel => exact ⟨i + 1, by omega, by go_num, Hs.out, hB.trans (x.below.mono hB.size)⟩
          case measure => simp [intOf]; omega
        · rw [he] at C0
          have H := Lib.hid (sameAllB_bit (m := n) (L := L) (L' := L') (S := S) (S' := S') hlt he)
          clear he
          go_wp2
          refine wp_region_later (by kernel_rfl) (by kernel_rfl) ?_
          repeat go_big_quiet_step (((go_at_call 23; exact Later.call (C0.out _))))
          refine wpQuiet_nil ?_
          rintro _ ⟨x, rfl⟩
          go_wp2
          go_ret
          rw [H.out]
          exact ⟨rfl, hB.trans (x.below.mono hB.size)⟩
      · have : i = n := by omega
        subst this
        have hdi : decide ((i : Int) < i) = false := by simp
        have H := Lib.hid (show sameAllB i i L L' S S' = true from by
          simp only [sameAllB, Bool.and_eq_true, decide_eq_true_eq]
          exact ⟨trivial, Hok.out⟩)
        clear hlt
        go_wp2
        go_ret
        rw [H.out]
        exact ⟨rfl, hB⟩
  · have H := Lib.hid (sameAllB_not (L := L) (L' := L') (S := S) (S' := S') h1)
    have q1 : ((n : Int) != m) = true := by simp; omega
    clear h1
    go_enter Try.func13, Try.ntmps13
    go_wp2
    go_ret
    rw [H.out]
    exact ⟨rfl, (by repeat (first | exact Below.refl _ _ | (refine Below.setCell ?_ (by first | omega | (simp; done) | (simp; omega)) _) | (refine Below.alloc ?_ (by first | omega | (simp; done) | (simp; omega)) _) | refine Below.drew ?_))⟩

theorem withinB_not {n : Nat} {X Y : Nat → Bool} {j : Nat} (hj : j < n) (h : X j = true) (h' : Y j = false) : withinB n X Y = false := by
  cases hs : withinB n X Y with
  | false => rfl
  | true =>
    simp only [withinB, decide_eq_true_eq] at hs
    rw [hs j hj h] at h'
    cases h'

/-- What Within returns: first the truth value. -/
def wiB (n m : Nat) (X Y : Nat → Bool) : Bool := (wiE n m == 0) && withinB n X Y

set_option maxHeartbeats 1000000 in
theorem within_any (A A' : Option Addr) (n m c c' : Nat) (X Y : Nat → Bool) (w : World) (hn : n ≤ maxLen) (hm : m ≤ maxLen) (hX : Bits w A n X) (hY : Bits w A' m Y) :
    Calls Try.prog 22 #[.slice A n c, .slice A' m c'] w (Ret w (.tuple #[.bool (wiB n m X Y), .int .i64 (wiE n m)])) := by
  have hn' := hn
  unfold maxLen at hn'
  have C1 := fun W => ptscheck_any A A' n m c c' W hn hm
  by_cases h1 : wiE n m = 0
  · obtain ⟨rfl, h600⟩ := wiE_zero h1
    rw [h1] at C1 ⊢
    have D1 := Lib.hid C1
    have H0 := Lib.hid (show wiB n n X Y = withinB n X Y from by simp [wiB, h1])
    clear C1 h1
    have HX := Lib.hid hX
    have HY := Lib.hid hY
    clear hX hY
    rw [H0.out]
    clear H0
    go_enter Try.func22, Try.ntmps22
    go_wp2_with fail
    refine (D1.out _).mono ?_
    rintro e w1 ⟨rfl, hb1⟩
    have hB1 : Below w.heap.size w w1 := Below.call (by repeat (first | exact Below.refl _ _ | (refine Below.setCell ?_ (by first | omega | (simp; done) | (simp; omega)) _) | (refine Below.alloc ?_ (by first | omega | (simp; done) | (simp; omega)) _) | refine Below.drew ?_)) hb1
    have hS1 : w.heap.size ≤ w1.heap.size := hB1.size
    obtain ⟨hc1, hf1⟩ := bcell hb1
    clear hc1 hf1 D1
    go_wp2
    go_loopw [17] (fun v wr => ∃ i : Nat, i ≤ n ∧ v = .int .i64 i ∧ (∀ j, j < i → X j = true → Y j = true) ∧ Below w1.heap.size w1 wr) (fun v _ => n - (intOf v).toNat)
    case atStart => exact ⟨0, by omega, rfl, fun j hj => by omega, Below.refl _ _⟩
    case round =>
      obtain ⟨i, hi, rfl, hok, hB⟩ := hrel
      have Hok := Lib.hid hok
      clear hok
      have hz := hB.size
      have hBw := Below.call hB1 hB
      by_cases hlt : i < n
      · have hdi : decide ((i : Int) < n) = true := by simp; omega
        obtain ⟨b, off, rfl, hb, hc⟩ := HX.out (by omega)
        obtain ⟨b', off', rfl, hb', hc'⟩ := HY.out (by omega)
        have c0 := (hBw.cell (p := ⟨b, _, none⟩) hb).trans (hc i hlt)
        have c1 := (hBw.cell (p := ⟨b', _, none⟩) hb').trans (hc' i hlt)
        clear hc hc' HX HY
        by_cases he : X i = true → Y i = true
        · have Hs := Lib.hid (show ∀ j, j < i + 1 → X j = true → Y j = true from by
            intro j hj
            rcases Nat.lt_or_eq_of_le (Nat.le_of_lt_succ hj) with h' | rfl
            · exact Hok.out j h'
            · exact he)
          have q2 : X i = false ∨ X i = true ∧ Y i = true := by cases hx : X i <;> simp_all
          clear he
          rcases q2 with q2 | ⟨q2, q3⟩
          · rw [q2] at c0
            clear q2
            go_wp2
            go_roundw
            case rel => exact ⟨i + 1, by omega, by go_num, Hs.out, hB⟩
            case measure => simp [intOf]; omega
          · rw [q2] at c0
            rw [q3] at c1
            clear q2 q3
            go_wp2
            go_roundw
            case rel => exact ⟨i + 1, by omega, by go_num, Hs.out, hB⟩
            case measure => simp [intOf]; omega
        · have q2 : X i = true ∧ Y i = false := by cases hx : X i <;> cases hy : Y i <;> simp_all
          obtain ⟨q2, q3⟩ := q2
          have H := Lib.hid (withinB_not hlt q2 q3)
          rw [q2] at c0
          rw [q3] at c1
          clear he q2 q3
          go_wp2
          go_ret2
          rw [H.out]
          exact ⟨rfl, hBw⟩
      · have : i = n := by omega
        subst this
        have hdi : decide ((i : Int) < i) = false := by simp
        have H := Lib.hid (show withinB i X Y = true from by simp only [withinB, decide_eq_true_eq]; exact Hok.out)
        clear hlt
        go_wp2
        go_ret2
        rw [H.out]
        exact ⟨rfl, hBw⟩
  · have H0 := Lib.hid (show wiB n m X Y = false from by simp [wiB, h1])
    have q1 : (wiE n m != 0) = true := by simpa using h1
    have D1 := Lib.hid C1
    clear C1 h1
    rw [H0.out]
    clear H0
    go_enter Try.func22, Try.ntmps22
    go_wp2_with fail
    refine (D1.out _).mono ?_
    rintro e w1 ⟨rfl, hb1⟩
    have hB1 : Below w.heap.size w w1 := Below.call (by repeat (first | exact Below.refl _ _ | (refine Below.setCell ?_ (by first | omega | (simp; done) | (simp; omega)) _) | (refine Below.alloc ?_ (by first | omega | (simp; done) | (simp; omega)) _) | refine Below.drew ?_)) hb1
    have hS1 : w.heap.size ≤ w1.heap.size := hB1.size
    obtain ⟨hc1, hf1⟩ := bcell hb1
    clear hc1 hf1 D1
    go_wp2
    go_ret2
    exact ⟨rfl, (by repeat (first | exact hB1 | exact Below.refl _ _ | (refine Below.setCell ?_ (by first | omega | (simp; done) | (simp; omega)) _) | (refine Below.alloc ?_ (by first | omega | (simp; done) | (simp; omega)) _) | refine Below.drew ?_))⟩

end Go.Proofs.Ytcdbaoejakcemaa
