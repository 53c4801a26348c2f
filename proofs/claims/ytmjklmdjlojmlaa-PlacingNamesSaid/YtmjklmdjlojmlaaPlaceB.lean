/- The types of places: placing.check. No condition. -/
import Derived.Test.YtmjklmdjlojmlaaPlaceA
namespace Go.Proofs.Ytmjklmdjlojmlaa
open Go.RowKit

theorem pchk_len {n : Nat} {K T : Nat → Int} {l f : Int} (h : n < 1 ∨ 16 < n) : pchk n K T l f = 8 := by rw [pchk, if_pos h]
theorem pchk_bad {n : Nat} {K T : Nat → Int} {l f : Int} {i : Nat} (hi : i < n) (h : okB (K i) (T i) = false) : pchk n K T l f = 8 := by
  rw [pchk, allOk_not hi h, if_pos rfl]; split <;> rfl
theorem pchk_ok {n : Nat} {K T : Nat → Int} {l f : Int} (h1 : 1 ≤ n) (h2 : n ≤ 16) (h : ∀ i, i < n → okB (K i) (T i) = true) : pchk n K T l f = if badP l f then 8 else if n ≤ l then 6 else 0 := by
  rw [pchk, if_neg (by omega), allOk_iff.2 h, if_neg (by simp)]

set_option maxHeartbeats 1000000 in
theorem pcheck_any (A : Option Addr) (n cap : Nat) (K T : Nat → Int) (l f : Int) (d : Bool) (w : World) (hn : n ≤ maxLen) (hT : Types w A n K T) :
    Calls Try.prog 24 #[.slice A n cap, .agg #[.int .i64 l, .bool d, .int .u8 f]] w (Ret w (.int .i64 (pchk n K T l f))) := by
  unfold maxLen at hn
  by_cases h0 : n < 1
  · have H := Lib.hid (pchk_len (K := K) (T := T) (l := l) (f := f) (.inl h0))
    have q1 : decide ((n : Int) < 1) = true := by simp; omega
    go_enter Try.func24, Try.ntmps24
    go_wp2
    go_ret
    rw [H.out]
    exact ⟨rfl, (by repeat (first | exact Below.refl _ _ | (refine Below.setCell ?_ (by first | omega | (simp; done) | (simp; omega)) _) | (refine Below.alloc ?_ (by first | omega | (simp; done) | (simp; omega)) _) | refine Below.drew ?_))⟩
  · have q1 : decide ((n : Int) < 1) = false := by simp; omega
    by_cases h1 : 16 < n
    · have H := Lib.hid (pchk_len (K := K) (T := T) (l := l) (f := f) (.inr h1))
      go_enter Try.func24, Try.ntmps24
      go_wp2
      go_ret
      rw [H.out]
      exact ⟨rfl, (by repeat (first | exact Below.refl _ _ | (refine Below.setCell ?_ (by first | omega | (simp; done) | (simp; omega)) _) | (refine Below.alloc ?_ (by first | omega | (simp; done) | (simp; omega)) _) | refine Below.drew ?_))⟩
    · have q2 : decide (16 < (n : Int)) = false := by simp; omega
      obtain ⟨b, off, rfl, hlt, hc⟩ := hT (by omega)
      have HC := Lib.hid hc
      clear hc hT
      go_enter Try.func24, Try.ntmps24
      go_wp2
      go_loopw [19] (fun v wr => ∃ i : Nat, i ≤ n ∧ v = .int .i64 i ∧ (∀ j, j < i → okB (K j) (T j) = true) ∧ Below (w.heap.size + 1) (w.alloc (.cells #[.int .i64 l, .bool d, .int .u8 f] 24)) wr) (fun v _ => n - (intOf v).toNat)
      case atStart => exact ⟨0, by omega, rfl, fun j hj => by omega, Below.refl _ _⟩
      case round =>
        obtain ⟨i, hi, rfl, hok, hB⟩ := hrel
        have Hok := Lib.hid hok
        clear hok
        have hB0 : Below w.heap.size w wr := ((Below.refl _ _).alloc (Nat.le_refl _) _).trans (hB.mono (by omega))
        have hz := hB.size
        simp at hz
        by_cases hlt' : i < n
        · obtain ⟨e0, e1, b0, b1, b2, b3⟩ := HC.out i hlt'
          have c0 : wr.cell? ⟨b, off + i * 2, none⟩ = some (.int .u8 (K i)) := (hB0.cell (p := ⟨b, _, none⟩) hlt).trans e0
          have c1 : wr.cell? ⟨b, off + i * 2 + 1, none⟩ = some (.int .u8 (T i)) := (hB0.cell (p := ⟨b, _, none⟩) hlt).trans e1
          clear e0 e1
          go_wp2_with fail
          refine (check_any (K i) (T i) _ b0 b1 b2 b3).mono ?_
          rintro e w1 ⟨rfl, hb1⟩
          have hB1 : Below (w.heap.size + 1) (w.alloc (.cells #[.int .i64 l, .bool d, .int .u8 f] 24)) w1 := Below.trans (by repeat (first | exact hB | (refine Below.setCell ?_ (by first | omega | (simp; done) | (simp; omega)) _) | (refine Below.alloc ?_ (by first | omega | (simp; done) | (simp; omega)) _) | refine Below.drew ?_)) (hb1.mono (by first | omega | (simp; done) | (simp; omega)))
          have hS1 := hB1.size
          have hT1 := hb1.size
          try simp only [World.size_alloc] at hS1 hT1
          obtain ⟨hc1, hf1⟩ := bcell hb1
          rcases okB_cases (K i) (T i) with h | h
          · rw [chk_ok h]
            have Hs := Lib.hid (show ∀ j, j < i + 1 → okB (K j) (T j) = true from by
              intro j hj
              rcases Nat.lt_or_eq_of_le (Nat.le_of_lt_succ hj) with h' | rfl
              · exact Hok.out j h'
              · exact h)
            clear h
            go_wp2
            go_roundw
            case rel => exact ⟨i + 1, by omega, by go_num, Hs.out, hB1⟩
            case measure => simp [intOf]; omega
          · rw [chk_no h]
            have H := Lib.hid (pchk_bad (l := l) (f := f) hlt' h)
            clear h
            go_wp2
            go_ret
            rw [H.out]
            exact ⟨rfl, ((Below.refl _ _).alloc (Nat.le_refl _) _).trans (hB1.mono (by omega))⟩
        · have : i = n := by omega
          subst this
          have H := Lib.hid (pchk_ok (l := l) (f := f) (show 1 ≤ i by omega) (by omega) Hok.out)
          clear hlt'
          obtain ⟨hc0, hf0⟩ := bcell (W := w.alloc (.cells #[.int .i64 l, .bool d, .int .u8 f] 24)) (by simpa using hB)
          have k0 : wr.cell? ⟨w.heap.size, 0, none⟩ = some (.int .i64 l) := by go_simp
          have k1 : wr.cell? ⟨w.heap.size, 1, none⟩ = some (.bool d) := by go_simp
          have k2 : wr.cell? ⟨w.heap.size, 2, none⟩ = some (.int .u8 f) := by go_simp
          clear hc0 hf0
          go_wp2_with fail
          refine (placeCheck_any l f d _).mono ?_
          rintro e w1 ⟨rfl, hb1⟩
          have hB1 : Below (w.heap.size + 1) (w.alloc (.cells #[.int .i64 l, .bool d, .int .u8 f] 24)) w1 := Below.trans (by repeat (first | exact hB | (refine Below.setCell ?_ (by first | omega | (simp; done) | (simp; omega)) _) | (refine Below.alloc ?_ (by first | omega | (simp; done) | (simp; omega)) _) | refine Below.drew ?_)) (hb1.mono (by first | omega | (simp; done) | (simp; omega)))
          have hS1 := hB1.size
          have hT1 := hb1.size
          try simp only [World.size_alloc] at hS1 hT1
          obtain ⟨hc1, hf1⟩ := bcell hb1
          by_cases hb : badP l f = true
          · have Hr := Lib.hid (show plC l f = 8 from by rw [plC, if_pos hb])
            have Hv := Lib.hid (show pchk i K T l f = 8 from by rw [H.out, if_pos hb])
            clear hb
            rw [Hr.out]
            go_wp2
            go_ret
            rw [Hv.out]
            exact ⟨rfl, ((Below.refl _ _).alloc (Nat.le_refl _) _).trans (hB1.mono (by omega))⟩
          · have Hr := Lib.hid (show plC l f = 0 from by rw [plC, if_neg hb])
            have hl : 0 ≤ l ∧ l < 16 := by simp [badP] at hb; omega
            rw [Hr.out]
            have k3 : w1.cell? ⟨w.heap.size, 0, none⟩ = some (.int .i64 l) := by rw [hc1 _ _ (by first | omega | (simp; done) | (simp; omega))]; exact k0
            clear hc1 hf1
            by_cases hli : (i : Int) ≤ l
            · have Hv := Lib.hid (show pchk i K T l f = 6 from by rw [H.out, if_neg hb, if_pos hli])
              clear hb
              go_wp2
              go_ret
              rw [Hv.out]
              exact ⟨rfl, ((Below.refl _ _).alloc (Nat.le_refl _) _).trans (hB1.mono (by omega))⟩
            · have Hv := Lib.hid (show pchk i K T l f = 0 from by rw [H.out, if_neg hb, if_neg hli])
              clear hb
              go_wp2
              go_ret
              rw [Hv.out]
              exact ⟨rfl, ((Below.refl _ _).alloc (Nat.le_refl _) _).trans (hB1.mono (by omega))⟩

end Go.Proofs.Ytmjklmdjlojmlaa
