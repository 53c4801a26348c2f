/- The type with a number, in the program and in the reference: what each call comes to. No condition. -/
import Derived.Test.YthkfadnkonokdaaShapeE
namespace Go.Proofs.Ythkfadnkonokdaa
open Go.RowKit

def ofK (c : Int) : Int := if 0 ≤ c ∧ c ≤ 7 then wK c else 0
def ofT (c : Int) : Int := if 0 ≤ c ∧ c ≤ 7 then wT c else 0
def ofE (c : Int) : Int := if 0 ≤ c ∧ c ≤ 7 then 0 else 2

theorem of_hit {k t c : Int} (h : okB k t = true) (hc : codeV k t = c) : ofK c = k ∧ ofT c = t ∧ ofE c = 0 := by
  have hr := code_range h
  have hw := (w_iff (j := c) (k := k) (t := t) (by omega) (by omega)).2 ⟨h, hc⟩
  have hb : 0 ≤ c ∧ c ≤ 7 := by omega
  simp only [ofK, ofT, ofE, if_pos hb]
  exact ⟨hw.1, hw.2, trivial⟩
theorem w_range {c : Int} (h0 : 0 ≤ c) (h7 : c ≤ 7) : 0 ≤ wK c ∧ wK c ≤ 5 ∧ 0 ≤ wT c ∧ wT c ≤ 2 := by
  unfold wK wT
  split <;> omega
theorem of_miss {c : Int} (h : ∀ k t : Int, 0 ≤ k → k ≤ 5 → 0 ≤ t → t ≤ 2 → ¬ (okB k t = true ∧ codeV k t = c)) : ofK c = 0 ∧ ofT c = 0 ∧ ofE c = 2 := by
  have hb : ¬ (0 ≤ c ∧ c ≤ 7) := by
    rintro ⟨h0, h7⟩
    have hr := w_range h0 h7
    exact h (wK c) (wT c) hr.1 hr.2.1 hr.2.2.1 hr.2.2.2 ((w_iff h0 h7).1 ⟨rfl, rfl⟩)
  simp only [ofK, ofT, ofE, if_neg hb]
  exact ⟨trivial, trivial, trivial⟩

set_option maxHeartbeats 400000 in
theorem refof_any (c : Int) (w : World) (hlo : -9223372036854775808 ≤ c) (hhi : c ≤ 9223372036854775807) :
    Calls Try.prog 21 #[.int .i64 c] w (Ret w (.tuple #[.agg #[.int .u8 (ofK c), .int .u8 (ofT c)], .int .i64 (ofE c)])) := by
  by_cases h : 0 ≤ c ∧ c ≤ 7
  · have H1 := Lib.hid (show ofK c = wK c from by rw [ofK, if_pos h])
    have H2 := Lib.hid (show ofT c = wT c from by rw [ofT, if_pos h])
    have H3 := Lib.hid (show ofE c = 0 from by rw [ofE, if_pos h])
    obtain ⟨h0, h7⟩ := h
    go_enter Try.func21, Try.ntmps21
    go_wp2_with fail
    refine (with_any c _ h0 h7).mono ?_
    rintro e w1 ⟨rfl, hb1⟩
    have hB1 : Below w.heap.size w w1 := Below.call (by repeat (first | exact Below.refl _ _ | (refine Below.setCell ?_ (by first | omega | (simp; done) | (simp; omega)) _) | (refine Below.alloc ?_ (by first | omega | (simp; done) | (simp; omega)) _) | refine Below.drew ?_)) hb1
    have hS1 : w.heap.size ≤ w1.heap.size := hB1.size
    obtain ⟨hc1, hf1⟩ := bcell hb1
    have hz1_0 : w.heap.size < w1.heap.size := by have := hb1.size; first | omega | (simp at this; omega)
    go_wp2
    rw [H1.out, H2.out, H3.out]
    refine bodyPost_ret (by simp [results, Try.results21, go_sem, hc1, hz1_0]; try rfl) rfl ⟨rfl, ?_⟩
    exact (by repeat (first | exact hB1 | exact Below.refl _ _ | (refine Below.setCell ?_ (by first | omega | (simp; done) | (simp; omega)) _) | (refine Below.alloc ?_ (by first | omega | (simp; done) | (simp; omega)) _) | refine Below.drew ?_))
  · have H1 := Lib.hid (show ofK c = 0 from by rw [ofK, if_neg h])
    have H2 := Lib.hid (show ofT c = 0 from by rw [ofT, if_neg h])
    have H3 := Lib.hid (show ofE c = 2 from by rw [ofE, if_neg h])
    by_cases h0 : c < 0
    · clear h
      go_enter Try.func21, Try.ntmps21
      go_wp2
      rw [H1.out, H2.out, H3.out]
      refine bodyPost_ret (by simp [results, Try.results21, go_sem]; try rfl) rfl ⟨rfl, ?_⟩
      exact (by repeat (first | exact Below.refl _ _ | (refine Below.setCell ?_ (by first | omega | (simp; done) | (simp; omega)) _) | (refine Below.alloc ?_ (by first | omega | (simp; done) | (simp; omega)) _) | refine Below.drew ?_))
    · have h7 : 7 < c := by omega
      clear h
      go_enter Try.func21, Try.ntmps21
      go_wp2
      rw [H1.out, H2.out, H3.out]
      refine bodyPost_ret (by simp [results, Try.results21, go_sem]; try rfl) rfl ⟨rfl, ?_⟩
      exact (by repeat (first | exact Below.refl _ _ | (refine Below.setCell ?_ (by first | omega | (simp; done) | (simp; omega)) _) | (refine Below.alloc ?_ (by first | omega | (simp; done) | (simp; omega)) _) | refine Below.drew ?_))

/-- No type before this place has the number. -/
def noneBefore (c : Int) (i j : Nat) : Prop := ∀ k t : Int, 0 ≤ k → 0 ≤ t → t ≤ 2 → (k < i ∨ k = i ∧ t < j) → ¬ (okB k t = true ∧ codeV k t = c)
theorem noneBefore_zero (c : Int) : noneBefore c 0 0 := fun k t _ _ _ h => by omega
theorem noneBefore_step {c : Int} {i j : Nat} (h : noneBefore c i j) (h1 : ¬ (okB i j = true ∧ codeV i j = c)) : noneBefore c i (j + 1) := by
  intro k t h0 ht ht2 hlt
  by_cases he : k = i ∧ t = j
  · rw [he.1, he.2]; exact h1
  · exact h k t h0 ht ht2 (by omega)
theorem noneBefore_row {c : Int} {i : Nat} (h : noneBefore c i 3) : noneBefore c (i + 1) 0 := by
  intro k t h0 ht ht2 hlt
  exact h k t h0 ht ht2 (by omega)

set_option maxHeartbeats 1000000 in
theorem of_any (c : Int) (w : World) (hlo : -9223372036854775808 ≤ c) (hhi : c ≤ 9223372036854775807) :
    Calls Try.prog 20 #[.int .i64 c] w (Ret w (.tuple #[.agg #[.int .u8 (ofK c), .int .u8 (ofT c)], .int .i64 (ofE c)])) := by
  go_enter Try.func20, Try.ntmps20
  go_wp2
  go_loopw [9] (fun v wr => ∃ i : Nat, i ≤ 6 ∧ v = .int .u8 i ∧ noneBefore c i 0 ∧ Below (w.heap.size + 1) (w.alloc (.cells #[.int .u8 0, .int .u8 0] 23)) wr) (fun v _ => (6 - intOf v).toNat)
  case atStart => exact ⟨0, by omega, rfl, noneBefore_zero c, Below.refl _ _⟩
  case round =>
    obtain ⟨i, hi, rfl, hno, hB⟩ := hrel
    have Hno := Lib.hid hno
    clear hno
    by_cases hlt : i < 6
    · obtain ⟨wo, rfl⟩ : ∃ wo : World, wo = wr := ⟨_, rfl⟩
      have hd6 : decide ((i : Int) < 6) = true := by simp; omega
      go_wp2
      go_loopw [12] (fun v wq => ∃ j : Nat, j ≤ 3 ∧ v = .int .u8 j ∧ noneBefore c i j ∧ Below (w.heap.size + 1) (w.alloc (.cells #[.int .u8 0, .int .u8 0] 23)) wq) (fun v _ => (3 - intOf v).toNat)
      case atStart => exact ⟨0, by omega, rfl, Hno.out, hB⟩
      case round =>
        obtain ⟨j, hj, rfl, hno, hB⟩ := hrel
        clear Hno
        have Hno := Lib.hid hno
        clear hno
        by_cases hlt3 : j < 3
        · have hz := hB.size
          simp at hz
          obtain ⟨hc0, hf0⟩ := bcell (W := w.alloc (.cells #[.int .u8 0, .int .u8 0] 23)) (by simpa using hB)
          go_wp2_with fail
          refine (code_any i j _ (by omega) (by omega) (by omega) (by omega)).mono ?_
          rintro e w1 ⟨rfl, hb1⟩
          have hB1 : Below (w.heap.size + 1) (w.alloc (.cells #[.int .u8 0, .int .u8 0] 23)) w1 := (hB.alloc (by omega) _).trans (hb1.mono (by simp; omega))
          obtain ⟨hc1, hf1⟩ := bcell hb1
          have hz1 : w.heap.size < w1.heap.size := by have := hB1.size; simp at this; omega
          have hz2 : wr.heap.size < w1.heap.size := by have := hb1.size; simp at this; omega
          have hz3 : w.heap.size < wr.heap.size := by omega
          rcases okB_cases i j with h | h
          · rw [chk_ok h]
            by_cases hm : codeV i j = c
            · have hh := of_hit h hm
              have H1 := Lib.hid hh.1
              have H2 := Lib.hid hh.2.1
              have H3 := Lib.hid hh.2.2
              clear hh h
              have hq := beqT hm
              clear hm
              have k0 : w1.cell? ⟨w.heap.size, 0, none⟩ = some (.int .u8 0) := by go_simp
              have k1 : w1.cell? ⟨w.heap.size, 1, none⟩ = some (.int .u8 0) := by go_simp
              have k2 : w1.frozen? ⟨w.heap.size, 0, none⟩ = false := by go_simp
              have k3 : w1.frozen? ⟨w.heap.size, 1, none⟩ = false := by go_simp
              go_wp2
              rw [H1.out, H2.out, H3.out]
              refine bodyPost_ret (by simp [results, Try.results20, go_sem, k0, k1]; try rfl) rfl ⟨rfl, ?_⟩
              have hB2 : Below w.heap.size w w1 := ((Below.refl _ _).alloc (Nat.le_refl _) _).trans (hB1.mono (by omega))
              exact (by repeat (first | exact hB2 | exact Below.refl _ _ | (refine Below.setCell ?_ (by first | omega | (simp; done) | (simp; omega)) _) | (refine Below.alloc ?_ (by first | omega | (simp; done) | (simp; omega)) _) | refine Below.drew ?_))
            · have Hs := Lib.hid (noneBefore_step Hno.out (fun hh => hm hh.2))
              have hq := beqF hm
              clear hm h
              go_wp2
              go_roundw
              case rel => exact ⟨j + 1, by omega, by go_num, Hs.out, hB1⟩
              case measure => simp [intOf]; omega
          · rw [chk_no h]
            have Hs := Lib.hid (noneBefore_step Hno.out (fun hh => by rw [h] at hh; cases hh.1))
            clear h
            go_wp2
            go_roundw
            case rel => exact ⟨j + 1, by omega, by go_num, Hs.out, hB1⟩
            case measure => simp [intOf]; omega
        · have : j = 3 := by omega
          subst this
          have Hs := Lib.hid (noneBefore_row Hno.out)
          go_wp2
          go_roundw
          case rel => exact ⟨i + 1, by omega, by go_num, Hs.out, hB⟩
          case measure => simp [intOf]; omega
    · have : i = 6 := by omega
      subst this
      obtain ⟨hc, hf⟩ := bcell (W := w.alloc (.cells #[.int .u8 0, .int .u8 0] 23)) (by simpa using hB)
      have hz := hB.size
      simp at hz
      have hm := of_miss (c := c) (fun k t h1 h2 h3 h4 => Hno.out k t h1 h3 h4 (by omega))
      have H1 := Lib.hid hm.1
      have H2 := Lib.hid hm.2.1
      have H3 := Lib.hid hm.2.2
      clear hm
      have hz1 : w.heap.size < wr.heap.size := by omega
      go_wp2
      rw [H1.out, H2.out, H3.out]
      refine bodyPost_ret (by simp [results, Try.results20, go_sem, hc, hz1]; try rfl) rfl ⟨rfl, ?_⟩
      have hB2 : Below w.heap.size w wr := ((Below.refl _ _).alloc (Nat.le_refl _) _).trans (hB.mono (by omega))
      exact (by repeat (first | exact hB2 | exact Below.refl _ _ | (refine Below.setCell ?_ (by first | omega | (simp; done) | (simp; omega)) _) | (refine Below.alloc ?_ (by first | omega | (simp; done) | (simp; omega)) _) | refine Below.drew ?_))

end Go.Proofs.Ythkfadnkonokdaa
