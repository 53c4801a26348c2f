/- The statement SolveMore: its walk. No condition. -/
import Derived.Test.YtcdbaoejakcemaaSolveR
import Derived.Test.YtcdbaoejakcemaaSolveT
namespace Go.Proofs.Ytcdbaoejakcemaa
open Go.RowKit

/-- Is there nothing to show? What is asked before the solutions are looked at. -/
def MoreGo (n nl : Nat) (L : Nat → Nat) (r p : Int) : Prop := nl < 80 ∧ ∃ r' p' : Nat, r = r' ∧ p = p' ∧ r' < n ∧ p' < L r'

set_option maxRecDepth 100000 in
set_option maxHeartbeats 8000000 in
theorem more_skip (A A' : Option Addr) (n nl c c' : Nat) (L : Nat → Nat) (S : Nat → Nat → Bool) (F T N Y : Nat → Int) (r p cf ct cn cy : Int) (w : World) (hn : n ≤ maxLen) (hl : nl ≤ maxLen) (hX : Sets w A n L S) (hY : Cons w A' nl F T N Y)
    (hno : nl < 80 → askV n nl L F T = 0 → ¬ MoreGo n nl L r p) :
    Calls Try.prog 5 #[.slice A n c, .slice A' nl c', .int .i64 r, .int .i64 p, .agg #[.int .i64 cf, .int .i64 ct, .int .i64 cn, .int .u8 cy]] w (Ret w (.bool true)) := by
  have hl' := hl
  unfold maxLen at hl'
  have HX := Lib.hid hX
  have HY := Lib.hid hY
  have HNO := Lib.hid hno
  clear hX hY hno
  go_enter Try.func5, Try.ntmps5
  go_wp2_with fail
  refine (alive_any _).mono ?_
  rintro e w1 ⟨rfl, hb1⟩
  have hB1 : Below w.heap.size w w1 := Below.call (by repeat (first | exact Below.refl _ _ | (refine Below.setCell ?_ (by first | omega | (simp; done) | (simp; omega)) _) | (refine Below.alloc ?_ (by first | omega | (simp; done) | (simp; omega)) _) | refine Below.drew ?_)) hb1
  have hS1 : w.heap.size ≤ w1.heap.size := hB1.size
  obtain ⟨hc1, hf1⟩ := bcell hb1
  clear hc1 hf1
  go_wp2_with fail
  refine (great_any A A' n nl c c' L S _ hn hl (HX.out.below' (by repeat (first | exact hB1 | exact Below.refl _ _ | (refine Below.setCell ?_ (by first | omega | (simp; done) | (simp; omega)) _) | (refine Below.alloc ?_ (by first | omega | (simp; done) | (simp; omega)) _) | refine Below.drew ?_)))).mono ?_
  rintro e w2 ⟨g, rfl, hg, hb2⟩
  have hB2 : Below w.heap.size w w2 := Below.call (by repeat (first | exact hB1 | exact Below.refl _ _ | (refine Below.setCell ?_ (by first | omega | (simp; done) | (simp; omega)) _) | (refine Below.alloc ?_ (by first | omega | (simp; done) | (simp; omega)) _) | refine Below.drew ?_)) hb2
  cases g
  · clear hg
    by_cases h80 : nl < 80
    · have q1 : decide (80 ≤ (nl : Int)) = false := by simp; omega
      go_wp2_with fail
      refine (asked_any A A' n nl c c' L S F T N Y _ hn hl (HX.out.below' (by repeat (first | exact hB2 | exact Below.refl _ _ | (refine Below.setCell ?_ (by first | omega | (simp; done) | (simp; omega)) _) | (refine Below.alloc ?_ (by first | omega | (simp; done) | (simp; omega)) _) | refine Below.drew ?_))) (HY.out.below' (by repeat (first | exact hB2 | exact Below.refl _ _ | (refine Below.setCell ?_ (by first | omega | (simp; done) | (simp; omega)) _) | (refine Below.alloc ?_ (by first | omega | (simp; done) | (simp; omega)) _) | refine Below.drew ?_)))).mono ?_
      rintro e w3 ⟨rfl, hb3⟩
      have hB3 : Below w.heap.size w w3 := Below.call (by repeat (first | exact hB2 | exact Below.refl _ _ | (refine Below.setCell ?_ (by first | omega | (simp; done) | (simp; omega)) _) | (refine Below.alloc ?_ (by first | omega | (simp; done) | (simp; omega)) _) | refine Below.drew ?_)) hb3
      by_cases h0 : askV n nl L F T = 0
      · have hno := HNO.out h80 h0
        rw [h0]
        clear h0 HNO
        by_cases r0 : r < 0
        · have q2 : decide (r < 0) = true := by simpa using r0
          clear hno
          go_wp2
          go_ret
          exact ⟨rfl, (by repeat (first | exact hB3 | exact Below.refl _ _ | (refine Below.setCell ?_ (by first | omega | (simp; done) | (simp; omega)) _) | (refine Below.alloc ?_ (by first | omega | (simp; done) | (simp; omega)) _) | refine Below.drew ?_))⟩
        · have q2 : decide (r < 0) = false := by simpa using r0
          obtain ⟨r', rfl⟩ := Int.eq_ofNat_of_zero_le (by omega : 0 ≤ r)
          by_cases r1 : r' < n
          · have q3 : decide ((n : Int) ≤ r') = false := by simp; omega
            by_cases p0 : p < 0
            · have q4 : decide (p < 0) = true := by simpa using p0
              clear hno r0
              go_wp2
              go_ret
              exact ⟨rfl, (by repeat (first | exact hB3 | exact Below.refl _ _ | (refine Below.setCell ?_ (by first | omega | (simp; done) | (simp; omega)) _) | (refine Below.alloc ?_ (by first | omega | (simp; done) | (simp; omega)) _) | refine Below.drew ?_))⟩
            · have q4 : decide (p < 0) = false := by simpa using p0
              obtain ⟨p', rfl⟩ := Int.eq_ofNat_of_zero_le (by omega : 0 ≤ p)
              have q5 : decide ((L r' : Int) ≤ p') = true := by
                have : ¬ p' < L r' := fun h => hno ⟨h80, r', p', rfl, rfl, r1, h⟩
                simp; omega
              have q6 : L r' ≤ p' := by simpa using q5
              have q7 : (r' : Int) < n := by omega
              have q8 : ¬ (p' : Int) < 0 := by omega
              obtain ⟨b, off, rfl, hb, hc⟩ := HX.out (by omega)
              obtain ⟨R, C, e0, hl0, hX0⟩ := hc r' r1
              have c0 := (hB3.cell (p := ⟨b, _, none⟩) hb).trans e0
              clear hno r0 p0 hc e0 hX0
              go_wp2
              go_ret
              exact ⟨rfl, (by repeat (first | exact hB3 | exact Below.refl _ _ | (refine Below.setCell ?_ (by first | omega | (simp; done) | (simp; omega)) _) | (refine Below.alloc ?_ (by first | omega | (simp; done) | (simp; omega)) _) | refine Below.drew ?_))⟩
          · have q3 : decide ((n : Int) ≤ r') = true := by simp; omega
            clear hno r0
            go_wp2
            go_ret
            exact ⟨rfl, (by repeat (first | exact hB3 | exact Below.refl _ _ | (refine Below.setCell ?_ (by first | omega | (simp; done) | (simp; omega)) _) | (refine Below.alloc ?_ (by first | omega | (simp; done) | (simp; omega)) _) | refine Below.drew ?_))⟩
      · have q2 : (askV n nl L F T != 0) = true := by simpa using h0
        clear h0 HNO
        go_wp2
        go_ret
        exact ⟨rfl, (by repeat (first | exact hB3 | exact Below.refl _ _ | (refine Below.setCell ?_ (by first | omega | (simp; done) | (simp; omega)) _) | (refine Below.alloc ?_ (by first | omega | (simp; done) | (simp; omega)) _) | refine Below.drew ?_))⟩
    · have q1 : decide (80 ≤ (nl : Int)) = true := by simp; omega
      clear h80 HNO
      go_wp2
      go_ret
      exact ⟨rfl, (by repeat (first | exact hB2 | exact Below.refl _ _ | (refine Below.setCell ?_ (by first | omega | (simp; done) | (simp; omega)) _) | (refine Below.alloc ?_ (by first | omega | (simp; done) | (simp; omega)) _) | refine Below.drew ?_))⟩
  · go_wp2
    go_ret
    exact ⟨rfl, (by repeat (first | exact hB2 | exact Below.refl _ _ | (refine Below.setCell ?_ (by first | omega | (simp; done) | (simp; omega)) _) | (refine Below.alloc ?_ (by first | omega | (simp; done) | (simp; omega)) _) | refine Below.drew ?_))⟩

end Go.Proofs.Ytcdbaoejakcemaa
