/- Layer 20: Great; what a solution is (Right, Holds). No condition. -/
import Derived.Test.YtcdbaoejakcemaaSolveE
namespace Go.Proofs.Ytcdbaoejakcemaa
open Go.RowKit

set_option maxRecDepth 100000 in
set_option maxHeartbeats 4000000 in
theorem great_any (A A' : Option Addr) (n nl c c' : Nat) (L : Nat → Nat) (S : Nat → Nat → Bool) (w : World) (hn : n ≤ maxLen) (hl : nl ≤ maxLen) (hX : Sets w A n L S) :
    Calls Try.prog 7 #[.slice A n c, .slice A' nl c'] w (GreatRet w n nl L) := by
  unfold maxLen at hn hl
  have HX := Lib.hid hX
  clear hX
  go_enter Try.func7, Try.ntmps7
  go_wp2
  go_loopw [5] (fun v wr => ∃ i : Nat, i ≤ n ∧ i ≤ 700 ∧ v = .int .i64 i ∧ (∀ j, j < i → L j ≤ 700) ∧ Below w.heap.size w wr) (fun v _ => n - (intOf v).toNat)
  case atStart => exact ⟨0, by omega, by omega, rfl, fun j hj => by omega, Below.refl _ _⟩
  case round =>
    obtain ⟨i, hi, hi7, rfl, hok, hB⟩ := hrel
    have Hok := Lib.hid hok
    clear hok
    have hz := hB.size
    by_cases hlt : i < n ∧ i < 700
    · obtain ⟨hlt, hlt7⟩ := hlt
      have hdi : decide ((i : Int) < n) = true := by simp; omega
      have hdj : decide ((i : Int) < 700) = true := by simp; omega
      obtain ⟨b, off, rfl, hb, hc⟩ := HX.out (by omega)
      obtain ⟨R, C, e0, hl0, hX0⟩ := hc i hlt
      have c0 := (hB.cell (p := ⟨b, _, none⟩) hb).trans e0
      clear hc HX e0 hX0
      have hp : (decide (60 < (L i : Int)) = true ∧ decide ((L i : Int) ≤ 600) = true) ∨ (decide (60 < (L i : Int)) = true ∧ decide ((L i : Int) ≤ 600) = false ∧ decide (700 < (L i : Int)) = true) ∨
          (L i ≤ 700 ∧ (decide (60 < (L i : Int)) = false ∨ decide (60 < (L i : Int)) = true ∧ decide ((L i : Int) ≤ 600) = false) ∧ decide (700 < (L i : Int)) = false) := by
        by_cases g1 : 60 < L i
        · by_cases g2 : L i ≤ 600
          · exact .inl ⟨by simp; omega, by simp; omega⟩
          · by_cases g3 : 700 < L i
            · exact .inr (.inl ⟨by simp; omega, by simp; omega, by simp; omega⟩)
            · exact .inr (.inr ⟨by omega, .inr ⟨by simp; omega, by simp; omega⟩, by simp; omega⟩)
        · exact .inr (.inr ⟨by omega, .inl (by simp; omega), by simp; omega⟩)
      rcases hp with ⟨p1, p2⟩ | ⟨p1, p2, p3⟩ | ⟨g0, hp, p3⟩
      · go_wp2
        go_ret
        exact ⟨true, rfl, (fun h => by cases h), hB⟩
      · go_wp2
        go_ret
        exact ⟨true, rfl, (fun h => by cases h), hB⟩
      · have Hs := Lib.hid (show ∀ j, j < i + 1 → L j ≤ 700 from by
          intro j hj
          rcases Nat.lt_or_eq_of_le (Nat.le_of_lt_succ hj) with h' | rfl
          · exact Hok.out j h'
          · exact g0)
        clear g0
        rcases hp with p1 | ⟨p1, p2⟩
        all_goals
          go_wp2
          go_roundw
          case rel => exact ⟨i + 1, by omega, by omega, by go_num, Hs.out, hB⟩
          case measure => simp [intOf]; omega
    · have hpl : (decide (80 < (nl : Int)) = false ∧ decide (1300 < (nl : Int)) = false ∧ nl ≤ 80) ∨ (decide (80 < (nl : Int)) = true ∧ decide ((nl : Int) ≤ 1152) = true ∧ 80 < nl) ∨ (decide (80 < (nl : Int)) = true ∧ decide ((nl : Int) ≤ 1152) = false ∧ decide (1300 < (nl : Int)) = false ∧ nl ≤ 1300) ∨
          (decide (80 < (nl : Int)) = true ∧ decide ((nl : Int) ≤ 1152) = false ∧ decide (1300 < (nl : Int)) = true ∧ 1300 < nl) := by
        simp; omega
      have hcase : i = n ∨ i = 700 ∧ 700 < n := by omega
      clear hlt HX
      rcases hcase with rfl | ⟨rfl, h7⟩
      · have hdi : decide ((i : Int) < i) = false := by simp
        have hpn : (decide (30 < (i : Int)) = false ∧ decide (700 < (i : Int)) = false ∧ i ≤ 30) ∨ (decide (30 < (i : Int)) = true ∧ decide ((i : Int) ≤ 592) = true ∧ 30 < i) ∨ (decide (30 < (i : Int)) = true ∧ decide ((i : Int) ≤ 592) = false ∧ decide (700 < (i : Int)) = false ∧ i ≤ 700) := by
          simp; omega
        rcases hpn with ⟨p1, p2, p3⟩ | ⟨p1, p2, p3⟩ | ⟨p1, p2, p4, p3⟩ <;> rcases hpl with ⟨r1, r2, r3⟩ | ⟨r1, r2, r3⟩ | ⟨r1, r2, r4, r3⟩ | ⟨r1, r2, r4, r3⟩
        all_goals
          go_wp2
          go_ret
          first
            | exact ⟨true, rfl, (fun h => by cases h), hB⟩
            | exact ⟨false, rfl, fun _ => ⟨by omega, by omega, Hok.out⟩, hB⟩
      · have hdi : decide (((700 : Nat) : Int) < n) = true := by simp; omega
        have p1 : decide (30 < (n : Int)) = true := by simp; omega
        have p2 : decide ((n : Int) ≤ 592) = false := by simp; omega
        have p3 : decide (700 < (n : Int)) = true := by simp; omega
        clear hpl h7
        go_wp2
        go_ret
        exact ⟨true, rfl, (fun h => by cases h), hB⟩

end Go.Proofs.Ytcdbaoejakcemaa
