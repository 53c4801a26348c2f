/- The statement SolveLeast: its walk. No condition. -/
import Derived.Test.YtcdbaoejakcemaaSolveQ
namespace Go.Proofs.Ytcdbaoejakcemaa
open Go.RowKit

theorem least_within {n nl ns : Nat} {L Ls : Nat → Nat} {F T : Nat → Int} {S X Z : Nat → Nat → Bool} (hf : Fit n nl F T) (hL : ∀ i, i < n → L i = L 0) (h6 : ∀ i, i < n → L i ≤ 600) (hs : IsSol n (L 0) nl F T S X) (hr : rightB n nl ns L Ls F T S Z = true) {i : Nat} (hi : i < n) :
    wiB (L i) (Ls i) (X i) (Z i) = true := by
  obtain ⟨rfl, h1, h2, h3⟩ := rightB_ok hr hf hL
  rw [h1 i hi, hL i hi, wiB, wiE_ok (by rw [← hL i hi]; exact h6 i hi)]
  simp only [beq_self_eq_true, Bool.true_and, withinB, decide_eq_true_eq]
  exact fun j hj hx => hs.least h2 h3 hi hj hx

set_option maxRecDepth 100000 in
set_option maxHeartbeats 8000000 in
theorem solveLeast_walk (A A' A2 : Option Addr) (n nl ns c c' c2 : Nat) (L Ls : Nat → Nat) (S Z : Nat → Nat → Bool) (F T N Y : Nat → Int) (w : World) (hn : n ≤ maxLen) (hl : nl ≤ maxLen) (hs : ns ≤ maxLen)
    (hX : Sets w A n L S) (hY : Cons w A' nl F T N Y) (hZ : Sets w A2 ns Ls Z) :
    Calls Try.prog 4 #[.slice A n c, .slice A' nl c', .slice A2 ns c2] w (Ret w (.bool true)) := by
  have hs' := hs
  unfold maxLen at hs'
  have HX := Lib.hid hX
  have HY := Lib.hid hY
  have HZ := Lib.hid hZ
  clear hX hY hZ
  go_enter Try.func4, Try.ntmps4
  go_wp2_with fail
  refine (alive_any _).mono ?_
  rintro e w1 ⟨rfl, hb1⟩
  have hB1 : Below w.heap.size w w1 := Below.call (by repeat (first | exact Below.refl _ _ | (refine Below.setCell ?_ (by first | omega | (simp; done) | (simp; omega)) _) | (refine Below.alloc ?_ (by first | omega | (simp; done) | (simp; omega)) _) | refine Below.drew ?_)) hb1
  have hS1 : w.heap.size ≤ w1.heap.size := hB1.size
  obtain ⟨hc1, hf1⟩ := bcell hb1
  clear hc1 hf1
  go_wp2_with fail
  refine (great_any A A' n nl c c' L S _ hn hl (HX.out.below' (by repeat (first | exact hB1 | exact Below.refl _ _ | (refine Below.setCell ?_ (by first | omega | (simp; done) | (simp; omega)) _) | (refine Below.alloc ?_ (by first | omega | (simp; done) | (simp; omega)) _) | refine Below.drew ?_)))).mono ?_
  rintro e w2 ⟨g, rfl, hg, hb2⟩
  have hB2 : Below w.heap.size w w2 := Below.call (by repeat (first | exact hB1 | exact Below.refl _ _ | (refine Below.setCell ?_ (by first | omega | (simp; done) | (simp; omega)) _) | (refine Below.alloc ?_ (by first | omega | (simp; done) | (simp; omega)) _) | refine Below.drew ?_)) hb2
  cases g
  · clear hg
    go_wp2_with fail
    refine (asked_any A A' n nl c c' L S F T N Y _ hn hl (HX.out.below' (by repeat (first | exact hB2 | exact Below.refl _ _ | (refine Below.setCell ?_ (by first | omega | (simp; done) | (simp; omega)) _) | (refine Below.alloc ?_ (by first | omega | (simp; done) | (simp; omega)) _) | refine Below.drew ?_))) (HY.out.below' (by repeat (first | exact hB2 | exact Below.refl _ _ | (refine Below.setCell ?_ (by first | omega | (simp; done) | (simp; omega)) _) | (refine Below.alloc ?_ (by first | omega | (simp; done) | (simp; omega)) _) | refine Below.drew ?_)))).mono ?_
    rintro e w3 ⟨rfl, hb3⟩
    have hB3 : Below w.heap.size w w3 := Below.call (by repeat (first | exact hB2 | exact Below.refl _ _ | (refine Below.setCell ?_ (by first | omega | (simp; done) | (simp; omega)) _) | (refine Below.alloc ?_ (by first | omega | (simp; done) | (simp; omega)) _) | refine Below.drew ?_)) hb3
    by_cases h0 : askV n nl L F T = 0
    · rw [h0]
      obtain ⟨y1, y2, y3, y4, y5⟩ := ask_zero h0
      have H0 := Lib.hid h0
      have H6 := Lib.hid y3
      have HL := Lib.hid y4
      have HF := Lib.hid y5
      clear h0 y3 y4 y5
      by_cases h7 : 700 < ns
      · have q1 : decide (700 < (ns : Int)) = true := by simp; omega
        go_wp2
        go_ret
        exact ⟨rfl, (by repeat (first | exact hB3 | exact Below.refl _ _ | (refine Below.setCell ?_ (by first | omega | (simp; done) | (simp; omega)) _) | (refine Below.alloc ?_ (by first | omega | (simp; done) | (simp; omega)) _) | refine Below.drew ?_))⟩
      · have q1 : decide (700 < (ns : Int)) = false := by simp; omega
        clear h7
        go_wp2_with fail
        refine (least_any A A' n nl c c' L S F T N Y _ hn hl (HX.out.below' (by repeat (first | exact hB3 | exact Below.refl _ _ | (refine Below.setCell ?_ (by first | omega | (simp; done) | (simp; omega)) _) | (refine Below.alloc ?_ (by first | omega | (simp; done) | (simp; omega)) _) | refine Below.drew ?_))) (HY.out.below' (by repeat (first | exact hB3 | exact Below.refl _ _ | (refine Below.setCell ?_ (by first | omega | (simp; done) | (simp; omega)) _) | (refine Below.alloc ?_ (by first | omega | (simp; done) | (simp; omega)) _) | refine Below.drew ?_)))).mono ?_
        rintro e w4 ⟨A8, c8, m8, X8, rfl, _, hs8, hok8, _, hb4⟩
        have hB4 : Below w.heap.size w w4 := Below.call (by repeat (first | exact hB3 | exact Below.refl _ _ | (refine Below.setCell ?_ (by first | omega | (simp; done) | (simp; omega)) _) | (refine Below.alloc ?_ (by first | omega | (simp; done) | (simp; omega)) _) | refine Below.drew ?_)) hb4
        obtain ⟨rfl, hsol⟩ := hok8 H0.out
        have H8 := Lib.hid hs8
        have HQ := Lib.hid hsol
        have HR := Lib.hid (rightB_mk (ns := m8) (Ls := L) rfl (fun _ _ => rfl) (fun k hk j hj q => hsol.has hk hj q) (hsol.closed HF.out) HF.out HL.out)
        rw [H0.out]
        clear hs8 hok8 hsol
        go_wp2_with fail
        refine (holds_any A A' A8 m8 nl m8 c c' c8 L L S X8 F T N Y _ hn hl hn (HX.out.below' (by repeat (first | exact hB4 | exact Below.refl _ _ | (refine Below.setCell ?_ (by first | omega | (simp; done) | (simp; omega)) _) | (refine Below.alloc ?_ (by first | omega | (simp; done) | (simp; omega)) _) | refine Below.drew ?_))) (HY.out.below' (by repeat (first | exact hB4 | exact Below.refl _ _ | (refine Below.setCell ?_ (by first | omega | (simp; done) | (simp; omega)) _) | (refine Below.alloc ?_ (by first | omega | (simp; done) | (simp; omega)) _) | refine Below.drew ?_))) (H8.out.below' (Below.refl _ _))).mono ?_
        rintro e w5 ⟨rfl, hb5⟩
        have hB5 : Below w.heap.size w w5 := Below.call (by repeat (first | exact hB4 | exact Below.refl _ _ | (refine Below.setCell ?_ (by first | omega | (simp; done) | (simp; omega)) _) | (refine Below.alloc ?_ (by first | omega | (simp; done) | (simp; omega)) _) | refine Below.drew ?_)) hb5
        have hC5 : Below w4.heap.size w4 w5 := hb5
        rw [holdB_ok H0.out, HR.out, H0.out]
        go_wp2_with fail
        refine (right_any A A' A8 m8 nl m8 c c' c8 L L S X8 F T N Y _ y1 y2 hn HL.out H6.out HF.out (HX.out.below' (by repeat (first | exact hB5 | exact Below.refl _ _ | (refine Below.setCell ?_ (by first | omega | (simp; done) | (simp; omega)) _) | (refine Below.alloc ?_ (by first | omega | (simp; done) | (simp; omega)) _) | refine Below.drew ?_))) (HY.out.below' (by repeat (first | exact hB5 | exact Below.refl _ _ | (refine Below.setCell ?_ (by first | omega | (simp; done) | (simp; omega)) _) | (refine Below.alloc ?_ (by first | omega | (simp; done) | (simp; omega)) _) | refine Below.drew ?_))) (H8.out.below' hC5)).mono ?_
        rintro e w6 ⟨rfl, hb6⟩
        have hB6 : Below w.heap.size w w6 := Below.call (by repeat (first | exact hB5 | exact Below.refl _ _ | (refine Below.setCell ?_ (by first | omega | (simp; done) | (simp; omega)) _) | (refine Below.alloc ?_ (by first | omega | (simp; done) | (simp; omega)) _) | refine Below.drew ?_)) hb6
        have hC6 : Below w4.heap.size w4 w6 := Below.call hC5 hb6
        rw [HR.out]
        go_wp2_with fail
        refine (least_any A8 A' m8 nl c8 c' L X8 F T N Y _ hn hl (H8.out.below' hC6) (HY.out.below' (by repeat (first | exact hB6 | exact Below.refl _ _ | (refine Below.setCell ?_ (by first | omega | (simp; done) | (simp; omega)) _) | (refine Below.alloc ?_ (by first | omega | (simp; done) | (simp; omega)) _) | refine Below.drew ?_)))).mono ?_
        rintro e w7 ⟨A9, c9, m9, X9, rfl, _, hs9, hok9, _, hb7⟩
        have hB7 : Below w.heap.size w w7 := Below.call (by repeat (first | exact hB6 | exact Below.refl _ _ | (refine Below.setCell ?_ (by first | omega | (simp; done) | (simp; omega)) _) | (refine Below.alloc ?_ (by first | omega | (simp; done) | (simp; omega)) _) | refine Below.drew ?_)) hb7
        have hC7 : Below w4.heap.size w4 w7 := Below.call hC6 hb7
        obtain ⟨hm9, hsol9⟩ := hok9 H0.out
        subst hm9
        have H9 := Lib.hid hs9
        have HSA := Lib.hid (sameAllB_ok (n := m9) (m := m9) (L := L) (L' := L) (S := X9) (S' := X8) rfl (fun _ _ => rfl) (fun i hi j hj => HQ.out.again HF.out hsol9 i hi j (by rw [← HL.out i hi]; exact hj)))
        rw [H0.out]
        clear hs9 hok9 hsol9
        go_wp2_with fail
        refine (sameAll_any A9 A8 m9 m9 c9 c8 L L X9 X8 _ hn hn (H9.out.below' (Below.refl _ _)) (H8.out.below' hC7)).mono ?_
        rintro e w8 ⟨rfl, hb8⟩
        have hB8 : Below w.heap.size w w8 := Below.call (by repeat (first | exact hB7 | exact Below.refl _ _ | (refine Below.setCell ?_ (by first | omega | (simp; done) | (simp; omega)) _) | (refine Below.alloc ?_ (by first | omega | (simp; done) | (simp; omega)) _) | refine Below.drew ?_)) hb8
        have hC8 : Below w4.heap.size w4 w8 := Below.call hC7 hb8
        rw [HSA.out]
        go_wp2_with fail
        refine (holds_any A A' A2 m9 nl ns c c' c2 L Ls S Z F T N Y _ hn hl hs (HX.out.below' (by repeat (first | exact hB8 | exact Below.refl _ _ | (refine Below.setCell ?_ (by first | omega | (simp; done) | (simp; omega)) _) | (refine Below.alloc ?_ (by first | omega | (simp; done) | (simp; omega)) _) | refine Below.drew ?_))) (HY.out.below' (by repeat (first | exact hB8 | exact Below.refl _ _ | (refine Below.setCell ?_ (by first | omega | (simp; done) | (simp; omega)) _) | (refine Below.alloc ?_ (by first | omega | (simp; done) | (simp; omega)) _) | refine Below.drew ?_))) (HZ.out.below' (by repeat (first | exact hB8 | exact Below.refl _ _ | (refine Below.setCell ?_ (by first | omega | (simp; done) | (simp; omega)) _) | (refine Below.alloc ?_ (by first | omega | (simp; done) | (simp; omega)) _) | refine Below.drew ?_)))).mono ?_
        rintro e w9 ⟨rfl, hb9⟩
        have hB9 : Below w.heap.size w w9 := Below.call (by repeat (first | exact hB8 | exact Below.refl _ _ | (refine Below.setCell ?_ (by first | omega | (simp; done) | (simp; omega)) _) | (refine Below.alloc ?_ (by first | omega | (simp; done) | (simp; omega)) _) | refine Below.drew ?_)) hb9
        have hC9 : Below w4.heap.size w4 w9 := Below.call hC8 hb9
        rw [holdB_ok H0.out, H0.out]
        go_wp2_with fail
        refine (right_any A A' A2 m9 nl ns c c' c2 L Ls S Z F T N Y _ y1 y2 hs HL.out H6.out HF.out (HX.out.below' (by repeat (first | exact hB9 | exact Below.refl _ _ | (refine Below.setCell ?_ (by first | omega | (simp; done) | (simp; omega)) _) | (refine Below.alloc ?_ (by first | omega | (simp; done) | (simp; omega)) _) | refine Below.drew ?_))) (HY.out.below' (by repeat (first | exact hB9 | exact Below.refl _ _ | (refine Below.setCell ?_ (by first | omega | (simp; done) | (simp; omega)) _) | (refine Below.alloc ?_ (by first | omega | (simp; done) | (simp; omega)) _) | refine Below.drew ?_))) (HZ.out.below' (by repeat (first | exact hB9 | exact Below.refl _ _ | (refine Below.setCell ?_ (by first | omega | (simp; done) | (simp; omega)) _) | (refine Below.alloc ?_ (by first | omega | (simp; done) | (simp; omega)) _) | refine Below.drew ?_)))).mono ?_
        rintro e w10 ⟨rfl, hb10⟩
        have hB10 : Below w.heap.size w w10 := Below.call (by repeat (first | exact hB9 | exact Below.refl _ _ | (refine Below.setCell ?_ (by first | omega | (simp; done) | (simp; omega)) _) | (refine Below.alloc ?_ (by first | omega | (simp; done) | (simp; omega)) _) | refine Below.drew ?_)) hb10
        have hC10 : Below w4.heap.size w4 w10 := Below.call hC9 hb10
        rcases Bool.eq_false_or_eq_true (rightB m9 nl ns L Ls F T S Z) with hr | hr
        · rw [hr]
          have HWI := Lib.hid (fun i hi => least_within HF.out HL.out H6.out HQ.out hr (i := i) hi)
          obtain ⟨rfl, hLs, _, _⟩ := rightB_ok hr HF.out HL.out
          have HLs := Lib.hid hLs
          clear hr hLs
          go_wp2
          go_loopw [16] (fun v wr => ∃ i : Nat, i ≤ ns ∧ v = .int .i64 i ∧ Below w10.heap.size w10 wr) (fun v _ => ns - (intOf v).toNat)
          case atStart => exact ⟨0, by omega, rfl, Below.refl _ _⟩
          case round =>
            obtain ⟨i, hi, rfl, hB⟩ := hrel
            have hBw := Below.call hB10 hB
            have hCw := Below.call hC10 hB
            by_cases hlt : i < ns
            · have hdi : decide ((i : Int) < ns) = true := by simp; omega
              obtain ⟨b, off, rfl, hb, hc⟩ := H8.out (by omega)
              obtain ⟨b2, off2, rfl, hb2, hc2⟩ := HZ.out (by omega)
              obtain ⟨R, C, e0, hl0, hX0⟩ := hc i hlt
              obtain ⟨R2, C2, e1, hl1, hX1⟩ := hc2 i hlt
              have d0 := Later.cell ((hCw.cell (p := ⟨b, _, none⟩) hb).trans e0) (Nat.lt_of_lt_of_le hb hCw.size)
              have d1 := Later.cell ((hBw.cell (p := ⟨b2, _, none⟩) hb2).trans e1) (Nat.lt_of_lt_of_le hb2 hBw.size)
              have C0 := fun y => rwithin_any _ _ _ _ C C2 _ _ _ hl0 hl1 ((hX0.below' hCw).later y) ((hX1.below' hBw).later y)
              rw [HWI.out i hlt] at C0
              have D0 := Lib.hid C0
              clear hc hc2 e0 e1 hX0 hX1 C0
              go_wp2
              refine wp_region_later (by kernel_rfl) (by kernel_rfl) ?_
              repeat go_big_quiet_step (((go_at_call 17; exact Later.call (D0.out _))))
              refine wpQuiet_nil ?_
              rintro _ ⟨x, rfl⟩
              go_wp2
              go_roundw
              case rel => exact ⟨i + 1, by omega, by go_num, hB.trans (x.below.mono hB.size)⟩
              case measure => simp [intOf]; omega
            · have : i = ns := by omega
              subst this
              have hdi : decide ((i : Int) < i) = false := by simp
              clear hlt
              go_wp2
              go_ret
              exact ⟨rfl, hBw⟩
        · rw [hr]
          clear hr
          go_wp2
          go_ret
          exact ⟨rfl, (by repeat (first | exact hB10 | exact Below.refl _ _ | (refine Below.setCell ?_ (by first | omega | (simp; done) | (simp; omega)) _) | (refine Below.alloc ?_ (by first | omega | (simp; done) | (simp; omega)) _) | refine Below.drew ?_))⟩
    · have q1 : (askV n nl L F T != 0) = true := by simpa using h0
      clear h0
      go_wp2
      go_ret
      exact ⟨rfl, (by repeat (first | exact hB3 | exact Below.refl _ _ | (refine Below.setCell ?_ (by first | omega | (simp; done) | (simp; omega)) _) | (refine Below.alloc ?_ (by first | omega | (simp; done) | (simp; omega)) _) | refine Below.drew ?_))⟩
  · go_wp2
    go_ret
    exact ⟨rfl, (by repeat (first | exact hB2 | exact Below.refl _ _ | (refine Below.setCell ?_ (by first | omega | (simp; done) | (simp; omega)) _) | (refine Below.alloc ?_ (by first | omega | (simp; done) | (simp; omega)) _) | refine Below.drew ?_))⟩

end Go.Proofs.Ytcdbaoejakcemaa
