/- Layer 20: Least at every input; the statement SolveLeasts: its walk. No condition. -/
import Derived.Test.YtcdbaoejakcemaaSolveO
namespace Go.Proofs.Ytcdbaoejakcemaa
open Go.RowKit

set_option maxHeartbeats 1000000 in
theorem least_any (A A' : Option Addr) (n nl c c' : Nat) (L : Nat → Nat) (S : Nat → Nat → Bool) (F T N Y : Nat → Int) (w : World) (hn : n ≤ maxLen) (hl : nl ≤ maxLen) (hX : Sets w A n L S) (hY : Cons w A' nl F T N Y) :
    Calls Try.prog 9 #[.slice A n c, .slice A' nl c'] w (LeastRet w n nl L F T S) := by
  by_cases h1 : askV n nl L F T = 0
  · obtain ⟨y1, y2, y3, y4, y5⟩ := ask_zero h1
    exact least_good A A' n nl c c' L S F T N Y w y1 y2 y4 y3 y5 h1 hX hY
  · have C1 := fun W (h : Sets W A n L S) (h' : Cons W A' nl F T N Y) => scheck_any A A' n nl c c' L S F T N Y W hn hl h h'
    have HX := Lib.hid hX
    have HY := Lib.hid hY
    have q1 : (askV n nl L F T != 0) = true := by simpa using h1
    have D1 := Lib.hid C1
    have H1 := Lib.hid h1
    clear h1 C1 hX hY
    go_enter Try.func9, Try.ntmps9
    go_wp2
    go_step3
    go_wp2_with fail
    refine (D1.out _ (HX.out.below' (by repeat (first | exact Below.refl _ _ | (refine Below.setCell ?_ (by first | omega | (simp; done) | (simp; omega)) _) | (refine Below.alloc ?_ (by first | omega | (simp; done) | (simp; omega)) _) | refine Below.drew ?_))) (HY.out.below' (by repeat (first | exact Below.refl _ _ | (refine Below.setCell ?_ (by first | omega | (simp; done) | (simp; omega)) _) | (refine Below.alloc ?_ (by first | omega | (simp; done) | (simp; omega)) _) | refine Below.drew ?_)))).mono ?_
    rintro e w1 ⟨rfl, hb1⟩
    have hB1 : Below w.heap.size w w1 := Below.call (by repeat (first | exact Below.refl _ _ | (refine Below.setCell ?_ (by first | omega | (simp; done) | (simp; omega)) _) | (refine Below.alloc ?_ (by first | omega | (simp; done) | (simp; omega)) _) | refine Below.drew ?_)) hb1
    have hS1 : w.heap.size ≤ w1.heap.size := hB1.size
    obtain ⟨hc1, hf1⟩ := bcell hb1
    clear hc1 hf1
    go_wp2
    try rw [Exit.noGoto_ret]
    go_ret2
    exact ⟨none, 0, 0, S, rfl, by simp [maxLen], Sets.of_none, fun h => absurd h H1.out, fun _ => rfl, (by repeat (first | exact hB1 | exact Below.refl _ _ | (refine Below.setCell ?_ (by first | omega | (simp; done) | (simp; omega)) _) | (refine Below.alloc ?_ (by first | omega | (simp; done) | (simp; omega)) _) | refine Below.drew ?_))⟩

theorem withinB_congr {n : Nat} {X X' Y Y' : Nat → Bool} (h : ∀ j, j < n → X j = X' j) (h' : ∀ j, j < n → Y j = Y' j) : withinB n X Y = withinB n X' Y' := by
  rw [Bool.eq_iff_iff]
  simp only [withinB, decide_eq_true_eq]
  exact ⟨fun q j hj hx => by rw [← h' j hj]; exact q j hj (by rw [h j hj]; exact hx), fun q j hj hx => by rw [h' j hj]; exact q j hj (by rw [← h j hj]; exact hx)⟩
theorem holdB_congr {n nl ns : Nat} {L Ls : Nat → Nat} {F T : Nat → Int} {S S' Z : Nat → Nat → Bool} (h : ∀ i, i < n → ∀ j, j < L i → S' i j = S i j) : holdB n nl ns L Ls F T S' Z = holdB n nl ns L Ls F T S Z := by
  have e : ∀ i, i < n → withinB (L i) (S' i) (Z i) = withinB (L i) (S i) (Z i) := fun i hi => withinB_congr (h i hi) (fun _ _ => rfl)
  unfold holdB rightB
  rw [Bool.eq_iff_iff]
  simp only [Bool.and_eq_true, decide_eq_true_eq]
  constructor
  · rintro ⟨h1, ⟨h2, h3⟩, h4⟩
    exact ⟨h1, ⟨h2, fun i hi => ⟨(h3 i hi).1, by rw [← e i hi]; exact (h3 i hi).2⟩⟩, h4⟩
  · rintro ⟨h1, ⟨h2, h3⟩, h4⟩
    exact ⟨h1, ⟨h2, fun i hi => ⟨(h3 i hi).1, by rw [e i hi]; exact (h3 i hi).2⟩⟩, h4⟩

theorem least_same {n nl m m' : Nat} {L : Nat → Nat} {F T : Nat → Int} {S S' X X' : Nat → Nat → Bool} (hS : ∀ i, i < n → ∀ j, j < L i → S' i j = S i j)
    (h1 : askV n nl L F T = 0 → m = n ∧ IsSol n (L 0) nl F T S X) (h2 : askV n nl L F T ≠ 0 → m = 0) (h3 : askV n nl L F T = 0 → m' = n ∧ IsSol n (L 0) nl F T S' X') (h4 : askV n nl L F T ≠ 0 → m' = 0) : sameAllB m m' L L X X' = true := by
  by_cases h : askV n nl L F T = 0
  · obtain ⟨rfl, y1⟩ := h1 h
    obtain ⟨rfl, y2⟩ := h3 h
    obtain ⟨_, _, _, hL, _⟩ := ask_zero h
    refine sameAllB_ok rfl (fun _ _ => rfl) fun i hi j hj => ?_
    rw [hL i hi] at hj
    exact y1.same (y2.congr fun k hk b hb => hS k hk b (by rw [hL k hk]; exact hb)) i hi j hj
  · rw [h2 h, h4 h]
    exact sameAllB_ok rfl (fun i hi => by omega) (fun i hi => by omega)

set_option maxRecDepth 100000 in
set_option maxHeartbeats 4000000 in
theorem leasts_walk (A A' A2 : Option Addr) (n nl ns c c' c2 : Nat) (L Ls : Nat → Nat) (S Z : Nat → Nat → Bool) (F T N Y : Nat → Int) (w : World) (hn : n ≤ maxLen) (hl : nl ≤ maxLen) (hs : ns ≤ maxLen)
    (hX : Sets w A n L S) (hY : Cons w A' nl F T N Y) (hZ : Sets w A2 ns Ls Z) :
    Calls Try.prog 3 #[.slice A n c, .slice A' nl c', .slice A2 ns c2] w (Ret w (.bool true)) := by
  have hs' := hs
  unfold maxLen at hs'
  have HX := Lib.hid hX
  have HY := Lib.hid hY
  have HZ := Lib.hid hZ
  clear hX hY hZ
  go_enter Try.func3, Try.ntmps3
  go_wp2_with fail
  refine (great_any A A' n nl c c' L S _ hn hl (HX.out.below' (by repeat (first | exact Below.refl _ _ | (refine Below.setCell ?_ (by first | omega | (simp; done) | (simp; omega)) _) | (refine Below.alloc ?_ (by first | omega | (simp; done) | (simp; omega)) _) | refine Below.drew ?_)))).mono ?_
  rintro e w1 ⟨g, rfl, hg, hb1⟩
  have hB1 : Below w.heap.size w w1 := Below.call (by repeat (first | exact Below.refl _ _ | (refine Below.setCell ?_ (by first | omega | (simp; done) | (simp; omega)) _) | (refine Below.alloc ?_ (by first | omega | (simp; done) | (simp; omega)) _) | refine Below.drew ?_)) hb1
  cases g
  · obtain ⟨h1, h2, h3⟩ := hg rfl
    have H3 := Lib.hid h3
    clear hg h3
    by_cases h40 : 40 < ns
    · have q1 : decide (40 < (ns : Int)) = true := by simp; omega
      go_wp2
      go_ret
      exact ⟨rfl, (by repeat (first | exact hB1 | exact Below.refl _ _ | (refine Below.setCell ?_ (by first | omega | (simp; done) | (simp; omega)) _) | (refine Below.alloc ?_ (by first | omega | (simp; done) | (simp; omega)) _) | refine Below.drew ?_))⟩
    · have q1 : decide (40 < (ns : Int)) = false := by simp; omega
      clear h40
      go_wp2_with fail
      refine (twin_any A n c L S _ h1 H3.out (HX.out.below' (by repeat (first | exact hB1 | exact Below.refl _ _ | (refine Below.setCell ?_ (by first | omega | (simp; done) | (simp; omega)) _) | (refine Below.alloc ?_ (by first | omega | (simp; done) | (simp; omega)) _) | refine Below.drew ?_)))).mono ?_
      rintro e w2 ⟨v7, V7, S7, rfl, hO7, hS7, hb2⟩
      have hB2 : Below w.heap.size w w2 := Below.call (by repeat (first | exact hB1 | exact Below.refl _ _ | (refine Below.setCell ?_ (by first | omega | (simp; done) | (simp; omega)) _) | (refine Below.alloc ?_ (by first | omega | (simp; done) | (simp; omega)) _) | refine Below.drew ?_)) hb2
      obtain ⟨A7, c7, rfl, _, _, hs7⟩ := hO7.sets
      have H7 := Lib.hid hs7
      have HS7 := Lib.hid hS7
      clear hO7 hs7 hS7
      go_wp2_with fail
      refine (least_any A A' n nl c c' L S F T N Y _ hn hl (HX.out.below' (by repeat (first | exact hB2 | exact Below.refl _ _ | (refine Below.setCell ?_ (by first | omega | (simp; done) | (simp; omega)) _) | (refine Below.alloc ?_ (by first | omega | (simp; done) | (simp; omega)) _) | refine Below.drew ?_))) (HY.out.below' (by repeat (first | exact hB2 | exact Below.refl _ _ | (refine Below.setCell ?_ (by first | omega | (simp; done) | (simp; omega)) _) | (refine Below.alloc ?_ (by first | omega | (simp; done) | (simp; omega)) _) | refine Below.drew ?_)))).mono ?_
      rintro e w3 ⟨A8, c8, m8, X8, rfl, hm8, hs8, hok8, hbad8, hb3⟩
      have hB3 : Below w.heap.size w w3 := Below.call (by repeat (first | exact hB2 | exact Below.refl _ _ | (refine Below.setCell ?_ (by first | omega | (simp; done) | (simp; omega)) _) | (refine Below.alloc ?_ (by first | omega | (simp; done) | (simp; omega)) _) | refine Below.drew ?_)) hb3
      have hC3 : Below w2.heap.size w2 w3 := hb3
      have H8 := Lib.hid hs8
      have HK8 := Lib.hid hok8
      have HN8 := Lib.hid hbad8
      clear hs8 hok8 hbad8
      go_wp2_with fail
      refine (rleast_any A7 A' n nl c7 c' L S7 F T N Y _ hn hl (H7.out.below' hC3) (HY.out.below' (by repeat (first | exact hB3 | exact Below.refl _ _ | (refine Below.setCell ?_ (by first | omega | (simp; done) | (simp; omega)) _) | (refine Below.alloc ?_ (by first | omega | (simp; done) | (simp; omega)) _) | refine Below.drew ?_)))).mono ?_
      rintro e w4 ⟨A10, c10, m10, X10, rfl, hm10, hs10, hok10, hbad10, hb4⟩
      have hB4 : Below w.heap.size w w4 := Below.call (by repeat (first | exact hB3 | exact Below.refl _ _ | (refine Below.setCell ?_ (by first | omega | (simp; done) | (simp; omega)) _) | (refine Below.alloc ?_ (by first | omega | (simp; done) | (simp; omega)) _) | refine Below.drew ?_)) hb4
      have hC4 : Below w2.heap.size w2 w4 := Below.call hC3 hb4
      have H10 := Lib.hid hs10
      have HSA := Lib.hid (least_same HS7.out HK8.out HN8.out hok10 hbad10)
      clear hs10 hok10 hbad10
      go_wp2_with fail
      refine (holds_any A A' A2 n nl ns c c' c2 L Ls S Z F T N Y _ hn hl hs (HX.out.below' (by repeat (first | exact hB4 | exact Below.refl _ _ | (refine Below.setCell ?_ (by first | omega | (simp; done) | (simp; omega)) _) | (refine Below.alloc ?_ (by first | omega | (simp; done) | (simp; omega)) _) | refine Below.drew ?_))) (HY.out.below' (by repeat (first | exact hB4 | exact Below.refl _ _ | (refine Below.setCell ?_ (by first | omega | (simp; done) | (simp; omega)) _) | (refine Below.alloc ?_ (by first | omega | (simp; done) | (simp; omega)) _) | refine Below.drew ?_))) (HZ.out.below' (by repeat (first | exact hB4 | exact Below.refl _ _ | (refine Below.setCell ?_ (by first | omega | (simp; done) | (simp; omega)) _) | (refine Below.alloc ?_ (by first | omega | (simp; done) | (simp; omega)) _) | refine Below.drew ?_)))).mono ?_
      rintro e w5 ⟨rfl, hb5⟩
      have hB5 : Below w.heap.size w w5 := Below.call (by repeat (first | exact hB4 | exact Below.refl _ _ | (refine Below.setCell ?_ (by first | omega | (simp; done) | (simp; omega)) _) | (refine Below.alloc ?_ (by first | omega | (simp; done) | (simp; omega)) _) | refine Below.drew ?_)) hb5
      have hS5 : w.heap.size ≤ w5.heap.size := hB5.size
      obtain ⟨hc5, hf5⟩ := bcell hb5
      clear hc5 hf5
      have hC5 : Below w2.heap.size w2 w5 := Below.call hC4 hb5
      go_wp2_with fail
      refine (rholds_any A7 A' A2 n nl ns c7 c' c2 L Ls S7 Z F T N Y _ hn hl hs (H7.out.below' hC5) (HY.out.below' (by repeat (first | exact hB5 | exact Below.refl _ _ | (refine Below.setCell ?_ (by first | omega | (simp; done) | (simp; omega)) _) | (refine Below.alloc ?_ (by first | omega | (simp; done) | (simp; omega)) _) | refine Below.drew ?_))) (HZ.out.below' (by repeat (first | exact hB5 | exact Below.refl _ _ | (refine Below.setCell ?_ (by first | omega | (simp; done) | (simp; omega)) _) | (refine Below.alloc ?_ (by first | omega | (simp; done) | (simp; omega)) _) | refine Below.drew ?_)))).mono ?_
      rintro e w6 ⟨rfl, hb6⟩
      have hB6 : Below w.heap.size w w6 := Below.call (by repeat (first | exact hB5 | exact Below.refl _ _ | (refine Below.setCell ?_ (by first | omega | (simp; done) | (simp; omega)) _) | (refine Below.alloc ?_ (by first | omega | (simp; done) | (simp; omega)) _) | refine Below.drew ?_)) hb6
      have hC6 : Below w2.heap.size w2 w6 := Below.call hC5 hb6
      rw [holdB_congr HS7.out]
      go_wp2_with fail
      refine (sameAll_any A8 A10 m8 m10 c8 c10 L L X8 X10 _ hm8 hm10 ((H8.out.below' hb4).below' (Below.call hb5 hb6)) (H10.out.below' (Below.call hb5 hb6))).mono ?_
      rintro e w7 ⟨rfl, hb7⟩
      have hB7 : Below w.heap.size w w7 := Below.call (by repeat (first | exact hB6 | exact Below.refl _ _ | (refine Below.setCell ?_ (by first | omega | (simp; done) | (simp; omega)) _) | (refine Below.alloc ?_ (by first | omega | (simp; done) | (simp; omega)) _) | refine Below.drew ?_)) hb7
      have hS7 : w.heap.size ≤ w7.heap.size := hB7.size
      obtain ⟨hc7, hf7⟩ := bcell hb7
      rw [HSA.out]
      clear hc7 hf7
      have hC7 : Below w2.heap.size w2 w7 := Below.call hC6 hb7
      go_wp2_with fail
      refine (sameAll_any A A7 n n c c7 L L S S7 _ hn hn (HX.out.below' (by repeat (first | exact hB7 | exact Below.refl _ _ | (refine Below.setCell ?_ (by first | omega | (simp; done) | (simp; omega)) _) | (refine Below.alloc ?_ (by first | omega | (simp; done) | (simp; omega)) _) | refine Below.drew ?_))) (H7.out.below' hC7)).mono ?_
      rintro e w8 ⟨rfl, hb8⟩
      have hB8 : Below w.heap.size w w8 := Below.call (by repeat (first | exact hB7 | exact Below.refl _ _ | (refine Below.setCell ?_ (by first | omega | (simp; done) | (simp; omega)) _) | (refine Below.alloc ?_ (by first | omega | (simp; done) | (simp; omega)) _) | refine Below.drew ?_)) hb8
      have hS8 : w.heap.size ≤ w8.heap.size := hB8.size
      obtain ⟨hc8, hf8⟩ := bcell hb8
      rw [sameAllB_ok rfl (fun _ _ => rfl) (fun i hi j hj => (HS7.out i hi j hj).symm)]
      clear hc8 hf8
      go_wp2
      go_ret
      exact ⟨rfl, (by repeat (first | exact hB8 | exact Below.refl _ _ | (refine Below.setCell ?_ (by first | omega | (simp; done) | (simp; omega)) _) | (refine Below.alloc ?_ (by first | omega | (simp; done) | (simp; omega)) _) | refine Below.drew ?_))⟩
  · go_wp2
    go_ret
    exact ⟨rfl, (by repeat (first | exact hB1 | exact Below.refl _ _ | (refine Below.setCell ?_ (by first | omega | (simp; done) | (simp; omega)) _) | (refine Below.alloc ?_ (by first | omega | (simp; done) | (simp; omega)) _) | refine Below.drew ?_))⟩

end Go.Proofs.Ytcdbaoejakcemaa
