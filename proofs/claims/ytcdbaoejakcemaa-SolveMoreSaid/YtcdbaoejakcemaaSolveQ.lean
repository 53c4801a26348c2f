/- Layer 20: the chapter's example. No condition. -/
import Derived.Test.YtcdbaoejakcemaaSolveP
namespace Go.Proofs.Ytcdbaoejakcemaa
open Go.RowKit

def exS (i j : Nat) : Bool := decide (0 < i ∧ j = i)
def exX (k j : Nat) : Bool := decide (0 < j ∧ k ≤ j)
def exF (c : Nat) : Int := c
def exT (c : Nat) : Int := c + 1
theorem ex_ask : askV 3 2 (fun _ => 3) exF exT = 0 := by decide
theorem ex_fit : Fit 3 2 exF exT := (ask_zero ex_ask).2.2.2.2
theorem ex_leads {k j : Nat} (hj : j < 3) (h : k ≤ j) : Leads 2 exF exT j k := by
  have h1 : Leads 2 exF exT 2 1 := Leads.one (nl := 2) (F := exF) (T := exT) (c := 1) (by omega) (by decide)
  have h0 : Leads 2 exF exT 1 0 := Leads.one (nl := 2) (F := exF) (T := exT) (c := 0) (by omega) (by decide)
  have : (j = k) ∨ (j = 2 ∧ k = 1) ∨ (j = 1 ∧ k = 0) ∨ (j = 2 ∧ k = 0) := by omega
  rcases this with rfl | ⟨rfl, rfl⟩ | ⟨rfl, rfl⟩ | ⟨rfl, rfl⟩
  · exact .refl _
  · exact h1
  · exact h0
  · exact h1.trans h0
theorem ex_sol : IsSol 3 3 2 exF exT exS exX := by
  refine IsSol.mk (by decide) (by unfold Closed; decide) fun k hk j hj hx => ?_
  have h : 0 < j ∧ k ≤ j := by simpa [exX] using hx
  exact ⟨j, hj, ex_leads hj h.2, by simp [exS, h.1]⟩
theorem ex_not : holdB 3 2 3 (fun _ => 3) (fun _ => 3) exF exT exS exS = false := by decide
theorem ex_right {X : Nat → Nat → Bool} (h : IsSol 3 3 2 exF exT exS X) : holdB 3 2 3 (fun _ => 3) (fun _ => 3) exF exT exS X = true := by
  rw [holdB_ok ex_ask]
  exact rightB_mk rfl (fun _ _ => rfl) (fun k hk j hj hs => h.has hk hj hs) (h.closed ex_fit) ex_fit (fun _ _ => rfl)

theorem sets3 {W : World} {g r0 r1 r2 : Nat} {X : Nat → Nat → Bool} {b00 b01 b02 b10 b11 b12 b20 b21 b22 : Bool} (hg : g < W.heap.size) (h0 : r0 < W.heap.size) (h1 : r1 < W.heap.size) (h2 : r2 < W.heap.size)
    (c0 : W.cell? ⟨g, 0, none⟩ = some (.slice (some ⟨r0, 0, none⟩) 3 3)) (c1 : W.cell? ⟨g, 1, none⟩ = some (.slice (some ⟨r1, 0, none⟩) 3 3)) (c2 : W.cell? ⟨g, 2, none⟩ = some (.slice (some ⟨r2, 0, none⟩) 3 3))
    (x00 : W.cell? ⟨r0, 0, none⟩ = some (.bool b00)) (e00 : X 0 0 = b00) (x01 : W.cell? ⟨r0, 1, none⟩ = some (.bool b01)) (e01 : X 0 1 = b01) (x02 : W.cell? ⟨r0, 2, none⟩ = some (.bool b02)) (e02 : X 0 2 = b02) (x10 : W.cell? ⟨r1, 0, none⟩ = some (.bool b10)) (e10 : X 1 0 = b10) (x11 : W.cell? ⟨r1, 1, none⟩ = some (.bool b11)) (e11 : X 1 1 = b11) (x12 : W.cell? ⟨r1, 2, none⟩ = some (.bool b12)) (e12 : X 1 2 = b12) (x20 : W.cell? ⟨r2, 0, none⟩ = some (.bool b20)) (e20 : X 2 0 = b20) (x21 : W.cell? ⟨r2, 1, none⟩ = some (.bool b21)) (e21 : X 2 1 = b21) (x22 : W.cell? ⟨r2, 2, none⟩ = some (.bool b22)) (e22 : X 2 2 = b22) : Sets W (some ⟨g, 0, none⟩) 3 (fun _ => 3) X := by
  intro _
  refine ⟨g, 0, rfl, hg, fun i hi => ?_⟩
  have : i = 0 ∨ i = 1 ∨ i = 2 := by omega
  rcases this with rfl | rfl | rfl
  · refine ⟨_, _, c0, by decide, fun _ => ⟨r0, 0, rfl, h0, fun j hj => ?_⟩⟩
    have hj' : j < 3 := hj
    have : j = 0 ∨ j = 1 ∨ j = 2 := by omega
    rcases this with rfl | rfl | rfl
    · rw [e00]; exact x00
    · rw [e01]; exact x01
    · rw [e02]; exact x02
  · refine ⟨_, _, c1, by decide, fun _ => ⟨r1, 0, rfl, h1, fun j hj => ?_⟩⟩
    have hj' : j < 3 := hj
    have : j = 0 ∨ j = 1 ∨ j = 2 := by omega
    rcases this with rfl | rfl | rfl
    · rw [e10]; exact x10
    · rw [e11]; exact x11
    · rw [e12]; exact x12
  · refine ⟨_, _, c2, by decide, fun _ => ⟨r2, 0, rfl, h2, fun j hj => ?_⟩⟩
    have hj' : j < 3 := hj
    have : j = 0 ∨ j = 1 ∨ j = 2 := by omega
    rcases this with rfl | rfl | rfl
    · rw [e20]; exact x20
    · rw [e21]; exact x21
    · rw [e22]; exact x22

/-- What the example is. -/
def ExRet (w : World) (e : Ending) (w' : World) : Prop :=
  ∃ Ab Al, e = .returned (.tuple #[.slice Ab 3 3, .slice Al 2 2]) ∧ Sets w' Ab 3 (fun _ => 3) exS ∧ Cons w' Al 2 exF exT (fun _ => 0) (fun _ => 0) ∧ Below w.heap.size w w'

set_option maxHeartbeats 1000000 in
theorem example_any (w : World) : Calls Try.prog 24 #[] w (ExRet w) := by
  go_enter Try.func24, Try.ntmps24
  go_wp2
  go_ret2
  refine ⟨_, _, rfl, ?_, ?_, (by repeat (first | exact Below.refl _ _ | (refine Below.setCell ?_ (by first | omega | (simp; done) | (simp; omega)) _) | (refine Below.alloc ?_ (by first | omega | (simp; done) | (simp; omega)) _) | refine Below.drew ?_))⟩
  · exact sets3 (g := w.heap.size + 3) (r0 := w.heap.size) (r1 := w.heap.size + 1) (r2 := w.heap.size + 2) (by first | omega | (simp; done) | (simp; omega)) (by first | omega | (simp; done) | (simp; omega)) (by first | omega | (simp; done) | (simp; omega)) (by first | omega | (simp; done) | (simp; omega)) (by go_simp) (by go_simp) (by go_simp) (by go_simp; decide) rfl (by go_simp; decide) rfl (by go_simp; decide) rfl (by go_simp; decide) rfl (by go_simp; decide) rfl (by go_simp; decide) rfl (by go_simp; decide) rfl (by go_simp; decide) rfl (by go_simp; decide) rfl
  · intro _
    refine ⟨_, 0, rfl, (by first | omega | (simp; done) | (simp; omega)), fun i hi => ?_⟩
    have : i = 0 ∨ i = 1 := by omega
    rcases this with rfl | rfl
    · exact ⟨by go_simp; rfl, by go_simp; rfl, by go_simp, by go_simp⟩
    · exact ⟨by go_simp; rfl, by go_simp; rfl, by go_simp, by go_simp⟩

set_option maxRecDepth 100000 in
set_option maxHeartbeats 4000000 in
theorem alive_any (w : World) : Calls Try.prog 14 #[] w (Ret w (.bool true)) := by
  have EA := Lib.hid ex_ask
  go_enter Try.func14, Try.ntmps14
  go_wp2_with fail
  refine (example_any _).mono ?_
  rintro e w1 ⟨Ab, Al, rfl, hS1, hC1, hb1⟩
  have hB1 : Below w.heap.size w w1 := Below.call (by repeat (first | exact Below.refl _ _ | (refine Below.setCell ?_ (by first | omega | (simp; done) | (simp; omega)) _) | (refine Below.alloc ?_ (by first | omega | (simp; done) | (simp; omega)) _) | refine Below.drew ?_)) hb1
  have HX := Lib.hid hS1
  have HY := Lib.hid hC1
  clear hS1 hC1
  go_wp2_with fail
  refine (least_any Ab Al 3 2 3 2 (fun _ => 3) exS exF exT (fun _ => 0) (fun _ => 0) _ (by simp [maxLen]) (by simp [maxLen]) (HX.out.below' (Below.refl _ _)) (HY.out.below' (Below.refl _ _))).mono ?_
  rintro e w2 ⟨A8, c8, m8, X8, rfl, _, hs8, hok8, _, hb2⟩
  have hB2 : Below w.heap.size w w2 := Below.call hB1 hb2
  obtain ⟨rfl, hsol⟩ := hok8 EA.out
  have H8 := Lib.hid hs8
  have HQ := Lib.hid (ex_right hsol)
  have HSA := Lib.hid (sameAllB_ok (n := 3) (m := 3) (L := fun _ => 3) (L' := fun _ => 3) (S := X8) (S' := exX) rfl (fun _ _ => rfl) (fun i hi j hj => hsol.same ex_sol i hi j hj))
  rw [EA.out]
  clear hs8 hok8 hsol
  go_wp2_with fail
  refine (holds_any Ab Al A8 3 2 3 3 2 c8 (fun _ => 3) (fun _ => 3) exS X8 exF exT (fun _ => 0) (fun _ => 0) _ (by simp [maxLen]) (by simp [maxLen]) (by simp [maxLen]) (HX.out.below' hb2) (HY.out.below' hb2) (H8.out.below' (Below.refl _ _))).mono ?_
  rintro e w3 ⟨rfl, hb3⟩
  have hB3 : Below w.heap.size w w3 := Below.call hB2 hb3
  have hC3 : Below w1.heap.size w1 w3 := Below.call hb2 hb3
  rw [HQ.out, EA.out]
  go_wp2_with fail
  refine (holds_any Ab Al Ab 3 2 3 3 2 3 (fun _ => 3) (fun _ => 3) exS exS exF exT (fun _ => 0) (fun _ => 0) _ (by simp [maxLen]) (by simp [maxLen]) (by simp [maxLen]) (HX.out.below' hC3) (HY.out.below' hC3) (HX.out.below' hC3)).mono ?_
  rintro e w4 ⟨rfl, hb4⟩
  have hB4 : Below w.heap.size w w4 := Below.call hB3 hb4
  have hC4 : Below w2.heap.size w2 w4 := Below.call hb3 hb4
  have hD4 := hC4.size
  have hS4 := hB4.size
  rw [ex_not, EA.out]
  go_wp2_with fail
  refine (sameAll_any A8 _ 3 3 c8 3 (fun _ => 3) (fun _ => 3) X8 exX _ (by simp [maxLen]) (by simp [maxLen]) (H8.out.below' (by repeat (first | exact hC4 | exact Below.refl _ _ | (refine Below.setCell ?_ (by first | omega | (simp; done) | (simp; omega)) _) | (refine Below.alloc ?_ (by first | omega | (simp; done) | (simp; omega)) _) | refine Below.drew ?_))) (sets3 (g := w4.heap.size + 3) (r0 := w4.heap.size) (r1 := w4.heap.size + 1) (r2 := w4.heap.size + 2) (by first | omega | (simp; done) | (simp; omega)) (by first | omega | (simp; done) | (simp; omega)) (by first | omega | (simp; done) | (simp; omega)) (by first | omega | (simp; done) | (simp; omega)) (by go_simp) (by go_simp) (by go_simp) (by go_simp; decide) rfl (by go_simp; decide) rfl (by go_simp; decide) rfl (by go_simp; decide) rfl (by go_simp; decide) rfl (by go_simp; decide) rfl (by go_simp; decide) rfl (by go_simp; decide) rfl (by go_simp; decide) rfl)).mono ?_
  rintro e w5 ⟨rfl, hb5⟩
  have hB5 : Below w.heap.size w w5 := Below.call (by repeat (first | exact hB4 | exact Below.refl _ _ | (refine Below.setCell ?_ (by first | omega | (simp; done) | (simp; omega)) _) | (refine Below.alloc ?_ (by first | omega | (simp; done) | (simp; omega)) _) | refine Below.drew ?_)) hb5
  rw [HSA.out]
  go_wp2
  go_ret
  exact ⟨rfl, hB5⟩

end Go.Proofs.Ytcdbaoejakcemaa
