/- The chapter's example of layer 13. No condition. -/
import Derived.Test.YtmjklmdjlojmlaaPlaceD
import Derived.Deep.RegionHeld3
import Derived.Deep.DrawnRows
import Derived.Deep.DeepCutAuto
namespace Go.Proofs.Ytmjklmdjlojmlaa
open Go.RowKit
attribute [local go_sem ↓] Go.wp_at_zero Go.wp_at_succ

def exK (i : Nat) : Int := if i = 0 then 1 else if i = 1 then 2 else 4
def exT (i : Nat) : Int := if i = 0 then 0 else if i = 1 then 0 else 2
def exCells : Array Value := #[.int .u8 1, .int .u8 0, .int .u8 2, .int .u8 0, .int .u8 4, .int .u8 2]

set_option maxHeartbeats 400000 in
theorem example_any (w : World) : Calls Try.prog 20 #[] w fun e w' => e = .returned (.slice (some ⟨w.heap.size, 0, none⟩) 3 3) ∧ w.alloc (.cells exCells 27) = w' := by
  go_enter Try.func20, Try.ntmps20
  go_wp2
  go_ret
  exact ⟨rfl, rfl⟩

theorem ex_types (w : World) : Types (w.alloc (.cells exCells 27)) (some ⟨w.heap.size, 0, none⟩) 3 exK exT := by
  intro _
  refine ⟨_, _, rfl, by simp, fun i hi => ?_⟩
  have : i = 0 ∨ i = 1 ∨ i = 2 := by omega
  rcases this with rfl | rfl | rfl <;> simp [exK, exT, exCells]

theorem exAt (W : World) (b : Nat) (hb : b = W.heap.size) : Types (W.alloc (.cells exCells 27)) (some ⟨b, 0, none⟩) 3 exK exT := by
  subst hb; exact ex_types W

set_option maxHeartbeats 1000000 in
theorem is_any (l f k at_ size : Int) (d : Bool) (w : World) (b4 : 0 ≤ f) (H1 : Hid (ptE 3 exK exT l d f = 0)) (H2 : Hid (ptK 3 exK exT l d f = k)) (H3 : Hid (ptT 3 exK exT l d f = 0)) (H4 : Hid (pcA 3 exK exT l d f = at_)) (H5 : Hid (pcS 3 exK exT l d f = size)) :
    Calls Try.prog 23 #[.agg #[.int .i64 l, .bool d, .int .u8 f], .int .u8 k, .int .i64 at_, .int .i64 size] w (Ret w (.bool true)) := by
  have C1 := fun (A : Option Addr) (W : World) (h : Types W A 3 exK exT) => ptype_any A 3 3 exK exT l f d W (by decide) h b4
  have C2 := fun (A : Option Addr) (W : World) (h : Types W A 3 exK exT) => pcells_any A 3 3 exK exT l f d W (by decide) h b4
  rw [H1.out, H2.out, H3.out] at C1
  rw [H1.out, H4.out, H5.out] at C2
  have D1 := Lib.hid C1
  have D2 := Lib.hid C2
  clear C1 C2 H1 H2 H3 H4 H5
  go_enter Try.func23, Try.ntmps23
  go_upto_region 1 with fail
  go_cut [9, 10] (fun s9 s10 wx => ∃ g : Nat, s9 = .pointer (some ⟨g, 0, none⟩) ∧ s10 = .int .i64 0 ∧ w.heap.size < g ∧ g < wx.heap.size ∧ wx.cell? ⟨g, 0, none⟩ = some (.int .u8 k) ∧ wx.cell? ⟨g, 1, none⟩ = some (.int .u8 0) ∧
    Below w.heap.size w wx ∧ wx.cell? ⟨w.heap.size, 0, none⟩ = some (.int .i64 l) ∧ wx.cell? ⟨w.heap.size, 1, none⟩ = some (.bool d) ∧ wx.cell? ⟨w.heap.size, 2, none⟩ = some (.int .u8 f))
  case first =>
    go_region_held3 (fun w' => w'.cell? ⟨w.heap.size, 0, none⟩ = some (.int .i64 l) ∧ w'.cell? ⟨w.heap.size, 1, none⟩ = some (.bool d) ∧ w'.cell? ⟨w.heap.size, 2, none⟩ = some (.int .u8 f)) (first | go_keep | (refine ⟨?_, ?_, ?_⟩ <;> go_simp))
      (first | (go_at_call 20; refine (example_any _).mono ?_; rintro e w1 ⟨rfl, rfl⟩) | (go_at_call 10; refine (D1.out _ _ (by repeat (first | exact exAt _ _ (by simp) | refine Types.alloc ?_ _ | refine Types.drew ?_))).mono ?_; rintro e w1 ⟨rfl, hb1⟩; obtain ⟨hc1, hf1⟩ := bcell hb1; have hB1 : Below w.heap.size w w1 := Below.call (by repeat (first | exact Below.refl _ _ | (refine Below.setCell ?_ (by first | omega | (simp; done) | (simp; omega)) _) | (refine Below.alloc ?_ (by first | omega | (simp; done) | (simp; omega)) _) | refine Below.drew ?_)) hb1; have hS1 := hb1.size; have q0 : w1.cell? ⟨w.heap.size, 0, none⟩ = some (.int .i64 l) := (hb1.cell (p := ⟨w.heap.size, 0, none⟩) (by first | omega | (simp; done) | (simp; omega))).trans (by go_simp); have q1 : w1.cell? ⟨w.heap.size, 1, none⟩ = some (.bool d) := (hb1.cell (p := ⟨w.heap.size, 1, none⟩) (by first | omega | (simp; done) | (simp; omega))).trans (by go_simp); have q2 : w1.cell? ⟨w.heap.size, 2, none⟩ = some (.int .u8 f) := (hb1.cell (p := ⟨w.heap.size, 2, none⟩) (by first | omega | (simp; done) | (simp; omega))).trans (by go_simp)))
    all_goals
      go_wp2_with fail
      go_meet
      simp at hS1
      refine ⟨_, rfl, rfl, ?_, ?_, ?_, ?_, ?_, ?_, ?_, ?_⟩
      all_goals first | omega | (go_simp; done) | (simp; omega) | exact (by repeat (first | exact hB1 | exact Below.refl _ _ | (refine Below.setCell ?_ (by first | omega | (simp; done) | (simp; omega)) _) | (refine Below.alloc ?_ (by first | omega | (simp; done) | (simp; omega)) _) | refine Below.drew ?_))
  case rest =>
    obtain ⟨g, rfl, rfl, hg, hgw, c0, c1, hB0, d0, d1, d2⟩ := hcut
    have hS0 := hB0.size
    go_upto_region 2 with fail
    go_cut [11, 12, 13] (fun s11 s12 s13 wy => s11 = .int .i64 at_ ∧ s12 = .int .i64 size ∧ s13 = .int .i64 0 ∧ wy.cell? ⟨g, 0, none⟩ = some (.int .u8 k) ∧ wy.cell? ⟨g, 1, none⟩ = some (.int .u8 0) ∧ Below w.heap.size w wy)
    case first =>
      have hw0 := Nat.lt_trans hg hgw
      go_region_held3 (fun w' => w'.cell? ⟨w.heap.size, 0, none⟩ = some (.int .i64 l) ∧ w'.cell? ⟨w.heap.size, 1, none⟩ = some (.bool d) ∧ w'.cell? ⟨w.heap.size, 2, none⟩ = some (.int .u8 f)) (first | go_keep | (refine ⟨?_, ?_, ?_⟩ <;> go_simp))
        (first | (go_at_call 20; refine (example_any _).mono ?_; rintro e w2 ⟨rfl, rfl⟩) | (go_at_call 11; refine (D2.out _ _ (by repeat (first | exact exAt _ _ (by simp) | refine Types.alloc ?_ _ | refine Types.drew ?_))).mono ?_; rintro e w2 ⟨rfl, hb2⟩; have hB2 : Below w.heap.size w w2 := Below.call (by repeat (first | exact hB0 | (refine Below.setCell ?_ (by first | omega | (simp; done) | (simp; omega)) _) | (refine Below.alloc ?_ (by first | omega | (simp; done) | (simp; omega)) _) | refine Below.drew ?_)) hb2; have q0 : w2.cell? ⟨w.heap.size, 0, none⟩ = some (.int .i64 l) := (hb2.cell (p := ⟨w.heap.size, 0, none⟩) (by first | omega | (simp; done) | (simp; omega))).trans (by go_simp); have q1 : w2.cell? ⟨w.heap.size, 1, none⟩ = some (.bool d) := (hb2.cell (p := ⟨w.heap.size, 1, none⟩) (by first | omega | (simp; done) | (simp; omega))).trans (by go_simp); have q2 : w2.cell? ⟨w.heap.size, 2, none⟩ = some (.int .u8 f) := (hb2.cell (p := ⟨w.heap.size, 2, none⟩) (by first | omega | (simp; done) | (simp; omega))).trans (by go_simp); have q3 : w2.cell? ⟨g, 0, none⟩ = some (.int .u8 k) := (hb2.cell (p := ⟨g, 0, none⟩) (by first | omega | (simp; done) | (simp; omega))).trans (by go_simp); have q4 : w2.cell? ⟨g, 1, none⟩ = some (.int .u8 0) := (hb2.cell (p := ⟨g, 1, none⟩) (by first | omega | (simp; done) | (simp; omega))).trans (by go_simp)))
      all_goals
        go_wp2_with fail
        go_meet
        exact ⟨rfl, rfl, rfl, q3, q4, hB2⟩
    case rest =>
      obtain ⟨rfl, rfl, rfl, c0, c1, hB⟩ := hcut
      go_wp2
      go_ret
      exact ⟨rfl, hB⟩

set_option maxHeartbeats 1000000 in
theorem palive_any (w : World) : Calls Try.prog 9 #[] w (Ret w (.bool true)) := by
  have C1 := fun (A : Option Addr) (W : World) (h : Types W A 3 exK exT) => ptype_any A 3 3 exK exT 1 0 true W (by decide) h (by omega)
  have C2 := fun (A : Option Addr) (W : World) (h : Types W A 3 exK exT) => ptype_any A 3 3 exK exT 0 1 false W (by decide) h (by omega)
  have C3 := fun (A : Option Addr) (W : World) (h : Types W A 3 exK exT) => ptype_any A 3 3 exK exT 3 0 false W (by decide) h (by omega)
  rw [show ptE 3 exK exT 1 true 0 = 42 from by decide, show ptK 3 exK exT 1 true 0 = 0 from by decide, show ptT 3 exK exT 1 true 0 = 0 from by decide] at C1
  rw [show ptE 3 exK exT 0 false 1 = 42 from by decide, show ptK 3 exK exT 0 false 1 = 0 from by decide, show ptT 3 exK exT 0 false 1 = 0 from by decide] at C2
  rw [show ptE 3 exK exT 3 false 0 = 6 from by decide, show ptK 3 exK exT 3 false 0 = 0 from by decide, show ptT 3 exK exT 3 false 0 = 0 from by decide] at C3
  have D1 := Lib.hid C1
  have D2 := Lib.hid C2
  have D3 := Lib.hid C3
  clear C1 C2 C3
  have I1 := Lib.hid fun W => is_any 1 2 1 1 1 false W (by omega) (by unfold Hid; decide) (by unfold Hid; decide) (by unfold Hid; decide) (by unfold Hid; decide) (by unfold Hid; decide)
  have I2 := Lib.hid fun W => is_any 2 0 2 0 2 true W (by omega) (by unfold Hid; decide) (by unfold Hid; decide) (by unfold Hid; decide) (by unfold Hid; decide) (by unfold Hid; decide)
  have I3 := Lib.hid fun W => is_any 2 1 1 0 1 true W (by omega) (by unfold Hid; decide) (by unfold Hid; decide) (by unfold Hid; decide) (by unfold Hid; decide) (by unfold Hid; decide)
  go_enter Try.func9, Try.ntmps9
  go_wp2_with fail
  refine (example_any _).mono ?_
  rintro e w1 ⟨rfl, rfl⟩
  go_wp2_with fail
  refine (D1.out _ _ (exAt _ _ (by simp))).mono ?_
  rintro e w2 ⟨rfl, hb2⟩
  have hB2 : Below w.heap.size w w2 := Below.call (by repeat (first | exact Below.refl _ _ | (refine Below.setCell ?_ (by first | omega | (simp; done) | (simp; omega)) _) | (refine Below.alloc ?_ (by first | omega | (simp; done) | (simp; omega)) _) | refine Below.drew ?_)) hb2
  have hS2 : w.heap.size ≤ w2.heap.size := hB2.size
  obtain ⟨hc2, hf2⟩ := bcell hb2
  go_wp2_with fail
  refine (example_any _).mono ?_
  rintro e w3 ⟨rfl, rfl⟩
  go_wp2_with fail
  refine (D2.out _ _ (exAt _ _ (by simp))).mono ?_
  rintro e w4 ⟨rfl, hb4⟩
  have hB4 : Below w.heap.size w w4 := Below.call (by repeat (first | exact hB2 | exact Below.refl _ _ | (refine Below.setCell ?_ (by first | omega | (simp; done) | (simp; omega)) _) | (refine Below.alloc ?_ (by first | omega | (simp; done) | (simp; omega)) _) | refine Below.drew ?_)) hb4
  have hS4 : w.heap.size ≤ w4.heap.size := hB4.size
  obtain ⟨hc4, hf4⟩ := bcell hb4
  go_wp2_with fail
  refine (example_any _).mono ?_
  rintro e w5 ⟨rfl, rfl⟩
  go_wp2_with fail
  refine (D3.out _ _ (exAt _ _ (by simp))).mono ?_
  rintro e w6 ⟨rfl, hb6⟩
  have hB6 : Below w.heap.size w w6 := Below.call (by repeat (first | exact hB4 | exact Below.refl _ _ | (refine Below.setCell ?_ (by first | omega | (simp; done) | (simp; omega)) _) | (refine Below.alloc ?_ (by first | omega | (simp; done) | (simp; omega)) _) | refine Below.drew ?_)) hb6
  have hS6 : w.heap.size ≤ w6.heap.size := hB6.size
  obtain ⟨hc6, hf6⟩ := bcell hb6
  clear hc2 hc4 hc6 hf2 hf4 hf6
  go_wp2_with fail
  refine (I1.out _).mono ?_
  rintro e w7 ⟨rfl, hb7⟩
  have hB7 : Below w.heap.size w w7 := Below.call (by repeat (first | exact hB6 | exact Below.refl _ _ | (refine Below.setCell ?_ (by first | omega | (simp; done) | (simp; omega)) _) | (refine Below.alloc ?_ (by first | omega | (simp; done) | (simp; omega)) _) | refine Below.drew ?_)) hb7
  have hS7 : w.heap.size ≤ w7.heap.size := hB7.size
  obtain ⟨hc7, hf7⟩ := bcell hb7
  go_wp2_with fail
  refine (I2.out _).mono ?_
  rintro e w8 ⟨rfl, hb8⟩
  have hB8 : Below w.heap.size w w8 := Below.call (by repeat (first | exact hB7 | exact Below.refl _ _ | (refine Below.setCell ?_ (by first | omega | (simp; done) | (simp; omega)) _) | (refine Below.alloc ?_ (by first | omega | (simp; done) | (simp; omega)) _) | refine Below.drew ?_)) hb8
  have hS8 : w.heap.size ≤ w8.heap.size := hB8.size
  obtain ⟨hc8, hf8⟩ := bcell hb8
  go_wp2_with fail
  refine (I3.out _).mono ?_
  rintro e w9 ⟨rfl, hb9⟩
  have hB9 : Below w.heap.size w w9 := Below.call (by repeat (first | exact hB8 | exact Below.refl _ _ | (refine Below.setCell ?_ (by first | omega | (simp; done) | (simp; omega)) _) | (refine Below.alloc ?_ (by first | omega | (simp; done) | (simp; omega)) _) | refine Below.drew ?_)) hb9
  have hS9 : w.heap.size ≤ w9.heap.size := hB9.size
  obtain ⟨hc9, hf9⟩ := bcell hb9
  go_wp2
  go_ret
  exact ⟨rfl, (by repeat (first | exact hB9 | exact Below.refl _ _ | (refine Below.setCell ?_ (by first | omega | (simp; done) | (simp; omega)) _) | (refine Below.alloc ?_ (by first | omega | (simp; done) | (simp; omega)) _) | refine Below.drew ?_))⟩

end Go.Proofs.Ytmjklmdjlojmlaa
