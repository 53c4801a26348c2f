/- Places: what Check comes to; slices of types, as they lie in memory. No condition. -/
import Derived.Test.YtmjklmdjlojmlaaShapeC
namespace Go.Proofs.Ytmjklmdjlojmlaa
open Go.RowKit

def badP (l f : Int) : Bool := decide (l < 0) || decide (16 ≤ l) || decide (2 < f)
def plC (l f : Int) : Int := if badP l f then 8 else 0

set_option maxHeartbeats 400000 in
theorem placeCheck_any (l f : Int) (d : Bool) (w : World) :
    Calls Try.prog 32 #[.agg #[.int .i64 l, .bool d, .int .u8 f]] w (Ret w (.int .i64 (plC l f))) := by
  by_cases h1 : l < 0
  · have H := Lib.hid (show plC l f = 8 from by rw [plC, if_pos (by simp [badP, h1])])
    have q1 : decide (l < 0) = true := by simpa using h1
    go_enter Try.func32, Try.ntmps32
    go_wp2
    go_ret
    rw [H.out]
    exact ⟨rfl, (by repeat (first | exact Below.refl _ _ | (refine Below.setCell ?_ (by first | omega | (simp; done) | (simp; omega)) _) | (refine Below.alloc ?_ (by first | omega | (simp; done) | (simp; omega)) _) | refine Below.drew ?_))⟩
  · have q1 : decide (l < 0) = false := by simpa using h1
    by_cases h2 : 16 ≤ l
    · have H := Lib.hid (show plC l f = 8 from by rw [plC, if_pos (by simp [badP, h2])])
      have q2 : decide (16 ≤ l) = true := by simpa using h2
      go_enter Try.func32, Try.ntmps32
      go_wp2
      go_ret
      rw [H.out]
      exact ⟨rfl, (by repeat (first | exact Below.refl _ _ | (refine Below.setCell ?_ (by first | omega | (simp; done) | (simp; omega)) _) | (refine Below.alloc ?_ (by first | omega | (simp; done) | (simp; omega)) _) | refine Below.drew ?_))⟩
    · have q2 : decide (16 ≤ l) = false := by simpa using h2
      by_cases h3 : 2 < f
      · have H := Lib.hid (show plC l f = 8 from by rw [plC, if_pos (by simp [badP, h3])])
        go_enter Try.func32, Try.ntmps32
        go_wp2
        go_ret
        rw [H.out]
        exact ⟨rfl, (by repeat (first | exact Below.refl _ _ | (refine Below.setCell ?_ (by first | omega | (simp; done) | (simp; omega)) _) | (refine Below.alloc ?_ (by first | omega | (simp; done) | (simp; omega)) _) | refine Below.drew ?_))⟩
      · have H := Lib.hid (show plC l f = 0 from by rw [plC, if_neg (by simp [badP]; omega)])
        go_enter Try.func32, Try.ntmps32
        go_wp2
        go_ret
        rw [H.out]
        exact ⟨rfl, (by repeat (first | exact Below.refl _ _ | (refine Below.setCell ?_ (by first | omega | (simp; done) | (simp; omega)) _) | (refine Below.alloc ?_ (by first | omega | (simp; done) | (simp; omega)) _) | refine Below.drew ?_))⟩

/-- A slice of n types, as it lies in memory: kinds K, and what they refer to, T. -/
def Types (w : World) (A : Option Addr) (n : Nat) (K T : Nat → Int) : Prop :=
  0 < n → ∃ b off, A = some ⟨b, off, none⟩ ∧ b < w.heap.size ∧ ∀ i, i < n →
    w.cell? ⟨b, off + i * 2, none⟩ = some (.int .u8 (K i)) ∧ w.cell? ⟨b, off + i * 2 + 1, none⟩ = some (.int .u8 (T i)) ∧ 0 ≤ K i ∧ K i ≤ 255 ∧ 0 ≤ T i ∧ T i ≤ 255
theorem Types.below {w w' : World} {A : Option Addr} {n : Nat} {K T : Nat → Int} {B : Nat} (h : Types w A n K T) (hb : Below B w w') (hB : w.heap.size ≤ B) : Types w' A n K T := by
  intro hn
  obtain ⟨b, off, rfl, hlt, hc⟩ := h hn
  refine ⟨b, off, rfl, Nat.lt_of_lt_of_le hlt hb.size, fun i hi => ?_⟩
  obtain ⟨c1, c2, r⟩ := hc i hi
  exact ⟨(hb.cell (p := ⟨b, _, none⟩) (by simp; omega)).trans c1, (hb.cell (p := ⟨b, _, none⟩) (by simp; omega)).trans c2, r⟩
theorem Types.below' {w w' : World} {A : Option Addr} {n : Nat} {K T : Nat → Int} (h : Types w A n K T) (hb : Below w.heap.size w w') : Types w' A n K T := h.below hb (Nat.le_refl _)

theorem Types.alloc {w : World} {A : Option Addr} {n : Nat} {K T : Nat → Int} (h : Types w A n K T) (o : Obj) : Types (w.alloc o) A n K T := h.below' ((Below.refl _ _).alloc (Nat.le_refl _) o)
theorem Types.drew {w : World} {A : Option Addr} {n : Nat} {K T : Nat → Int} (h : Types w A n K T) : Types w.drew A n K T := h.below' (Below.refl _ _).drew

/-- Are all of them valid? -/
def allOk (n : Nat) (K T : Nat → Int) : Bool := (List.range n).all fun i => okB (K i) (T i)
theorem allOk_iff {n : Nat} {K T : Nat → Int} : allOk n K T = true ↔ ∀ i, i < n → okB (K i) (T i) = true := by
  simp [allOk]
theorem allOk_not {n : Nat} {K T : Nat → Int} {i : Nat} (hi : i < n) (h : okB (K i) (T i) = false) : allOk n K T = false := by
  cases hq : allOk n K T
  · rfl
  · rw [allOk_iff.1 hq i hi] at h; cases h

/-- The error of locals, and of a place as far as its local. -/
def pchk (n : Nat) (K T : Nat → Int) (l f : Int) : Int :=
  if n < 1 ∨ 16 < n then 8 else if allOk n K T = false then 8 else if badP l f then 8 else if n ≤ l then 6 else 0

end Go.Proofs.Ytmjklmdjlojmlaa
