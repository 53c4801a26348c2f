/- The statement PlacingLocals: its walk. No condition. -/
import Derived.Test.YtmjklmdjlojmlaaPlaceE
import Derived.Test.YtmjklmdjlojmlaaLocalsA
namespace Go.Proofs.Ytmjklmdjlojmlaa
open Go.RowKit
attribute [local go_sem ↓] Go.wp_at_zero Go.wp_at_succ

set_option maxRecDepth 100000 in
set_option maxHeartbeats 1000000 in
theorem locals_long (A : Option Addr) (n cap : Nat) (l f k t : Int) (d : Bool) (w : World) (hn : n ≤ maxLen) (h : 16 ≤ n) :
    Calls Try.prog 4 #[.slice A n cap, .agg #[.int .u8 k, .int .u8 t], .agg #[.int .i64 l, .bool d, .int .u8 f]] w (Ret w (.bool true)) := by
  unfold maxLen at hn
  go_enter Try.func4, Try.ntmps4
  go_wp2_with fail
  refine (palive_any _).mono ?_
  rintro e w1 ⟨rfl, hb1⟩
  have hB1 : Below w.heap.size w w1 := Below.call (by repeat (first | exact Below.refl _ _ | (refine Below.setCell ?_ (by first | omega | (simp; done) | (simp; omega)) _) | (refine Below.alloc ?_ (by first | omega | (simp; done) | (simp; omega)) _) | refine Below.drew ?_)) hb1
  have hS1 : w.heap.size ≤ w1.heap.size := hB1.size
  obtain ⟨hc1, hf1⟩ := bcell hb1
  go_wp2
  go_ret
  exact ⟨rfl, (by repeat (first | exact hB1 | exact Below.refl _ _ | (refine Below.setCell ?_ (by first | omega | (simp; done) | (simp; omega)) _) | (refine Below.alloc ?_ (by first | omega | (simp; done) | (simp; omega)) _) | refine Below.drew ?_))⟩

set_option maxRecDepth 100000 in
set_option maxHeartbeats 1000000 in
theorem locals_bad (A : Option Addr) (n cap : Nat) (K T : Nat → Int) (l f k t e g : Int) (d q : Bool) (w : World) (hn : n ≤ maxLen) (hT : Types w A n K T) (h : n < 16) (b0 : 0 ≤ k) (b1 : k ≤ 255) (b2 : 0 ≤ t) (b3 : t ≤ 255)
    (H1 : Hid (rlV n K T = e)) (H2 : Hid (chk k t = g)) (hq : (e != 0) = q) (hq' : q = true ∨ q = false ∧ (g != 0) = true) :
    Calls Try.prog 4 #[.slice A n cap, .agg #[.int .u8 k, .int .u8 t], .agg #[.int .i64 l, .bool d, .int .u8 f]] w (Ret w (.bool true)) := by
  have hl := hn
  unfold maxLen at hl
  have HT := Lib.hid hT
  clear hT
  have hd : decide (16 ≤ (n : Int)) = false := by simp; omega
  rcases hq' with rfl | ⟨rfl, hq'⟩
  · go_enter Try.func4, Try.ntmps4
    go_wp2_with fail
    refine (palive_any _).mono ?_
    rintro e w1 ⟨rfl, hb1⟩
    have hB1 : Below w.heap.size w w1 := Below.call (by repeat (first | exact Below.refl _ _ | (refine Below.setCell ?_ (by first | omega | (simp; done) | (simp; omega)) _) | (refine Below.alloc ?_ (by first | omega | (simp; done) | (simp; omega)) _) | refine Below.drew ?_)) hb1
    have hS1 : w.heap.size ≤ w1.heap.size := hB1.size
    obtain ⟨hc1, hf1⟩ := bcell hb1
    clear hc1 hf1
    go_wp2_with fail
    refine (rlocals_any A n cap K T _ hn (HT.out.below' (by repeat (first | exact hB1 | exact Below.refl _ _ | (refine Below.setCell ?_ (by first | omega | (simp; done) | (simp; omega)) _) | (refine Below.alloc ?_ (by first | omega | (simp; done) | (simp; omega)) _) | refine Below.drew ?_)))).mono ?_
    rintro e w2 ⟨rfl, hb2⟩
    have hB2 : Below w.heap.size w w2 := Below.call (by repeat (first | exact hB1 | exact Below.refl _ _ | (refine Below.setCell ?_ (by first | omega | (simp; done) | (simp; omega)) _) | (refine Below.alloc ?_ (by first | omega | (simp; done) | (simp; omega)) _) | refine Below.drew ?_)) hb2
    have hS2 : w.heap.size ≤ w2.heap.size := hB2.size
    obtain ⟨hc2, hf2⟩ := bcell hb2
    rw [H1.out]
    clear hc2 hf2
    go_wp2
    go_ret
    exact ⟨rfl, (by repeat (first | exact hB2 | exact Below.refl _ _ | (refine Below.setCell ?_ (by first | omega | (simp; done) | (simp; omega)) _) | (refine Below.alloc ?_ (by first | omega | (simp; done) | (simp; omega)) _) | refine Below.drew ?_))⟩
  · go_enter Try.func4, Try.ntmps4
    go_wp2_with fail
    refine (palive_any _).mono ?_
    rintro e w1 ⟨rfl, hb1⟩
    have hB1 : Below w.heap.size w w1 := Below.call (by repeat (first | exact Below.refl _ _ | (refine Below.setCell ?_ (by first | omega | (simp; done) | (simp; omega)) _) | (refine Below.alloc ?_ (by first | omega | (simp; done) | (simp; omega)) _) | refine Below.drew ?_)) hb1
    have hS1 : w.heap.size ≤ w1.heap.size := hB1.size
    obtain ⟨hc1, hf1⟩ := bcell hb1
    have hz1_0 : w.heap.size < w1.heap.size := by have := hb1.size; first | omega | (simp at this; omega)
    have k1_0 : w1.cell? ⟨w.heap.size, 0, none⟩ = some (.int .u8 k) := by go_simp
    have k1_1 : w1.cell? ⟨w.heap.size, 1, none⟩ = some (.int .u8 t) := by go_simp
    clear hc1 hf1
    go_wp2_with fail
    refine (rlocals_any A n cap K T _ hn (HT.out.below' (by repeat (first | exact hB1 | exact Below.refl _ _ | (refine Below.setCell ?_ (by first | omega | (simp; done) | (simp; omega)) _) | (refine Below.alloc ?_ (by first | omega | (simp; done) | (simp; omega)) _) | refine Below.drew ?_)))).mono ?_
    rintro e w2 ⟨rfl, hb2⟩
    have hB2 : Below w.heap.size w w2 := Below.call (by repeat (first | exact hB1 | exact Below.refl _ _ | (refine Below.setCell ?_ (by first | omega | (simp; done) | (simp; omega)) _) | (refine Below.alloc ?_ (by first | omega | (simp; done) | (simp; omega)) _) | refine Below.drew ?_)) hb2
    have hS2 : w.heap.size ≤ w2.heap.size := hB2.size
    obtain ⟨hc2, hf2⟩ := bcell hb2
    have hz2_0 : w.heap.size < w2.heap.size := by have := hb2.size; first | omega | (simp at this; omega)
    rw [H1.out]
    have k2_0 : w2.cell? ⟨w.heap.size, 0, none⟩ = some (.int .u8 k) := by go_simp
    have k2_1 : w2.cell? ⟨w.heap.size, 1, none⟩ = some (.int .u8 t) := by go_simp
    clear hc2 hf2 k1_0 k1_1
    go_wp2_with fail
    refine (check_any k t _ b0 b1 b2 b3).mono ?_
    rintro e w3 ⟨rfl, hb3⟩
    have hB3 : Below w.heap.size w w3 := Below.call (by repeat (first | exact hB2 | exact Below.refl _ _ | (refine Below.setCell ?_ (by first | omega | (simp; done) | (simp; omega)) _) | (refine Below.alloc ?_ (by first | omega | (simp; done) | (simp; omega)) _) | refine Below.drew ?_)) hb3
    have hS3 : w.heap.size ≤ w3.heap.size := hB3.size
    obtain ⟨hc3, hf3⟩ := bcell hb3
    rw [H2.out]
    clear hc3 hf3
    go_wp2
    go_ret
    exact ⟨rfl, (by repeat (first | exact hB3 | exact Below.refl _ _ | (refine Below.setCell ?_ (by first | omega | (simp; done) | (simp; omega)) _) | (refine Below.alloc ?_ (by first | omega | (simp; done) | (simp; omega)) _) | refine Below.drew ?_))⟩

theorem types_one (W : World) (g : Nat) {k t : Int} {e : TypeId} (hg : g = W.heap.size) (b0 : 0 ≤ k) (b1 : k ≤ 255) (b2 : 0 ≤ t) (b3 : t ≤ 255) : Types (W.alloc (.cells #[.int .u8 k, .int .u8 t] e)) (some ⟨g, 0, none⟩) 1 (fun _ => k) (fun _ => t) := by
  subst hg
  intro _
  refine ⟨_, _, rfl, by simp, fun i hi => ?_⟩
  have : i = 0 := by omega
  subst this
  refine ⟨?_, ?_, b0, b1, b2, b3⟩ <;> simp

set_option maxRecDepth 100000 in
set_option maxHeartbeats 8000000 in
theorem locals_good (A : Option Addr) (n cap : Nat) (K T : Nat → Int) (l f k t e a b e' a' b' : Int) (d q : Bool) (w : World) (hn : n ≤ maxLen) (hT : Types w A n K T) (h : n < 16) (h1 : 1 ≤ n) (b0 : 0 ≤ k) (b1 : k ≤ 255) (b2 : 0 ≤ t) (b3 : t ≤ 255)
    (b4 : 0 ≤ f) (H1 : Hid (rlV n K T = 0)) (H2 : Hid (chk k t = 0)) (V1 : Hid (ptE n K T l d f = e)) (V2 : Hid (ptK n K T l d f = a)) (V3 : Hid (ptT n K T l d f = b))
    (W1 : Hid (ptE (n + 1) (ext n K k) (ext n T t) l d f = e')) (W2 : Hid (ptK (n + 1) (ext n K k) (ext n T t) l d f = a')) (W3 : Hid (ptT (n + 1) (ext n K k) (ext n T t) l d f = b'))
    (hq : Hid ((l == n) = false ∧ e = e' ∧ a = a' ∧ b = b' ∨ (l == n) = true ∧ (e != 0) = true ∧ ptE 1 (fun _ => k) (fun _ => t) 0 d f = e' ∧ ptK 1 (fun _ => k) (fun _ => t) 0 d f = a' ∧ ptT 1 (fun _ => k) (fun _ => t) 0 d f = b')) :
    Calls Try.prog 4 #[.slice A n cap, .agg #[.int .u8 k, .int .u8 t], .agg #[.int .i64 l, .bool d, .int .u8 f]] w (Ret w (.bool true)) := by
  have hl := hn
  unfold maxLen at hl
  have hbd := hT.bds
  have HBD := Lib.hid (ext_bds hbd b0 b1 b2 b3)
  clear hbd
  have HT := Lib.hid hT
  clear hT
  obtain ⟨i0, hi0, hz0, hz1, hz2⟩ := info_parts type_info
  have hd : decide (16 ≤ (n : Int)) = false := by simp; omega
  go_enter Try.func4, Try.ntmps4
  go_wp2_with fail
  refine (palive_any _).mono ?_
  rintro e w1 ⟨rfl, hb1⟩
  have hB1 : Below w.heap.size w w1 := Below.call (by repeat (first | exact Below.refl _ _ | (refine Below.setCell ?_ (by first | omega | (simp; done) | (simp; omega)) _) | (refine Below.alloc ?_ (by first | omega | (simp; done) | (simp; omega)) _) | refine Below.drew ?_)) hb1
  have hS1 : w.heap.size ≤ w1.heap.size := hB1.size
  obtain ⟨hc1, hf1⟩ := bcell hb1
  have hz1_0 : w.heap.size < w1.heap.size := by have := hb1.size; first | omega | (simp at this; omega)
  have hz1_1 : w.heap.size + 1 < w1.heap.size := by have := hb1.size; first | omega | (simp at this; omega)
  have k1_0 : w1.cell? ⟨w.heap.size, 0, none⟩ = some (.int .u8 k) := by go_simp
  have k1_1 : w1.cell? ⟨w.heap.size, 1, none⟩ = some (.int .u8 t) := by go_simp
  have p1_0 : w1.cell? ⟨w.heap.size + 1, 0, none⟩ = some (.int .i64 l) := by go_simp
  have p1_1 : w1.cell? ⟨w.heap.size + 1, 1, none⟩ = some (.bool d) := by go_simp
  have p1_2 : w1.cell? ⟨w.heap.size + 1, 2, none⟩ = some (.int .u8 f) := by go_simp
  clear hc1 hf1
  go_wp2_with fail
  refine (rlocals_any A n cap K T _ hn (HT.out.below' (by repeat (first | exact hB1 | exact Below.refl _ _ | (refine Below.setCell ?_ (by first | omega | (simp; done) | (simp; omega)) _) | (refine Below.alloc ?_ (by first | omega | (simp; done) | (simp; omega)) _) | refine Below.drew ?_)))).mono ?_
  rintro e w2 ⟨rfl, hb2⟩
  have hB2 : Below w.heap.size w w2 := Below.call (by repeat (first | exact hB1 | exact Below.refl _ _ | (refine Below.setCell ?_ (by first | omega | (simp; done) | (simp; omega)) _) | (refine Below.alloc ?_ (by first | omega | (simp; done) | (simp; omega)) _) | refine Below.drew ?_)) hb2
  have hS2 : w.heap.size ≤ w2.heap.size := hB2.size
  obtain ⟨hc2, hf2⟩ := bcell hb2
  have hz2_0 : w.heap.size < w2.heap.size := by have := hb2.size; first | omega | (simp at this; omega)
  have hz2_1 : w.heap.size + 1 < w2.heap.size := by have := hb2.size; first | omega | (simp at this; omega)
  rw [H1.out]
  have k2_0 : w2.cell? ⟨w.heap.size, 0, none⟩ = some (.int .u8 k) := by go_simp
  have k2_1 : w2.cell? ⟨w.heap.size, 1, none⟩ = some (.int .u8 t) := by go_simp
  have p2_0 : w2.cell? ⟨w.heap.size + 1, 0, none⟩ = some (.int .i64 l) := by go_simp
  have p2_1 : w2.cell? ⟨w.heap.size + 1, 1, none⟩ = some (.bool d) := by go_simp
  have p2_2 : w2.cell? ⟨w.heap.size + 1, 2, none⟩ = some (.int .u8 f) := by go_simp
  clear hc2 hf2 k1_0 k1_1 p1_0 p1_1 p1_2
  go_wp2_with fail
  refine (check_any k t _ b0 b1 b2 b3).mono ?_
  rintro e w3 ⟨rfl, hb3⟩
  have hB3 : Below w.heap.size w w3 := Below.call (by repeat (first | exact hB2 | exact Below.refl _ _ | (refine Below.setCell ?_ (by first | omega | (simp; done) | (simp; omega)) _) | (refine Below.alloc ?_ (by first | omega | (simp; done) | (simp; omega)) _) | refine Below.drew ?_)) hb3
  have hS3 : w.heap.size ≤ w3.heap.size := hB3.size
  obtain ⟨hc3, hf3⟩ := bcell hb3
  have hz3_0 : w.heap.size < w3.heap.size := by have := hb3.size; first | omega | (simp at this; omega)
  have hz3_1 : w.heap.size + 1 < w3.heap.size := by have := hb3.size; first | omega | (simp at this; omega)
  rw [H2.out]
  have k3_0 : w3.cell? ⟨w.heap.size, 0, none⟩ = some (.int .u8 k) := by go_simp
  have k3_1 : w3.cell? ⟨w.heap.size, 1, none⟩ = some (.int .u8 t) := by go_simp
  have p3_0 : w3.cell? ⟨w.heap.size + 1, 0, none⟩ = some (.int .i64 l) := by go_simp
  have p3_1 : w3.cell? ⟨w.heap.size + 1, 1, none⟩ = some (.bool d) := by go_simp
  have p3_2 : w3.cell? ⟨w.heap.size + 1, 2, none⟩ = some (.int .u8 f) := by go_simp
  clear hc3 hf3 k2_0 k2_1 p2_0 p2_1 p2_2
  have U3 := Lib.hid (HT.out.below' hB3)
  clear HT
  go_upto_region 4 with fail
  go_cut [8] (fun s8 wx => ∃ (A' : Option Addr) (c' : Nat), s8 = .slice A' (n + 1) c' ∧ n + 1 ≤ c' ∧ c' ≤ maxLen ∧ Types wx A' (n + 1) (ext n K k) (ext n T t) ∧ Below w3.heap.size w3 wx)
  case first =>
    go_region_held3 (fun w' => w'.cell? ⟨w.heap.size, 0, none⟩ = some (.int .u8 k) ∧ w'.cell? ⟨w.heap.size, 1, none⟩ = some (.int .u8 t)) (first | go_keep | ((try dsimp only); (repeat' apply And.intro) <;> (first | assumption | (go_simp; done))))
      (first
        | (refine step_append_any _ (by rfl) (.tmp 37) (.tmp 39) _ (by rfl) w3.heap.size 27 i0 _ 2 2 Try.underlying22 hi0 hz0 hz1 hz2 (by rfl) (by omega) v4 (0 + n) ([] ++ tcells n K T) (by rfl) (by first | exact hown4 | exact hown4.alloc _)
             _ (some ⟨_, 0, none⟩) 1 1 [.int .u8 k, .int .u8 t] (by rfl) (one_reads (Nat.lt_succ_self _) (by first | (go_simp; done) | exact E4.out _ _ _ (by simp [Value.ownBlock]) (by go_simp)) (by first | (go_simp; done) | exact E4.out _ _ _ (by simp [Value.ownBlock]) (by go_simp))) one_cells (by simp only [maxLen]; omega) (by omega) (by first | omega | (simp; done) | (simp; omega)) ?_
           intro v5 w5 hown5 hg5 hat5
           have hs5 : w4.heap.size ≤ w5.heap.size := by have := hg5.size; (try simp at this); omega
           have e2 : w5.cell? ⟨w.heap.size, 0, none⟩ = some (.int .u8 k) := hg5.cell (by go_simp) (by intro h; have := (hown4.lt _ h.symm).1; (try simp at this); omega)
           have e3 : w5.cell? ⟨w.heap.size, 1, none⟩ = some (.int .u8 t) := hg5.cell (by go_simp) (by intro h; have := (hown4.lt _ h.symm).1; (try simp at this); omega)
           have hB5 : Below w3.heap.size w3 w5 := Below.grown (by first | exact hB4 | exact hB4.alloc (by omega) _) hg5 (by first | omega | (simp; done) | (simp; omega)) (fun g hg => (hown4.lt g hg).1)
           simp only [Nat.zero_add, List.nil_append, tcells_ext] at hown5
           obtain ⟨A', c', rfl, hnc, hcm, hT5⟩ := types_of_own HBD.out hown5
           clear hown5 hg5 hat5
           have H5 := Lib.hid hT5
           clear hT5)
        | (refine step_append_any _ (by rfl) (.tmp 35) (.tmp 36) _ (by rfl) w3.heap.size 27 i0 _ 2 2 Try.underlying22 hi0 hz0 hz1 hz2 (by rfl) (by omega) (.slice (some ⟨_, 0, none⟩) 0 0) 0 [] (by rfl) (by first | exact made_drew (by simp) (by first | omega | (simp; done) | (simp; omega)) | exact (made_drew (by simp) (by first | omega | (simp; done) | (simp; omega))).alloc _ | exact made_at (by simp) (by first | omega | (simp; done) | (simp; omega)) | exact (made_at (by simp) (by first | omega | (simp; done) | (simp; omega))).alloc _)
             w3.heap.size A n cap (tcells n K T) (by rfl) (by repeat (first | exact U3.out.reads | exact (U3.out.reads).drew | refine Reads.alloc ?_ (by first | omega | (simp; done) | (simp; omega)) _)) tcells_one (by simp only [maxLen]; omega) (by omega) (by first | omega | (simp; done) | (simp; omega)) ?_
           intro v4 w4 hown4 hg4 hat4
           have hs4 : w3.heap.size < w4.heap.size := by have := hg4.size; simp at this; omega
           have hB4 : Below w3.heap.size w3 w4 := Below.grown (by repeat (first | exact Below.refl _ _ | (refine Below.setCell ?_ (by first | omega | (simp; done) | (simp; omega)) _) | (refine Below.alloc ?_ (by first | omega | (simp; done) | (simp; omega)) _) | refine Below.drew ?_)) hg4 (by first | omega | (simp; done) | (simp; omega)) (by simp [Value.ownBlock])
           have E4 := Lib.hid (fun (g o : Nat) (u : Value) hne h => hg4.cell (a := ⟨g, o, none⟩) (v := u) h hne)
           have e0 : w4.cell? ⟨w.heap.size, 0, none⟩ = some (.int .u8 k) := hg4.cell (by go_simp) (by simp [Value.ownBlock]; omega)
           have e1 : w4.cell? ⟨w.heap.size, 1, none⟩ = some (.int .u8 t) := hg4.cell (by go_simp) (by simp [Value.ownBlock]; omega)))
    all_goals
      go_wp2_with fail
      go_meet
      exact ⟨_, _, rfl, hnc, hcm, H5.out, hB5⟩
  case rest =>
    obtain ⟨A', c', rfl, hnc, hcm, hTc, hB4⟩ := hcut
    have U4 := Lib.hid (U3.out.below' hB4)
    have T4 := Lib.hid hTc
    have hD4 := hB4.size
    have k4_0 : wc.cell? ⟨w.heap.size, 0, none⟩ = some (.int .u8 k) := (hB4.cell (p := ⟨w.heap.size, 0, none⟩) (by first | omega | (simp; done) | (simp; omega))).trans k3_0
    have k4_1 : wc.cell? ⟨w.heap.size, 1, none⟩ = some (.int .u8 t) := (hB4.cell (p := ⟨w.heap.size, 1, none⟩) (by first | omega | (simp; done) | (simp; omega))).trans k3_1
    have p4_0 : wc.cell? ⟨w.heap.size + 1, 0, none⟩ = some (.int .i64 l) := (hB4.cell (p := ⟨w.heap.size + 1, 0, none⟩) (by first | omega | (simp; done) | (simp; omega))).trans p3_0
    have p4_1 : wc.cell? ⟨w.heap.size + 1, 1, none⟩ = some (.bool d) := (hB4.cell (p := ⟨w.heap.size + 1, 1, none⟩) (by first | omega | (simp; done) | (simp; omega))).trans p3_1
    have p4_2 : wc.cell? ⟨w.heap.size + 1, 2, none⟩ = some (.int .u8 f) := (hB4.cell (p := ⟨w.heap.size + 1, 2, none⟩) (by first | omega | (simp; done) | (simp; omega))).trans p3_2
    have hB4' := Below.call hB3 hB4
    clear hB4
    have hB4 := hB4'
    clear hB4' k3_0 k3_1 p3_0 p3_1 p3_2 U3 hTc
    have hS4 := hB4.size
    have hz4_0 : w.heap.size < wc.heap.size := by omega
    have hz4_1 : w.heap.size + 1 < wc.heap.size := by omega
    go_wp2_with fail
    refine (ptype_any A n cap K T _ _ _ _ hn (U4.out.below' (Below.refl _ _)) b4).mono ?_
    rintro e w5 ⟨rfl, hb5⟩
    have hB5 : Below w.heap.size w w5 := Below.call (by repeat (first | exact hB4 | exact Below.refl _ _ | (refine Below.setCell ?_ (by first | omega | (simp; done) | (simp; omega)) _) | (refine Below.alloc ?_ (by first | omega | (simp; done) | (simp; omega)) _) | refine Below.drew ?_)) hb5
    have hS5 : w.heap.size ≤ w5.heap.size := hB5.size
    obtain ⟨hc5, hf5⟩ := bcell hb5
    have hC5 := hb5
    have hD5 := hC5.size
    have hz5_0 : w.heap.size < w5.heap.size := by have := hb5.size; first | omega | (simp at this; omega)
    have hz5_1 : w.heap.size + 1 < w5.heap.size := by have := hb5.size; first | omega | (simp at this; omega)
    rw [V1.out, V2.out, V3.out]
    have k5_0 : w5.cell? ⟨w.heap.size, 0, none⟩ = some (.int .u8 k) := by go_simp
    have k5_1 : w5.cell? ⟨w.heap.size, 1, none⟩ = some (.int .u8 t) := by go_simp
    have p5_0 : w5.cell? ⟨w.heap.size + 1, 0, none⟩ = some (.int .i64 l) := by go_simp
    have p5_1 : w5.cell? ⟨w.heap.size + 1, 1, none⟩ = some (.bool d) := by go_simp
    have p5_2 : w5.cell? ⟨w.heap.size + 1, 2, none⟩ = some (.int .u8 f) := by go_simp
    clear hc5 hf5 k4_0 k4_1 p4_0 p4_1 p4_2
    go_wp2_with fail
    refine (ptype_any A' (n + 1) c' (ext n K k) (ext n T t) _ _ _ _ (by unfold maxLen; omega) (T4.out.below' (by repeat (first | exact hC5 | exact Below.refl _ _ | (refine Below.setCell ?_ (by first | omega | (simp; done) | (simp; omega)) _) | (refine Below.alloc ?_ (by first | omega | (simp; done) | (simp; omega)) _) | refine Below.drew ?_))) b4).mono ?_
    rintro e w6 ⟨rfl, hb6⟩
    have hB6 : Below w.heap.size w w6 := Below.call (by repeat (first | exact hB5 | exact Below.refl _ _ | (refine Below.setCell ?_ (by first | omega | (simp; done) | (simp; omega)) _) | (refine Below.alloc ?_ (by first | omega | (simp; done) | (simp; omega)) _) | refine Below.drew ?_)) hb6
    have hS6 : w.heap.size ≤ w6.heap.size := hB6.size
    obtain ⟨hc6, hf6⟩ := bcell hb6
    have hz6_0 : w.heap.size < w6.heap.size := by have := hb6.size; first | omega | (simp at this; omega)
    have hz6_1 : w.heap.size + 1 < w6.heap.size := by have := hb6.size; first | omega | (simp at this; omega)
    have hz6_2 : w5.heap.size < w6.heap.size := by have := hb6.size; first | omega | (simp at this; omega)
    rw [W1.out, W2.out, W3.out]
    have k6_0 : w6.cell? ⟨w.heap.size, 0, none⟩ = some (.int .u8 k) := by go_simp
    have k6_1 : w6.cell? ⟨w.heap.size, 1, none⟩ = some (.int .u8 t) := by go_simp
    have p6_0 : w6.cell? ⟨w.heap.size + 1, 0, none⟩ = some (.int .i64 l) := by go_simp
    have p6_1 : w6.cell? ⟨w.heap.size + 1, 1, none⟩ = some (.bool d) := by go_simp
    have p6_2 : w6.cell? ⟨w.heap.size + 1, 2, none⟩ = some (.int .u8 f) := by go_simp
    have a6_0 : w6.cell? ⟨w5.heap.size, 0, none⟩ = some (.int .u8 a) := by go_simp
    have a6_1 : w6.cell? ⟨w5.heap.size, 1, none⟩ = some (.int .u8 b) := by go_simp
    clear hc6 hf6 k5_0 k5_1 p5_0 p5_1 p5_2 U4 T4
    rcases hq.out with ⟨r0, rfl, rfl, rfl⟩ | ⟨r0, r1, r2, r3, r4⟩
    · clear hq
      go_wp2
      go_ret
      exact ⟨rfl, (by repeat (first | exact hB6 | exact Below.refl _ _ | (refine Below.setCell ?_ (by first | omega | (simp; done) | (simp; omega)) _) | (refine Below.alloc ?_ (by first | omega | (simp; done) | (simp; omega)) _) | refine Below.drew ?_))⟩
    · have R2 := Lib.hid r2
      have R3 := Lib.hid r3
      have R4 := Lib.hid r4
      clear hq r2 r3 r4
      go_wp2_with fail
      refine (ptype_any _ 1 1 (fun _ => k) (fun _ => t) _ _ _ _ (by simp [maxLen]) (types_one _ _ (by simp) b0 b1 b2 b3) b4).mono ?_
      rintro e w7 ⟨rfl, hb7⟩
      have hB7 : Below w.heap.size w w7 := Below.call (by repeat (first | exact hB6 | exact Below.refl _ _ | (refine Below.setCell ?_ (by first | omega | (simp; done) | (simp; omega)) _) | (refine Below.alloc ?_ (by first | omega | (simp; done) | (simp; omega)) _) | refine Below.drew ?_)) hb7
      have hS7 : w.heap.size ≤ w7.heap.size := hB7.size
      obtain ⟨hc7, hf7⟩ := bcell hb7
      have hz7_0 : w5.heap.size < w7.heap.size := by have := hb7.size; first | omega | (simp at this; omega)
      have hz7_1 : w6.heap.size < w7.heap.size := by have := hb7.size; first | omega | (simp at this; omega)
      rw [R2.out, R3.out, R4.out]
      have a7_0 : w7.cell? ⟨w6.heap.size, 0, none⟩ = some (.int .u8 a') := by go_simp
      have a7_1 : w7.cell? ⟨w6.heap.size, 1, none⟩ = some (.int .u8 b') := by go_simp
      clear hc7 hf7
      go_wp2
      go_ret
      exact ⟨rfl, (by repeat (first | exact hB7 | exact Below.refl _ _ | (refine Below.setCell ?_ (by first | omega | (simp; done) | (simp; omega)) _) | (refine Below.alloc ?_ (by first | omega | (simp; done) | (simp; omega)) _) | refine Below.drew ?_))⟩


theorem locals_walk (A : Option Addr) (n cap : Nat) (K T : Nat → Int) (l f k t : Int) (d : Bool) (w : World) (hn : n ≤ maxLen) (hT : Types w A n K T) (b0 : 0 ≤ k) (b1 : k ≤ 255) (b2 : 0 ≤ t) (b3 : t ≤ 255) (b4 : 0 ≤ f) :
    Calls Try.prog 4 #[.slice A n cap, .agg #[.int .u8 k, .int .u8 t], .agg #[.int .i64 l, .bool d, .int .u8 f]] w (Ret w (.bool true)) := by
  by_cases h : 16 ≤ n
  · exact locals_long A n cap l f k t d w hn h
  by_cases h1 : rlV n K T = 0
  · by_cases h2 : chk k t = 0
    · obtain ⟨y1, y2, y3⟩ := rlV_zero h1
      have y4 : okB k t = true := by
        rcases okB_cases k t with h' | h'
        · exact h'
        · rw [chk_no h'] at h2; cases h2
      refine locals_good A n cap K T l f k t _ _ _ _ _ _ d true w hn hT (by omega) y1 b0 b1 b2 b3 b4 h1 h2 rfl rfl rfl rfl rfl rfl ?_
      by_cases hl : l = n
      · subst hl
        obtain ⟨z1, z2, z3, z4⟩ := pt_last (d := d) (f := f) y1 (by omega) y3 y4
        exact .inr ⟨by simp, by simpa using z1, z2.symm, z3.symm, z4.symm⟩
      · obtain ⟨z1, z2, z3⟩ := pt_more (d := d) (f := f) y1 (by omega) y3 y4 hl
        exact .inl ⟨by simpa using hl, z1.symm, z2.symm, z3.symm⟩
    · exact locals_bad A n cap K T l f k t _ _ d _ w hn hT (by omega) b0 b1 b2 b3 rfl rfl rfl (.inr ⟨by simp [h1], by simpa using h2⟩)
  · exact locals_bad A n cap K T l f k t _ _ d _ w hn hT (by omega) b0 b1 b2 b3 rfl rfl rfl (.inl (by simpa using h1))

end Go.Proofs.Ytmjklmdjlojmlaa
