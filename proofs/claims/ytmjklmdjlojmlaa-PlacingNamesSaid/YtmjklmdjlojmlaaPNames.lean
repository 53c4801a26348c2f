/- The statement PlacingNames: its walk. No condition. -/
import Derived.Test.YtmjklmdjlojmlaaPlaceE
import Derived.Test.YtmjklmdjlojmlaaTypeRows
import Derived.Deep.OwnRows
namespace Go.Proofs.Ytmjklmdjlojmlaa
open Go.RowKit
attribute [local go_sem ↓] Go.wp_at_zero Go.wp_at_succ

/-- A list of types that is not one of a function's locals. -/
def BadL (n : Nat) (K T : Nat → Int) : Prop := n < 1 ∨ 16 < n ∨ ∃ j, j < n ∧ okB (K j) (T j) = false
theorem BadL.chk {n : Nat} {K T : Nat → Int} (h : BadL n K T) (l f : Int) : pchk n K T l f = 8 := by
  rcases h with h | h | ⟨j, hj, h⟩
  · exact pchk_len (.inl h)
  · exact pchk_len (.inr h)
  · exact pchk_bad hj h
theorem BadL.e {n : Nat} {K T : Nat → Int} (h : BadL n K T) (l f : Int) (d : Bool) : ptE n K T l d f = 8 := by
  rw [ptE, h.chk, if_neg (by decide)]
theorem BadL.k {n : Nat} {K T : Nat → Int} (h : BadL n K T) (l f : Int) (d : Bool) : ptK n K T l d f = 0 := by
  rw [ptK, h.e, if_neg (by decide)]
theorem BadL.t {n : Nat} {K T : Nat → Int} (h : BadL n K T) (l f : Int) (d : Bool) : ptT n K T l d f = 0 := by
  rw [ptT, h.e, if_neg (by decide)]
theorem BadL.a {n : Nat} {K T : Nat → Int} (h : BadL n K T) (l f : Int) (d : Bool) : pcA n K T l d f = 0 := by
  rw [pcA, h.e, if_neg (by decide)]
theorem BadL.s {n : Nat} {K T : Nat → Int} (h : BadL n K T) (l f : Int) (d : Bool) : pcS n K T l d f = 0 := by
  rw [pcS, h.e, if_neg (by decide)]
theorem BadL.w {n : Nat} {K T : Nat → Int} (h : BadL n K T) (l f : Int) (d : Bool) : pwE n K T l d f = 8 := by
  rw [pwE, h.e]
  simp

/-- Lists of types, each of which is wrong, as they lie in a row. -/
def Wrongs (w : World) (g m : Nat) : Prop := g < w.heap.size ∧ ∀ i, i < m → ∃ A n c K T, w.cell? ⟨g, i, none⟩ = some (.slice A n c) ∧ n ≤ maxLen ∧ Types w A n K T ∧ BadL n K T
theorem Wrongs.below {w w' : World} {g m : Nat} (h : Wrongs w g m) (hb : Below w.heap.size w w') : Wrongs w' g m :=
  ⟨Nat.lt_of_lt_of_le h.1 hb.size, fun i hi => by
    obtain ⟨A, n, c, K, T, h1, h2, h3, h4⟩ := h.2 i hi
    exact ⟨A, n, c, K, T, (hb.cell (p := ⟨g, i, none⟩) h.1).trans h1, h2, h3.below' hb, h4⟩⟩

def mf (i j : Nat) : Value := if j % 2 = 0 ∧ j < i * 2 then .int .u8 1 else .int .u8 0
theorem mf_set {i : Nat} (j : Nat) : (if j = i * 2 then Value.int .u8 1 else mf i j) = mf (i + 1) j := by
  unfold mf
  by_cases h : j = i * 2
  · rw [if_pos h, if_pos (by omega)]
  · rw [if_neg h]
    by_cases h2 : j % 2 = 0 ∧ j < i * 2
    · rw [if_pos h2, if_pos (by omega)]
    · rw [if_neg h2, if_neg (by omega)]
theorem many_types {w : World} {g : Nat} (h : w.rowIs g 27 34 (mf 17)) (n : Nat) (hn : n ≤ 17) : Types w (some ⟨g, 0, none⟩) n (fun _ => 1) (fun _ => 0) := by
  intro _
  refine ⟨g, 0, rfl, h.lt, fun i hi => ⟨?_, ?_, by simp, by simp, by simp, by simp⟩⟩
  · rw [Nat.zero_add, h.cell (by omega), mf, if_pos (by omega)]
  · rw [Nat.zero_add, h.cell (by omega), mf, if_neg (by omega)]

theorem one_type {W : World} {g : Nat} {k t : Int} (hg : g < W.heap.size) (h0 : W.cell? ⟨g, 0, none⟩ = some (.int .u8 k)) (h1 : W.cell? ⟨g, 1, none⟩ = some (.int .u8 t)) (b0 : 0 ≤ k) (b1 : k ≤ 255) (b2 : 0 ≤ t) (b3 : t ≤ 255) : Types W (some ⟨g, 0, none⟩) 1 (fun _ => k) (fun _ => t) := by
  intro _
  refine ⟨g, 0, rfl, hg, fun i hi => ?_⟩
  have : i = 0 := by omega
  subst this
  exact ⟨h0, h1, b0, b1, b2, b3⟩

def shK (i : Nat) : Int := if i = 0 then 3 else 5
def shT (i : Nat) : Int := if i = 0 then 2 else 1
def zc : Array Value := madeCells #[.int .u8 0, .int .u8 0] 34
theorem make_many (w : World) : (Instr.makeSlice 22 (.int .i64 17) (.int .i64 17)).run Try.prog w = .ok (.slice (some ⟨w.heap.size, 0, none⟩) 17 17) (w.alloc (.cells zc 27)) := by
  obtain ⟨i0, hi0, hz0, hz1, hz2⟩ := info_parts type_info
  have hr := run_make (P := Try.prog) w 22 27 i0 _ Try.underlying22 hi0 hz0 .i64 .i64 17 17 (by omega) (by omega) (by rw [hz2]; omega) (by omega)
  rw [hz1] at hr
  exact hr
theorem zc_row (w : World) : (w.alloc (.cells zc 27)).rowIs w.heap.size 27 34 (mf 0) := by
  have h := World.rowIs_alloc w zc 27 (mf 0) (fun i hi => by
    have hi' : i < 34 := by simpa [zc, size_madeCells] using hi
    have h0 : mf 0 i = .int .u8 0 := by unfold mf; rw [if_neg (by omega)]
    rw [h0]
    have h2 : i % 2 = 0 ∨ i % 2 = 1 := by omega
    rcases h2 with h2 | h2 <;> simp [zc, madeCells, hi', h2])
  rw [show zc.size = 34 from size_madeCells _ _] at h
  exact h

set_option maxRecDepth 100000 in
set_option maxHeartbeats 40000000 in
theorem pnames_walk (w : World) : Calls Try.prog 6 #[] w (Ret w (.bool true)) := by
  have C1 := fun (A : Option Addr) (W : World) (h : Types W A 3 exK exT) => ptype_any A 3 3 exK exT 0 3 false W (by decide) h (by omega)
  rw [show ptE 3 exK exT 0 false 3 = 8 from by decide, show ptK 3 exK exT 0 false 3 = 0 from by decide, show ptT 3 exK exT 0 false 3 = 0 from by decide] at C1
  have D1 := Lib.hid C1
  clear C1
  have C2 := fun (A : Option Addr) (W : World) (h : Types W A 3 exK exT) => ptype_any A 3 3 exK exT (-1) 0 false W (by decide) h (by omega)
  rw [show ptE 3 exK exT (-1) false 0 = 8 from by decide, show ptK 3 exK exT (-1) false 0 = 0 from by decide, show ptT 3 exK exT (-1) false 0 = 0 from by decide] at C2
  have D2 := Lib.hid C2
  clear C2
  have C3 := fun (A : Option Addr) (W : World) (h : Types W A 3 exK exT) => ptype_any A 3 3 exK exT 16 0 false W (by decide) h (by omega)
  rw [show ptE 3 exK exT 16 false 0 = 8 from by decide, show ptK 3 exK exT 16 false 0 = 0 from by decide, show ptT 3 exK exT 16 false 0 = 0 from by decide] at C3
  have D3 := Lib.hid C3
  clear C3
  have C4 := fun (A : Option Addr) (W : World) (h : Types W A 16 (fun _ => 1) (fun _ => 0)) => ptype_any A 16 17 (fun _ => 1) (fun _ => 0) 15 0 false W (by decide) h (by omega)
  rw [show ptE 16 (fun _ => 1) (fun _ => 0) 15 false 0 = 0 from by decide, show ptK 16 (fun _ => 1) (fun _ => 0) 15 false 0 = 1 from by decide, show ptT 16 (fun _ => 1) (fun _ => 0) 15 false 0 = 0 from by decide] at C4
  have D4 := Lib.hid C4
  clear C4
  have C5 := fun (A : Option Addr) (W : World) (h : Types W A 3 exK exT) => ptype_any A 3 3 exK exT 2 1 false W (by decide) h (by omega)
  rw [show ptE 3 exK exT 2 false 1 = 42 from by decide, show ptK 3 exK exT 2 false 1 = 0 from by decide, show ptT 3 exK exT 2 false 1 = 0 from by decide] at C5
  have D5 := Lib.hid C5
  clear C5
  have C6 := fun (A : Option Addr) (W : World) (h : Types W A 2 shK shT) => pcells_any A 2 2 shK shT 1 2 true W (by decide) h (by omega)
  rw [show ptE 2 shK shT 1 true 2 = 42 from by decide, show pcA 2 shK shT 1 true 2 = 0 from by decide, show pcS 2 shK shT 1 true 2 = 0 from by decide] at C6
  have D6 := Lib.hid C6
  clear C6
  have C7 := fun (A : Option Addr) (W : World) (h : Types W A 2 shK shT) => pwrite_any A 2 2 shK shT 0 0 true W (by decide) h (by omega)
  rw [show pwE 2 shK shT 0 true 0 = 42 from by decide] at C7
  have D7 := Lib.hid C7
  clear C7
  have C8 := fun (A : Option Addr) (W : World) (h : Types W A 2 shK shT) => pwrite_any A 2 2 shK shT 0 1 true W (by decide) h (by omega)
  rw [show pwE 2 shK shT 0 true 1 = 42 from by decide] at C8
  have D8 := Lib.hid C8
  clear C8
  have C9 := fun (A : Option Addr) (W : World) (h : Types W A 2 shK shT) => pwrite_any A 2 2 shK shT 0 0 false W (by decide) h (by omega)
  rw [show pwE 2 shK shT 0 false 0 = 0 from by decide] at C9
  have D9 := Lib.hid C9
  clear C9
  have C10 := fun (A : Option Addr) (W : World) (h : Types W A 2 shK shT) => pwrite_any A 2 2 shK shT 1 0 true W (by decide) h (by omega)
  rw [show pwE 2 shK shT 1 true 0 = 0 from by decide] at C10
  have D10 := Lib.hid C10
  clear C10
  have C11 := fun (A : Option Addr) (W : World) (h : Types W A 3 exK exT) => pwrite_any A 3 3 exK exT 2 2 true W (by decide) h (by omega)
  rw [show pwE 3 exK exT 2 true 2 = 0 from by decide] at C11
  have D11 := Lib.hid C11
  clear C11
  have C12 := fun (A : Option Addr) (W : World) (h : Types W A 3 exK exT) => pwrite_any A 3 3 exK exT 9 0 false W (by decide) h (by omega)
  rw [show pwE 3 exK exT 9 false 0 = 6 from by decide] at C12
  have D12 := Lib.hid C12
  clear C12
  have hmk := make_many
  have HZ := Lib.hid (zc_row w)
  go_enter Try.func6, Try.ntmps6
  go_wp2
  clear hmk
  go_loopw [2] (fun v wr => ∃ i : Nat, i ≤ 17 ∧ v = .int .i64 i ∧ wr.rowIs w.heap.size 27 34 (mf i) ∧ Below w.heap.size w wr) (fun v _ => 17 - (intOf v).toNat)
  case atStart => exact ⟨0, by omega, rfl, HZ.out, (Below.refl _ _).alloc (Nat.le_refl _) _⟩
  case round =>
    obtain ⟨i, hi, rfl, hR, hB⟩ := hrel
    have hz := hB.size
    have HR := Lib.hid hR
    clear hR HZ
    by_cases hlt : i < 17
    · have hdi : decide ((i : Int) < 17) = true := by simp; omega
      have c0 : wr.cell? ⟨w.heap.size, i * 2, none⟩ = some (.int .u8 0) := by
        rw [HR.out.cell (by omega), mf, if_neg (by omega)]
      have f0 := HR.out.frozen (i * 2)
      have HS := Lib.hid ((HR.out.set (i * 2) (.int .u8 1)).congr (fun j _ => mf_set j))
      go_wp2
      go_roundw
      case rel => exact ⟨i + 1, by omega, by go_num, HS.out, hB.setCell (p := ⟨w.heap.size, i * 2, none⟩) (Nat.le_refl _) _⟩
      case measure => simp [intOf]; omega
    · have : i = 17 := by omega
      have hdi : decide ((i : Int) < 17) = false := by simp; omega
      have HM : Hid (wr.rowIs w.heap.size 27 34 (mf 17)) := by rw [← this]; exact HR.out
      have hlr := HR.out.lt
      clear this hlt HR
      obtain ⟨w0, ho⟩ : ∃ w0 : World, w0 = wr := ⟨_, rfl⟩
      rw [← ho] at hB hz HM hlr ⊢
      clear ho
      go_wp2_with fail
      refine (example_any _).mono ?_
      rintro e w1 ⟨rfl, rfl⟩
      go_wp2
      obtain ⟨G, hG⟩ : ∃ G, G = w0.heap.size + 1 + 1 + 1 + 1 := ⟨_, rfl⟩
      rw [← hG]
      have HG := Lib.hid hG
      clear hG
      go_loopw [5] (fun v wr => ∃ k : Nat, k ≤ 6 ∧ v = .int .i64 k ∧ Wrongs wr G 6 ∧ Types wr (some ⟨w.heap.size, 0, none⟩) 16 (fun _ => 1) (fun _ => 0) ∧ Below w.heap.size w wr) (fun v _ => 6 - (intOf v).toNat)
      case atStart =>
        rw [HG.out]
        refine ⟨0, by omega, rfl, ⟨(by first | omega | (simp; done) | (simp; omega)), fun i hi => ?_⟩, (by repeat (first | exact many_types HM.out 16 (by omega) | refine Types.alloc ?_ _)), (by repeat (first | exact hB | (refine Below.alloc ?_ (by first | omega | (simp; done) | (simp; omega)) _)))⟩
        have hi' : i = 0 ∨ i = 1 ∨ i = 2 ∨ i = 3 ∨ i = 4 ∨ i = 5 := by omega
        rcases hi' with rfl | rfl | rfl | rfl | rfl | rfl
        · exact ⟨none, 0, 0, fun _ => 0, fun _ => 0, by go_simp, by simp [maxLen], fun h => absurd h (by omega), .inl (by omega)⟩
        · exact ⟨some ⟨w.heap.size, 0, none⟩, 17, 17, fun _ => 1, fun _ => 0, by go_simp, by simp [maxLen], (by repeat (first | exact many_types HM.out 17 (by omega) | refine Types.alloc ?_ _)), .inr (.inl (by omega))⟩
        · refine ⟨some ⟨w0.heap.size, 0, none⟩, 3, 3, exK, fun i => if i = 1 then 1 else exT i, by go_simp, by simp [maxLen], fun _ => ⟨w0.heap.size, 0, rfl, (by first | omega | (simp; done) | (simp; omega)), fun i hi => ?_⟩, .inr (.inr ⟨1, by omega, by decide⟩)⟩
          have hi' : i = 0 ∨ i = 1 ∨ i = 2 := by omega
          rcases hi' with rfl | rfl | rfl <;> (refine ⟨by go_simp; rfl, by go_simp; rfl, by decide, by decide, by decide, by decide⟩)
        · exact ⟨some ⟨w0.heap.size + 1, 0, none⟩, 1, 1, fun _ => 0, fun _ => 0, by go_simp, by simp [maxLen], one_type (by first | omega | (simp; done) | (simp; omega)) (by go_simp) (by go_simp) (by omega) (by omega) (by omega) (by omega), .inr (.inr ⟨0, by omega, by decide⟩)⟩
        · exact ⟨some ⟨w0.heap.size + 1 + 1, 0, none⟩, 1, 1, fun _ => 6, fun _ => 0, by go_simp, by simp [maxLen], one_type (by first | omega | (simp; done) | (simp; omega)) (by go_simp) (by go_simp) (by omega) (by omega) (by omega) (by omega), .inr (.inr ⟨0, by omega, by decide⟩)⟩
        · exact ⟨some ⟨w0.heap.size + 1 + 1 + 1, 0, none⟩, 1, 1, fun _ => 4, fun _ => 3, by go_simp, by simp [maxLen], one_type (by first | omega | (simp; done) | (simp; omega)) (by go_simp) (by go_simp) (by omega) (by omega) (by omega) (by omega), .inr (.inr ⟨0, by omega, by decide⟩)⟩
      case round =>
        obtain ⟨k, hk, rfl, hWr, hM16, hB9⟩ := hrel
        have HWR := Lib.hid hWr
        have HM16 := Lib.hid hM16
        have hgl := hWr.1
        clear hWr hM16 HM
        by_cases hlt : k < 6
        · have hdk : decide ((k : Int) < 6) = true := by simp; omega
          obtain ⟨A, n, c, K, T, c0, hn, hT, hbad⟩ := HWR.out.2 k hlt
          have hk1 : (k : Int) < 6 := by omega
          have n1 : ¬ G = wr.heap.size + 1 := by omega
          have n2 : ¬ wr.heap.size + 1 = G := by omega
          have n3 : ¬ G = wr.heap.size := by omega
          have n4 : ¬ wr.heap.size = G := by omega
          have hk2 : (0 : Int) ≤ k := by omega
          have B1 := fun (W : World) (h : Types W A n K T) => ptype_any A n c K T 99 3 false W hn h (by omega)
          have B2 := fun (W : World) (h : Types W A n K T) => pcells_any A n c K T 0 0 false W hn h (by omega)
          have B3 := fun (W : World) (h : Types W A n K T) => pwrite_any A n c K T 0 0 false W hn h (by omega)
          rw [hbad.e, hbad.k, hbad.t] at B1
          rw [hbad.e, hbad.a, hbad.s] at B2
          rw [hbad.w] at B3
          have E1 := Lib.hid B1
          have E2 := Lib.hid B2
          have E3 := Lib.hid B3
          have HT := Lib.hid hT
          clear B1 B2 B3 hbad hT
          go_wp2
          go_region_held3 (fun w' => w'.cell? ⟨G, k, none⟩ = some (.slice A n c) ∧ w'.cell? ⟨wr.heap.size, 0, none⟩ = some (.int .i64 99) ∧ w'.cell? ⟨wr.heap.size, 1, none⟩ = some (.bool false) ∧ w'.cell? ⟨wr.heap.size, 2, none⟩ = some (.int .u8 3)) (first | go_keep | (refine ⟨?_, ?_, ?_, ?_⟩ <;> go_simp) | ((try dsimp only); (repeat' apply And.intro) <;> (first | assumption | (go_simp; done))))
            (first
              | (go_at_call 10
                 refine (E1.out _ (by first | exact HT.out.alloc _ | exact (HT.out.alloc _).drew | exact (HT.out.alloc _).alloc _ | exact ((HT.out.alloc _).alloc _).drew)).mono ?_
                 rintro e w2 ⟨rfl, hb2⟩
                 have hC2 : Below wr.heap.size wr w2 := Below.call (by repeat (first | exact Below.refl _ _ | (refine Below.alloc ?_ (by first | omega | (simp; done) | (simp; omega)) _) | refine Below.drew ?_)) hb2
                 have hs2 : wr.heap.size < w2.heap.size := by have := hb2.size; simp at this; omega
                 have q0 : w2.cell? ⟨G, k, none⟩ = some (.slice A n c) := (hC2.cell (p := ⟨_, k, none⟩) hgl).trans c0
                 have q1 : w2.cell? ⟨wr.heap.size, 0, none⟩ = some (.int .i64 99) := (hb2.cell (p := ⟨wr.heap.size, 0, none⟩) (by first | omega | (simp; done) | (simp; omega))).trans (by go_simp)
                 have q2 : w2.cell? ⟨wr.heap.size, 1, none⟩ = some (.bool false) := (hb2.cell (p := ⟨wr.heap.size, 1, none⟩) (by first | omega | (simp; done) | (simp; omega))).trans (by go_simp)
                 have q3 : w2.cell? ⟨wr.heap.size, 2, none⟩ = some (.int .u8 3) := (hb2.cell (p := ⟨wr.heap.size, 2, none⟩) (by first | omega | (simp; done) | (simp; omega))).trans (by go_simp)
                 have hgl2 : G < w2.heap.size := by omega
                 obtain ⟨hcc, hff⟩ := bcell hb2
                 have hz9 := hb2.size
                 clear hb2)
              | fail)
          all_goals
            have hz2 := hC2.size
            clear hcc hff
            go_wp2_with fail
            refine (E2.out _ (HT.out.below' (by repeat (first | exact hC2 | (refine Below.setCell ?_ (by first | omega | (simp; done) | (simp; omega)) _) | (refine Below.alloc ?_ (by first | omega | (simp; done) | (simp; omega)) _) | refine Below.drew ?_)))).mono ?_
            rintro e w3 ⟨rfl, hb3⟩
            have hC3 : Below wr.heap.size wr w3 := Below.call (by repeat (first | exact hC2 | (refine Below.setCell ?_ (by first | omega | (simp; done) | (simp; omega)) _) | (refine Below.alloc ?_ (by first | omega | (simp; done) | (simp; omega)) _) | refine Below.drew ?_)) hb3
            have hz3 := hC3.size
            have p0 : w3.cell? ⟨G, k, none⟩ = some (.slice A n c) := (hC3.cell (p := ⟨_, k, none⟩) hgl).trans c0
            clear hb3
            go_wp2_with fail
            refine (E3.out _ (HT.out.below' (by repeat (first | exact hC3 | (refine Below.setCell ?_ (by first | omega | (simp; done) | (simp; omega)) _) | (refine Below.alloc ?_ (by first | omega | (simp; done) | (simp; omega)) _) | refine Below.drew ?_)))).mono ?_
            rintro e w4 ⟨rfl, hb4⟩
            have hC4 : Below wr.heap.size wr w4 := Below.call (by repeat (first | exact hC3 | (refine Below.setCell ?_ (by first | omega | (simp; done) | (simp; omega)) _) | (refine Below.alloc ?_ (by first | omega | (simp; done) | (simp; omega)) _) | refine Below.drew ?_)) hb4
            clear hb4
            go_wp2
            go_roundw
            case rel => exact ⟨k + 1, by omega, by go_num, HWR.out.below hC4, HM16.out.below' hC4, Below.call hB9 hC4⟩
            case measure => simp [intOf]; omega
        · have hdk : decide ((k : Int) < 6) = false := by simp; omega
          clear hlt HWR
          obtain ⟨W0, hW0⟩ : ∃ W0 : World, W0 = wr.alloc (.cells #[.int .u8 3, .int .u8 2, .int .u8 5, .int .u8 1] 27) := ⟨_, rfl⟩
          have HSH : Hid (Types W0 (some ⟨wr.heap.size, 0, none⟩) 2 shK shT) := by
            subst hW0
            intro _
            refine ⟨wr.heap.size, 0, rfl, by simp, fun i hi => ?_⟩
            have hi' : i = 0 ∨ i = 1 := by omega
            rcases hi' with rfl | rfl <;> (refine ⟨by go_simp; rfl, by go_simp; rfl, by decide, by decide, by decide, by decide⟩)
          have HM17 : Hid (Types W0 (some ⟨w.heap.size, 0, none⟩) 16 (fun _ => 1) (fun _ => 0)) := by
            subst hW0
            exact HM16.out.alloc _
          clear HM16
          have HM16 := HM17
          clear HM17
          have hB0 : Below w.heap.size w W0 := by
            subst hW0
            exact hB9.alloc hB9.size _
          have hE0 : Below W0.heap.size W0 W0 := Below.refl _ _
          have HW0 := Lib.hid hW0
          clear hW0
          go_wp2_with fail
          rw [← HW0.out]
          refine (example_any _).mono ?_
          rintro e v1 ⟨rfl, rfl⟩
          go_wp2_with fail
          refine (D1.out _ _ (exAt _ _ (by simp))).mono ?_
          rintro e x1 ⟨rfl, hb1⟩
          have hE1 : Below W0.heap.size W0 x1 := Below.call (by repeat (first | exact hE0 | (refine Below.setCell ?_ (by first | omega | (simp; done) | (simp; omega)) _) | (refine Below.alloc ?_ (by first | omega | (simp; done) | (simp; omega)) _) | refine Below.drew ?_)) hb1
          have hF1 := hE1.size
          clear hb1
          go_wp2_with fail
          refine (example_any _).mono ?_
          rintro e v2 ⟨rfl, rfl⟩
          go_wp2_with fail
          refine (D2.out _ _ (exAt _ _ (by simp))).mono ?_
          rintro e x2 ⟨rfl, hb2⟩
          have hE2 : Below W0.heap.size W0 x2 := Below.call (by repeat (first | exact hE1 | (refine Below.setCell ?_ (by first | omega | (simp; done) | (simp; omega)) _) | (refine Below.alloc ?_ (by first | omega | (simp; done) | (simp; omega)) _) | refine Below.drew ?_)) hb2
          have hF2 := hE2.size
          clear hb2
          go_wp2_with fail
          refine (example_any _).mono ?_
          rintro e v3 ⟨rfl, rfl⟩
          go_wp2_with fail
          refine (D3.out _ _ (exAt _ _ (by simp))).mono ?_
          rintro e x3 ⟨rfl, hb3⟩
          have hE3 : Below W0.heap.size W0 x3 := Below.call (by repeat (first | exact hE2 | (refine Below.setCell ?_ (by first | omega | (simp; done) | (simp; omega)) _) | (refine Below.alloc ?_ (by first | omega | (simp; done) | (simp; omega)) _) | refine Below.drew ?_)) hb3
          have hF3 := hE3.size
          clear hb3
          go_wp2_with fail
          refine (D4.out _ _ (HM16.out.below' (by repeat (first | exact hE3 | (refine Below.setCell ?_ (by first | omega | (simp; done) | (simp; omega)) _) | (refine Below.alloc ?_ (by first | omega | (simp; done) | (simp; omega)) _) | refine Below.drew ?_)))).mono ?_
          rintro e x4 ⟨rfl, hb4⟩
          have hE4 : Below W0.heap.size W0 x4 := Below.call (by repeat (first | exact hE3 | (refine Below.setCell ?_ (by first | omega | (simp; done) | (simp; omega)) _) | (refine Below.alloc ?_ (by first | omega | (simp; done) | (simp; omega)) _) | refine Below.drew ?_)) hb4
          have hF4 := hE4.size
          clear hb4
          go_wp2_with fail
          refine (example_any _).mono ?_
          rintro e v5 ⟨rfl, rfl⟩
          go_wp2_with fail
          refine (D5.out _ _ (exAt _ _ (by simp))).mono ?_
          rintro e x5 ⟨rfl, hb5⟩
          have hE5 : Below W0.heap.size W0 x5 := Below.call (by repeat (first | exact hE4 | (refine Below.setCell ?_ (by first | omega | (simp; done) | (simp; omega)) _) | (refine Below.alloc ?_ (by first | omega | (simp; done) | (simp; omega)) _) | refine Below.drew ?_)) hb5
          have hF5 := hE5.size
          clear hb5
          go_wp2_with fail
          refine (D6.out _ _ (HSH.out.below' (by repeat (first | exact hE5 | (refine Below.setCell ?_ (by first | omega | (simp; done) | (simp; omega)) _) | (refine Below.alloc ?_ (by first | omega | (simp; done) | (simp; omega)) _) | refine Below.drew ?_)))).mono ?_
          rintro e x6 ⟨rfl, hb6⟩
          have hE6 : Below W0.heap.size W0 x6 := Below.call (by repeat (first | exact hE5 | (refine Below.setCell ?_ (by first | omega | (simp; done) | (simp; omega)) _) | (refine Below.alloc ?_ (by first | omega | (simp; done) | (simp; omega)) _) | refine Below.drew ?_)) hb6
          have hF6 := hE6.size
          clear hb6
          go_wp2_with fail
          refine (D7.out _ _ (HSH.out.below' (by repeat (first | exact hE6 | (refine Below.setCell ?_ (by first | omega | (simp; done) | (simp; omega)) _) | (refine Below.alloc ?_ (by first | omega | (simp; done) | (simp; omega)) _) | refine Below.drew ?_)))).mono ?_
          rintro e x7 ⟨rfl, hb7⟩
          have hE7 : Below W0.heap.size W0 x7 := Below.call (by repeat (first | exact hE6 | (refine Below.setCell ?_ (by first | omega | (simp; done) | (simp; omega)) _) | (refine Below.alloc ?_ (by first | omega | (simp; done) | (simp; omega)) _) | refine Below.drew ?_)) hb7
          have hF7 := hE7.size
          clear hb7
          go_wp2_with fail
          refine (D8.out _ _ (HSH.out.below' (by repeat (first | exact hE7 | (refine Below.setCell ?_ (by first | omega | (simp; done) | (simp; omega)) _) | (refine Below.alloc ?_ (by first | omega | (simp; done) | (simp; omega)) _) | refine Below.drew ?_)))).mono ?_
          rintro e x8 ⟨rfl, hb8⟩
          have hE8 : Below W0.heap.size W0 x8 := Below.call (by repeat (first | exact hE7 | (refine Below.setCell ?_ (by first | omega | (simp; done) | (simp; omega)) _) | (refine Below.alloc ?_ (by first | omega | (simp; done) | (simp; omega)) _) | refine Below.drew ?_)) hb8
          have hF8 := hE8.size
          clear hb8
          go_wp2_with fail
          refine (D9.out _ _ (HSH.out.below' (by repeat (first | exact hE8 | (refine Below.setCell ?_ (by first | omega | (simp; done) | (simp; omega)) _) | (refine Below.alloc ?_ (by first | omega | (simp; done) | (simp; omega)) _) | refine Below.drew ?_)))).mono ?_
          rintro e x9 ⟨rfl, hb9⟩
          have hE9 : Below W0.heap.size W0 x9 := Below.call (by repeat (first | exact hE8 | (refine Below.setCell ?_ (by first | omega | (simp; done) | (simp; omega)) _) | (refine Below.alloc ?_ (by first | omega | (simp; done) | (simp; omega)) _) | refine Below.drew ?_)) hb9
          have hF9 := hE9.size
          clear hb9
          go_wp2_with fail
          refine (D10.out _ _ (HSH.out.below' (by repeat (first | exact hE9 | (refine Below.setCell ?_ (by first | omega | (simp; done) | (simp; omega)) _) | (refine Below.alloc ?_ (by first | omega | (simp; done) | (simp; omega)) _) | refine Below.drew ?_)))).mono ?_
          rintro e x10 ⟨rfl, hb10⟩
          have hE10 : Below W0.heap.size W0 x10 := Below.call (by repeat (first | exact hE9 | (refine Below.setCell ?_ (by first | omega | (simp; done) | (simp; omega)) _) | (refine Below.alloc ?_ (by first | omega | (simp; done) | (simp; omega)) _) | refine Below.drew ?_)) hb10
          have hF10 := hE10.size
          clear hb10
          go_wp2_with fail
          refine (example_any _).mono ?_
          rintro e v11 ⟨rfl, rfl⟩
          go_wp2_with fail
          refine (D11.out _ _ (exAt _ _ (by simp))).mono ?_
          rintro e x11 ⟨rfl, hb11⟩
          have hE11 : Below W0.heap.size W0 x11 := Below.call (by repeat (first | exact hE10 | (refine Below.setCell ?_ (by first | omega | (simp; done) | (simp; omega)) _) | (refine Below.alloc ?_ (by first | omega | (simp; done) | (simp; omega)) _) | refine Below.drew ?_)) hb11
          have hF11 := hE11.size
          clear hb11
          go_wp2_with fail
          refine (example_any _).mono ?_
          rintro e v12 ⟨rfl, rfl⟩
          go_wp2_with fail
          refine (D12.out _ _ (exAt _ _ (by simp))).mono ?_
          rintro e x12 ⟨rfl, hb12⟩
          have hE12 : Below W0.heap.size W0 x12 := Below.call (by repeat (first | exact hE11 | (refine Below.setCell ?_ (by first | omega | (simp; done) | (simp; omega)) _) | (refine Below.alloc ?_ (by first | omega | (simp; done) | (simp; omega)) _) | refine Below.drew ?_)) hb12
          have hF12 := hE12.size
          clear hb12
          go_wp2_with fail
          refine (palive_any _).mono ?_
          rintro e x13 ⟨rfl, hb13⟩
          have hE13 : Below W0.heap.size W0 x13 := Below.call (by repeat (first | exact hE12 | (refine Below.setCell ?_ (by first | omega | (simp; done) | (simp; omega)) _) | (refine Below.alloc ?_ (by first | omega | (simp; done) | (simp; omega)) _) | refine Below.drew ?_)) hb13
          clear hb13
          go_wp2
          go_ret
          exact ⟨rfl, hB0.trans (hE13.mono hB0.size)⟩

end Go.Proofs.Ytmjklmdjlojmlaa
