/- The statement ShapeNames: its walk. No condition. -/
import Derived.Test.YthkfadnkonokdaaOnce
namespace Go.Proofs.Ythkfadnkonokdaa
open Go.RowKit

def kindsC : Array Value := #[.int .u8 1, .int .u8 2, .int .u8 3, .int .u8 3, .int .u8 4, .int .u8 4, .int .u8 5, .int .u8 5]
def tosC : Array Value := #[.int .u8 0, .int .u8 0, .int .u8 1, .int .u8 2, .int .u8 1, .int .u8 2, .int .u8 1, .int .u8 2]
def badsC : Array Value := #[.string ⟨#[]⟩, .string ⟨#[73, 110, 116]⟩, .string ⟨#[38, 32, 105, 110, 116]⟩, .string ⟨#[38, 109, 117, 116, 105, 110, 116]⟩, .string ⟨#[38, 109, 117, 116, 32, 32, 105, 110, 116]⟩, .string ⟨#[42, 42, 105, 110, 116]⟩, .string ⟨#[38, 38, 105, 110, 116]⟩, .string ⟨#[105, 110, 116, 32]⟩, .string ⟨#[42, 109, 117, 116, 32, 105, 110, 116]⟩, .string ⟨#[38, 109, 117, 116]⟩]
def badS (i : Nat) : ByteArray := [⟨#[]⟩, ⟨#[73, 110, 116]⟩, ⟨#[38, 32, 105, 110, 116]⟩, ⟨#[38, 109, 117, 116, 105, 110, 116]⟩, ⟨#[38, 109, 117, 116, 32, 32, 105, 110, 116]⟩, ⟨#[42, 42, 105, 110, 116]⟩, ⟨#[38, 38, 105, 110, 116]⟩, ⟨#[105, 110, 116, 32]⟩, ⟨#[42, 109, 117, 116, 32, 105, 110, 116]⟩, ⟨#[38, 109, 117, 116]⟩].getD i ⟨#[]⟩
theorem kindCell (i : Nat) (h : i < 8) : kindsC[i]? = some (.int .u8 (wK i)) := by
  have : i = 0 ∨ i = 1 ∨ i = 2 ∨ i = 3 ∨ i = 4 ∨ i = 5 ∨ i = 6 ∨ i = 7 := by omega
  rcases this with rfl | rfl | rfl | rfl | rfl | rfl | rfl | rfl <;> rfl
theorem toCell (i : Nat) (h : i < 8) : tosC[i]? = some (.int .u8 (wT i)) := by
  have : i = 0 ∨ i = 1 ∨ i = 2 ∨ i = 3 ∨ i = 4 ∨ i = 5 ∨ i = 6 ∨ i = 7 := by omega
  rcases this with rfl | rfl | rfl | rfl | rfl | rfl | rfl | rfl <;> rfl
theorem badCell (i : Nat) (h : i < 10) : badsC[i]? = some (.string (badS i)) ∧ (badS i).size ≤ maxLen ∧ readE (badS i) = 12 := by
  have : i = 0 ∨ i = 1 ∨ i = 2 ∨ i = 3 ∨ i = 4 ∨ i = 5 ∨ i = 6 ∨ i = 7 ∨ i = 8 ∨ i = 9 := by omega
  rcases this with rfl | rfl | rfl | rfl | rfl | rfl | rfl | rfl | rfl | rfl <;> exact ⟨rfl, by decide, by decide +kernel⟩

/-- How many types of kind k, with a To less than o, are valid; and how many with a kind less than k. -/
def cntRow (k o : Int) : Int := if k = 1 ∨ k = 2 then (if o < 1 then 0 else 1) else if 3 ≤ k ∧ k ≤ 5 then (if o < 2 then 0 else if o < 3 then 1 else 2) else 0
def cntAll (k : Int) : Int := if k < 2 then 0 else if k < 3 then 1 else if k < 4 then 2 else if k < 5 then 4 else if k < 6 then 6 else 8
theorem cntRow_ok {k o : Int} (h : okB k o = true) (ho : 0 ≤ o) : cntRow k (o + 1) = cntRow k o + 1 := by
  rw [okB_iff] at h
  unfold cntRow
  repeat' split
  all_goals omega
theorem cntRow_no {k o : Int} (h : okB k o = false) (ho : 0 ≤ o) : cntRow k (o + 1) = cntRow k o := by
  rw [okB_not] at h
  unfold cntRow
  repeat' split
  all_goals omega
theorem cntRow_zero (k : Int) : cntRow k 0 = 0 := by
  unfold cntRow
  repeat' split
  all_goals omega
theorem cntAll_row {k : Int} (hk : 0 ≤ k) : cntAll (k + 1) = cntAll k + cntRow k 256 := by
  unfold cntAll cntRow
  repeat' split
  all_goals omega
theorem cnt_bd (k o : Int) : 0 ≤ cntAll k ∧ cntAll k ≤ 8 ∧ 0 ≤ cntRow k o ∧ cntRow k o ≤ 2 := by
  unfold cntAll cntRow
  refine ⟨?_, ?_, ?_, ?_⟩
  all_goals repeat' split
  all_goals omega

set_option maxRecDepth 100000 in
set_option maxHeartbeats 8000000 in
theorem names_walk (w : World) : Calls Try.prog 7 #[] w (Ret w (.bool true)) := by
  go_enter Try.func7, Try.ntmps7
  go_wp2
  go_loopw [4] (fun v wr => ∃ i : Nat, i ≤ 8 ∧ v = .int .i64 i ∧ Below (w.heap.size + 3) (((w.alloc (.cells namesCells 9)).alloc (.cells kindsC 5)).alloc (.cells tosC 5)) wr) (fun v _ => (8 - intOf v).toNat)
  case atStart => exact ⟨0, by omega, rfl, Below.refl _ _⟩
  case round =>
    obtain ⟨i, hi, rfl, hB0⟩ := hrel
    have hS0 := hB0.size
    simp only [World.size_alloc] at hS0
    have hW0 : Below w.heap.size w wr := (((Below.refl _ _).alloc (by first | omega | (simp; done) | (simp; omega)) _ |>.alloc (by first | omega | (simp; done) | (simp; omega)) _ |>.alloc (by first | omega | (simp; done) | (simp; omega)) _)).trans (hB0.mono (by omega))
    by_cases hlt : i < 8
    · have hr := w_range (c := (i : Int)) (by omega) (by omega)
      have hok := (w_iff (j := (i : Int)) (k := wK i) (t := wT i) (by omega) (by omega)).1 ⟨rfl, rfl⟩
      have ho := of_hit hok.1 hok.2
      have ht : textV (wK i) (wT i) = nm i := by rw [textV, if_pos hok.1, hok.2]
      have hrd := text_read hok.1
      rw [ht] at hrd
      have hsz := text_size hok.1
      rw [ht] at hsz
      have g0 : wr.cell? ⟨w.heap.size, i, none⟩ = some (.string (nm i)) := by
        rw [hB0.cell (p := ⟨w.heap.size, i, none⟩) (by simp), World.cell?_alloc_lt _ _ _ (by simp; omega), World.cell?_alloc_lt _ _ _ (by simp), World.cell?_alloc_new]
        exact nameCell i (by omega) (by omega)
      have g1 : wr.cell? ⟨w.heap.size + 1, i, none⟩ = some (.int .u8 (wK i)) := by
        rw [hB0.cell (p := ⟨w.heap.size + 1, i, none⟩) (by simp), World.cell?_alloc_lt _ _ _ (by simp), show w.heap.size + 1 = (w.alloc (.cells namesCells 9)).heap.size from by simp, World.cell?_alloc_new]
        exact kindCell i hlt
      have g2 : wr.cell? ⟨w.heap.size + 1 + 1, i, none⟩ = some (.int .u8 (wT i)) := by
        rw [hB0.cell (p := ⟨w.heap.size + 1 + 1, i, none⟩) (by simp), show w.heap.size + 1 + 1 = ((w.alloc (.cells namesCells 9)).alloc (.cells kindsC 5)).heap.size from by simp, World.cell?_alloc_new]
        exact toCell i hlt
      have Ho := Lib.hid ho
      have Ht := Lib.hid ht
      have Hc := Lib.hid (chk_ok hok.1)
      have Hr := Lib.hid hrd
      clear ho ht hrd hok
      generalize wK (i : Int) = k at *
      generalize wT (i : Int) = t at *
      generalize nm (i : Int) = a at *
      go_wp2_with fail
      refine (of_any i _ (by omega) (by omega)).mono ?_
      rintro e w1 ⟨rfl, hb1⟩
      have hB1 : Below (w.heap.size + 3) (((w.alloc (.cells namesCells 9)).alloc (.cells kindsC 5)).alloc (.cells tosC 5)) w1 := Below.trans (by repeat (first | exact hB0 | (refine Below.setCell ?_ (by first | omega | (simp; done) | (simp; omega)) _) | (refine Below.alloc ?_ (by first | omega | (simp; done) | (simp; omega)) _) | refine Below.drew ?_)) (hb1.mono (by first | omega | (simp; done) | (simp; omega)))
      have hS1 := hB1.size
      have hT1 := hb1.size
      try simp only [World.size_alloc] at hS1 hT1
      obtain ⟨hc1, hf1⟩ := bcell hb1
      rw [Ho.out.1, Ho.out.2.1, Ho.out.2.2]
      go_wp2_with fail
      refine (text_any k t _ (by omega) (by omega) (by omega) (by omega)).mono ?_
      rintro e w2 ⟨rfl, hb2⟩
      have hB2 : Below (w.heap.size + 3) (((w.alloc (.cells namesCells 9)).alloc (.cells kindsC 5)).alloc (.cells tosC 5)) w2 := Below.trans (by repeat (first | exact hB1 | (refine Below.setCell ?_ (by first | omega | (simp; done) | (simp; omega)) _) | (refine Below.alloc ?_ (by first | omega | (simp; done) | (simp; omega)) _) | refine Below.drew ?_)) (hb2.mono (by first | omega | (simp; done) | (simp; omega)))
      have hS2 := hB2.size
      have hT2 := hb2.size
      try simp only [World.size_alloc] at hS2 hT2
      obtain ⟨hc2, hf2⟩ := bcell hb2
      rw [Ht.out, Hc.out]
      have k0 : w2.cell? ⟨w1.heap.size, 0, none⟩ = some (.int .u8 k) := by rw [hc2 _ _ (by first | omega | (simp; done) | (simp; omega))]; go_simp
      have k1 : w2.cell? ⟨w1.heap.size, 1, none⟩ = some (.int .u8 t) := by rw [hc2 _ _ (by first | omega | (simp; done) | (simp; omega))]; go_simp
      have g0' : w2.cell? ⟨w.heap.size, i, none⟩ = some (.string a) := by rw [hc2 _ _ (by first | omega | (simp; done) | (simp; omega)), World.cell?_alloc_lt _ _ _ (by first | omega | (simp; done) | (simp; omega)), hc1 _ _ (by first | omega | (simp; done) | (simp; omega))]; exact g0
      have g1' : w2.cell? ⟨w.heap.size + 1, i, none⟩ = some (.int .u8 k) := by rw [hc2 _ _ (by first | omega | (simp; done) | (simp; omega)), World.cell?_alloc_lt _ _ _ (by first | omega | (simp; done) | (simp; omega)), hc1 _ _ (by first | omega | (simp; done) | (simp; omega))]; exact g1
      have g2' : w2.cell? ⟨w.heap.size + 1 + 1, i, none⟩ = some (.int .u8 t) := by rw [hc2 _ _ (by first | omega | (simp; done) | (simp; omega)), World.cell?_alloc_lt _ _ _ (by first | omega | (simp; done) | (simp; omega)), hc1 _ _ (by first | omega | (simp; done) | (simp; omega))]; exact g2
      clear hc1 hf1 hc2 hf2 g0 g1 g2
      go_wp2_with fail
      refine (read_any a _ hsz).mono ?_
      rintro e w3 ⟨rfl, hb3⟩
      have hB3 : Below (w.heap.size + 3) (((w.alloc (.cells namesCells 9)).alloc (.cells kindsC 5)).alloc (.cells tosC 5)) w3 := Below.trans (by repeat (first | exact hB2 | (refine Below.setCell ?_ (by first | omega | (simp; done) | (simp; omega)) _) | (refine Below.alloc ?_ (by first | omega | (simp; done) | (simp; omega)) _) | refine Below.drew ?_)) (hb3.mono (by first | omega | (simp; done) | (simp; omega)))
      have hS3 := hB3.size
      have hT3 := hb3.size
      try simp only [World.size_alloc] at hS3 hT3
      obtain ⟨hc3, hf3⟩ := bcell hb3
      rw [Hr.out.1, Hr.out.2.1, Hr.out.2.2]
      have h0 : w3.cell? ⟨w1.heap.size, 0, none⟩ = some (.int .u8 k) := by rw [hc3 _ _ (by first | omega | (simp; done) | (simp; omega))]; exact k0
      have h1 : w3.cell? ⟨w1.heap.size, 1, none⟩ = some (.int .u8 t) := by rw [hc3 _ _ (by first | omega | (simp; done) | (simp; omega))]; exact k1
      have j0 : w3.cell? ⟨w.heap.size, i, none⟩ = some (.string a) := by rw [hc3 _ _ (by first | omega | (simp; done) | (simp; omega))]; exact g0'
      have j1 : w3.cell? ⟨w.heap.size + 1, i, none⟩ = some (.int .u8 k) := by rw [hc3 _ _ (by first | omega | (simp; done) | (simp; omega))]; exact g1'
      have j2 : w3.cell? ⟨w.heap.size + 1 + 1, i, none⟩ = some (.int .u8 t) := by rw [hc3 _ _ (by first | omega | (simp; done) | (simp; omega))]; exact g2'
      clear hc3 hf3 k0 k1 g0' g1' g2'
      have z0 : w1.heap.size < w3.heap.size := by omega
      have z1 : w.heap.size < w3.heap.size := by omega
      have z2 : w.heap.size + 1 < w3.heap.size := by omega
      have z3 : w.heap.size + 1 + 1 < w3.heap.size := by omega
      have d0 := Later.cell (w := w3.alloc (.cells #[.int .u8 k, .int .u8 t] 23)) (b := w1.heap.size) (o := 0) (v := some (.int .u8 k)) (by go_simp) (by first | omega | (simp; done) | (simp; omega))
      have d1 := Later.cell (w := w3.alloc (.cells #[.int .u8 k, .int .u8 t] 23)) (b := w1.heap.size) (o := 1) (v := some (.int .u8 t)) (by go_simp) (by first | omega | (simp; done) | (simp; omega))
      have d2 := Later.cell (w := w3.alloc (.cells #[.int .u8 k, .int .u8 t] 23)) (b := w3.heap.size) (o := 0) (v := some (.int .u8 k)) (by go_simp) (by first | omega | (simp; done) | (simp; omega))
      have d3 := Later.cell (w := w3.alloc (.cells #[.int .u8 k, .int .u8 t] 23)) (b := w3.heap.size) (o := 1) (v := some (.int .u8 t)) (by go_simp) (by first | omega | (simp; done) | (simp; omega))
      have d4 := Later.cell (w := w3.alloc (.cells #[.int .u8 k, .int .u8 t] 23)) (b := w.heap.size) (o := i) (v := some (.string a)) (by go_simp) (by first | omega | (simp; done) | (simp; omega))
      have d5 := Later.cell (w := w3.alloc (.cells #[.int .u8 k, .int .u8 t] 23)) (b := w.heap.size + 1) (o := i) (v := some (.int .u8 k)) (by go_simp) (by first | omega | (simp; done) | (simp; omega))
      have d6 := Later.cell (w := w3.alloc (.cells #[.int .u8 k, .int .u8 t] 23)) (b := w.heap.size + 1 + 1) (o := i) (v := some (.int .u8 t)) (by go_simp) (by first | omega | (simp; done) | (simp; omega))
      clear h0 h1 j0 j1 j2
      go_wp2
      refine wp_region_later (by kernel_rfl) (by kernel_rfl) ?_
      repeat go_big_quiet_step (fail)
      refine wpQuiet_nil ?_
      rintro _ ⟨x, rfl⟩
      go_wp2
      go_roundw
      case rel => exact ⟨i + 1, by omega, by go_num, (hB3.alloc (by first | omega | (simp; done) | (simp; omega)) _).trans (x.below.mono (by first | omega | (simp; done) | (simp; omega)))⟩
      case measure => simp [intOf]; omega
    · have hge : 8 ≤ i := by omega
      have hd8 : decide ((i : Int) < 8) = false := by simp; omega
      clear hlt
      go_wp2
      obtain ⟨wo, rfl⟩ : ∃ wo : World, wo = wr := ⟨_, rfl⟩
      clear hB0 hS0
      go_loopw [11, 12] (fun u v wr => ∃ k : Nat, k ≤ 256 ∧ v = .int .i64 k ∧ u = .int .i64 (cntAll k) ∧ Below w.heap.size w wr) (fun _ v _ => (256 - intOf v).toNat)
      case atStart => exact ⟨0, by omega, rfl, rfl, hW0⟩
      case round =>
        obtain ⟨k, hk, rfl, rfl, hK0⟩ := hrel
        have hbd := cnt_bd k 0
        by_cases hlt : k < 256
        · have hdk : decide ((k : Int) < 256) = true := by simp; omega
          clear hbd
          go_wp2
          obtain ⟨wq, rfl⟩ : ∃ wq : World, wq = wr := ⟨_, rfl⟩
          go_loopw [11, 13] (fun u v wr => ∃ o : Nat, o ≤ 256 ∧ v = .int .i64 o ∧ u = .int .i64 (cntAll k + cntRow k o) ∧ Below w.heap.size w wr) (fun _ v _ => (256 - intOf v).toNat)
          case atStart => exact ⟨0, by omega, rfl, by rw [show ((0 : Nat) : Int) = 0 from rfl, cntRow_zero, Int.add_zero], hK0⟩
          case round =>
            obtain ⟨o, ho, rfl, rfl, hL0⟩ := hrel
            have hM := hL0.size
            by_cases hlt' : o < 256
            · have hbd := cnt_bd k o
              obtain ⟨hbd1, hbd2, hbd3, hbd4⟩ := hbd
              generalize hca : cntAll (k : Int) + cntRow k o = c at *
              have Hca := Lib.hid hca
              have hx1 : 0 ≤ c := by omega
              have hx2 : c ≤ 10 := by omega
              clear hca hbd1 hbd2 hbd3 hbd4
              rcases okB_cases k o with h | h
              · have Hs := Lib.hid (cntRow_ok h (by omega))
                have Hc := Lib.hid (chk_ok h)
                clear h
                go_wp2_with fail
                refine (size_any k o _ (by omega) (by omega) (by omega) (by omega)).mono ?_
                rintro e w1 ⟨rfl, hb1⟩
                have hB1 : Below (w.heap.size) (w) w1 := Below.trans (by repeat (first | exact hL0 | (refine Below.setCell ?_ (by first | omega | (simp; done) | (simp; omega)) _) | (refine Below.alloc ?_ (by first | omega | (simp; done) | (simp; omega)) _) | refine Below.drew ?_)) (hb1.mono (by first | omega | (simp; done) | (simp; omega)))
                have hS1 := hB1.size
                have hT1 := hb1.size
                try simp only [World.size_alloc] at hS1 hT1
                obtain ⟨hc1, hf1⟩ := bcell hb1
                rw [Hc.out]
                have k1_0 : w1.cell? ⟨wr.heap.size, 0, none⟩ = some (.int .u8 k) := by rw [hc1 _ _ (by first | omega | (simp; done) | (simp; omega))]; go_simp
                have k1_1 : w1.cell? ⟨wr.heap.size, 1, none⟩ = some (.int .u8 o) := by rw [hc1 _ _ (by first | omega | (simp; done) | (simp; omega))]; go_simp
                clear hc1 hf1
                go_wp2_with fail
                refine (target_any k o _ (by omega) (by omega) (by omega) (by omega)).mono ?_
                rintro e w2 ⟨rfl, hb2⟩
                have hB2 : Below (w.heap.size) (w) w2 := Below.trans (by repeat (first | exact hB1 | (refine Below.setCell ?_ (by first | omega | (simp; done) | (simp; omega)) _) | (refine Below.alloc ?_ (by first | omega | (simp; done) | (simp; omega)) _) | refine Below.drew ?_)) (hb2.mono (by first | omega | (simp; done) | (simp; omega)))
                have hS2 := hB2.size
                have hT2 := hb2.size
                try simp only [World.size_alloc] at hS2 hT2
                obtain ⟨hc2, hf2⟩ := bcell hb2
                have k2_0 : w2.cell? ⟨wr.heap.size, 0, none⟩ = some (.int .u8 k) := by rw [hc2 _ _ (by first | omega | (simp; done) | (simp; omega))]; exact k1_0
                have k2_1 : w2.cell? ⟨wr.heap.size, 1, none⟩ = some (.int .u8 o) := by rw [hc2 _ _ (by first | omega | (simp; done) | (simp; omega))]; exact k1_1
                clear hc2 hf2 k1_0 k1_1
                have z2 : wr.heap.size < w2.heap.size := by omega
                go_wp2_with fail
                refine (code_any k o _ (by omega) (by omega) (by omega) (by omega)).mono ?_
                rintro e w3 ⟨rfl, hb3⟩
                have hB3 : Below (w.heap.size) (w) w3 := Below.trans (by repeat (first | exact hB2 | (refine Below.setCell ?_ (by first | omega | (simp; done) | (simp; omega)) _) | (refine Below.alloc ?_ (by first | omega | (simp; done) | (simp; omega)) _) | refine Below.drew ?_)) (hb3.mono (by first | omega | (simp; done) | (simp; omega)))
                have hS3 := hB3.size
                have hT3 := hb3.size
                try simp only [World.size_alloc] at hS3 hT3
                obtain ⟨hc3, hf3⟩ := bcell hb3
                rw [Hc.out]
                have k3_0 : w3.cell? ⟨wr.heap.size, 0, none⟩ = some (.int .u8 k) := by rw [hc3 _ _ (by first | omega | (simp; done) | (simp; omega)), World.cell?_alloc_lt _ _ _ (by first | omega | (simp; done) | (simp; omega))]; exact k2_0
                have k3_1 : w3.cell? ⟨wr.heap.size, 1, none⟩ = some (.int .u8 o) := by rw [hc3 _ _ (by first | omega | (simp; done) | (simp; omega)), World.cell?_alloc_lt _ _ _ (by first | omega | (simp; done) | (simp; omega))]; exact k2_1
                clear hc3 hf3 k2_0 k2_1
                go_wp2_with fail
                refine (text_any k o _ (by omega) (by omega) (by omega) (by omega)).mono ?_
                rintro e w4 ⟨rfl, hb4⟩
                have hB4 : Below (w.heap.size) (w) w4 := Below.trans (by repeat (first | exact hB3 | (refine Below.setCell ?_ (by first | omega | (simp; done) | (simp; omega)) _) | (refine Below.alloc ?_ (by first | omega | (simp; done) | (simp; omega)) _) | refine Below.drew ?_)) (hb4.mono (by first | omega | (simp; done) | (simp; omega)))
                have hS4 := hB4.size
                have hT4 := hb4.size
                try simp only [World.size_alloc] at hS4 hT4
                obtain ⟨hc4, hf4⟩ := bcell hb4
                rw [Hc.out]
                have k4_0 : w4.cell? ⟨wr.heap.size, 0, none⟩ = some (.int .u8 k) := by rw [hc4 _ _ (by first | omega | (simp; done) | (simp; omega))]; exact k3_0
                have k4_1 : w4.cell? ⟨wr.heap.size, 1, none⟩ = some (.int .u8 o) := by rw [hc4 _ _ (by first | omega | (simp; done) | (simp; omega))]; exact k3_1
                clear hc4 hf4 k3_0 k3_1
                go_wp2_with fail
                refine (check_any k o _ (by omega) (by omega) (by omega) (by omega)).mono ?_
                rintro e w5 ⟨rfl, hb5⟩
                have hB5 : Below (w.heap.size) (w) w5 := Below.trans (by repeat (first | exact hB4 | (refine Below.setCell ?_ (by first | omega | (simp; done) | (simp; omega)) _) | (refine Below.alloc ?_ (by first | omega | (simp; done) | (simp; omega)) _) | refine Below.drew ?_)) (hb5.mono (by first | omega | (simp; done) | (simp; omega)))
                have hS5 := hB5.size
                have hT5 := hb5.size
                try simp only [World.size_alloc] at hS5 hT5
                obtain ⟨hc5, hf5⟩ := bcell hb5
                rw [Hc.out]
                have k5_0 : w5.cell? ⟨wr.heap.size, 0, none⟩ = some (.int .u8 k) := by rw [hc5 _ _ (by first | omega | (simp; done) | (simp; omega))]; exact k4_0
                have k5_1 : w5.cell? ⟨wr.heap.size, 1, none⟩ = some (.int .u8 o) := by rw [hc5 _ _ (by first | omega | (simp; done) | (simp; omega))]; exact k4_1
                clear hc5 hf5 k4_0 k4_1
                go_wp2
                go_roundw
                case rel => exact ⟨o + 1, by omega, by go_num, by rw [show ((o + 1 : Nat) : Int) = (o : Int) + 1 from by omega, Hs.out, ← Int.add_assoc, Hca.out], hB5⟩
                case measure => simp [intOf]; omega
              · have Hs := Lib.hid (cntRow_no h (by omega))
                have Hc := Lib.hid (chk_no h)
                have He := Lib.hid (show tgtE k o = 8 from by rw [tgtE, h]; rfl)
                clear h
                go_wp2_with fail
                refine (size_any k o _ (by omega) (by omega) (by omega) (by omega)).mono ?_
                rintro e w1 ⟨rfl, hb1⟩
                have hB1 : Below (w.heap.size) (w) w1 := Below.trans (by repeat (first | exact hL0 | (refine Below.setCell ?_ (by first | omega | (simp; done) | (simp; omega)) _) | (refine Below.alloc ?_ (by first | omega | (simp; done) | (simp; omega)) _) | refine Below.drew ?_)) (hb1.mono (by first | omega | (simp; done) | (simp; omega)))
                have hS1 := hB1.size
                have hT1 := hb1.size
                try simp only [World.size_alloc] at hS1 hT1
                obtain ⟨hc1, hf1⟩ := bcell hb1
                rw [Hc.out]
                have k1_0 : w1.cell? ⟨wr.heap.size, 0, none⟩ = some (.int .u8 k) := by rw [hc1 _ _ (by first | omega | (simp; done) | (simp; omega))]; go_simp
                have k1_1 : w1.cell? ⟨wr.heap.size, 1, none⟩ = some (.int .u8 o) := by rw [hc1 _ _ (by first | omega | (simp; done) | (simp; omega))]; go_simp
                clear hc1 hf1
                go_wp2_with fail
                refine (target_any k o _ (by omega) (by omega) (by omega) (by omega)).mono ?_
                rintro e w2 ⟨rfl, hb2⟩
                have hB2 : Below (w.heap.size) (w) w2 := Below.trans (by repeat (first | exact hB1 | (refine Below.setCell ?_ (by first | omega | (simp; done) | (simp; omega)) _) | (refine Below.alloc ?_ (by first | omega | (simp; done) | (simp; omega)) _) | refine Below.drew ?_)) (hb2.mono (by first | omega | (simp; done) | (simp; omega)))
                have hS2 := hB2.size
                have hT2 := hb2.size
                try simp only [World.size_alloc] at hS2 hT2
                obtain ⟨hc2, hf2⟩ := bcell hb2
                rw [He.out]
                have k2_0 : w2.cell? ⟨wr.heap.size, 0, none⟩ = some (.int .u8 k) := by rw [hc2 _ _ (by first | omega | (simp; done) | (simp; omega))]; exact k1_0
                have k2_1 : w2.cell? ⟨wr.heap.size, 1, none⟩ = some (.int .u8 o) := by rw [hc2 _ _ (by first | omega | (simp; done) | (simp; omega))]; exact k1_1
                clear hc2 hf2 k1_0 k1_1
                have z2 : wr.heap.size < w2.heap.size := by omega
                go_wp2_with fail
                refine (code_any k o _ (by omega) (by omega) (by omega) (by omega)).mono ?_
                rintro e w3 ⟨rfl, hb3⟩
                have hB3 : Below (w.heap.size) (w) w3 := Below.trans (by repeat (first | exact hB2 | (refine Below.setCell ?_ (by first | omega | (simp; done) | (simp; omega)) _) | (refine Below.alloc ?_ (by first | omega | (simp; done) | (simp; omega)) _) | refine Below.drew ?_)) (hb3.mono (by first | omega | (simp; done) | (simp; omega)))
                have hS3 := hB3.size
                have hT3 := hb3.size
                try simp only [World.size_alloc] at hS3 hT3
                obtain ⟨hc3, hf3⟩ := bcell hb3
                rw [Hc.out]
                have k3_0 : w3.cell? ⟨wr.heap.size, 0, none⟩ = some (.int .u8 k) := by rw [hc3 _ _ (by first | omega | (simp; done) | (simp; omega)), World.cell?_alloc_lt _ _ _ (by first | omega | (simp; done) | (simp; omega))]; exact k2_0
                have k3_1 : w3.cell? ⟨wr.heap.size, 1, none⟩ = some (.int .u8 o) := by rw [hc3 _ _ (by first | omega | (simp; done) | (simp; omega)), World.cell?_alloc_lt _ _ _ (by first | omega | (simp; done) | (simp; omega))]; exact k2_1
                clear hc3 hf3 k2_0 k2_1
                go_wp2_with fail
                refine (text_any k o _ (by omega) (by omega) (by omega) (by omega)).mono ?_
                rintro e w4 ⟨rfl, hb4⟩
                have hB4 : Below (w.heap.size) (w) w4 := Below.trans (by repeat (first | exact hB3 | (refine Below.setCell ?_ (by first | omega | (simp; done) | (simp; omega)) _) | (refine Below.alloc ?_ (by first | omega | (simp; done) | (simp; omega)) _) | refine Below.drew ?_)) (hb4.mono (by first | omega | (simp; done) | (simp; omega)))
                have hS4 := hB4.size
                have hT4 := hb4.size
                try simp only [World.size_alloc] at hS4 hT4
                obtain ⟨hc4, hf4⟩ := bcell hb4
                rw [Hc.out]
                have k4_0 : w4.cell? ⟨wr.heap.size, 0, none⟩ = some (.int .u8 k) := by rw [hc4 _ _ (by first | omega | (simp; done) | (simp; omega))]; exact k3_0
                have k4_1 : w4.cell? ⟨wr.heap.size, 1, none⟩ = some (.int .u8 o) := by rw [hc4 _ _ (by first | omega | (simp; done) | (simp; omega))]; exact k3_1
                clear hc4 hf4 k3_0 k3_1
                go_wp2_with fail
                refine (check_any k o _ (by omega) (by omega) (by omega) (by omega)).mono ?_
                rintro e w5 ⟨rfl, hb5⟩
                have hB5 : Below (w.heap.size) (w) w5 := Below.trans (by repeat (first | exact hB4 | (refine Below.setCell ?_ (by first | omega | (simp; done) | (simp; omega)) _) | (refine Below.alloc ?_ (by first | omega | (simp; done) | (simp; omega)) _) | refine Below.drew ?_)) (hb5.mono (by first | omega | (simp; done) | (simp; omega)))
                have hS5 := hB5.size
                have hT5 := hb5.size
                try simp only [World.size_alloc] at hS5 hT5
                obtain ⟨hc5, hf5⟩ := bcell hb5
                rw [Hc.out]
                have k5_0 : w5.cell? ⟨wr.heap.size, 0, none⟩ = some (.int .u8 k) := by rw [hc5 _ _ (by first | omega | (simp; done) | (simp; omega))]; exact k4_0
                have k5_1 : w5.cell? ⟨wr.heap.size, 1, none⟩ = some (.int .u8 o) := by rw [hc5 _ _ (by first | omega | (simp; done) | (simp; omega))]; exact k4_1
                clear hc5 hf5 k4_0 k4_1
                go_wp2
                go_roundw
                case rel => exact ⟨o + 1, by omega, by go_num, by rw [show ((o + 1 : Nat) : Int) = (o : Int) + 1 from by omega, Hs.out, Hca.out], hB5⟩
                case measure => simp [intOf]; omega
            · have hgo : 256 ≤ o := by omega
              have Hr := Lib.hid (cntAll_row (k := (k : Int)) (by omega))
              go_wp2
              go_roundw
              case rel => exact ⟨k + 1, by omega, by go_num, by rw [show ((k + 1 : Nat) : Int) = (k : Int) + 1 from by omega, Hr.out, show (o : Int) = 256 from by omega], hL0⟩
              case measure => simp [intOf]; omega
        · have hgk : 256 ≤ k := by omega
          have hv : cntAll (k : Int) = 8 := by rw [show (k : Int) = 256 from by omega]; decide
          rw [hv]
          have hdk : decide ((k : Int) < 256) = false := by simp; omega
          clear hv hlt hbd
          go_wp2
          obtain ⟨wp, rfl⟩ : ∃ wp : World, wp = wr := ⟨_, rfl⟩
          have hM := hK0.size
          go_loopw [24] (fun v wr => ∃ j : Nat, j ≤ 10 ∧ v = .int .i64 j ∧ Below (wp.heap.size + 1) (wp.alloc (.cells badsC 9)) wr) (fun v _ => (10 - intOf v).toNat)
          case atStart => exact ⟨0, by omega, rfl, Below.refl _ _⟩
          case round =>
            obtain ⟨j, hj, rfl, hL0⟩ := hrel
            have hS0 := hL0.size
            simp only [World.size_alloc] at hS0
            by_cases hlt : j < 10
            · obtain ⟨g1, g2, g3⟩ := badCell j hlt
              have g0 : wr.cell? ⟨wp.heap.size, j, none⟩ = some (.string (badS j)) := by
                rw [hL0.cell (p := ⟨wp.heap.size, j, none⟩) (by simp), World.cell?_alloc_new]
                exact g1
              have Hg := Lib.hid g3
              clear g1 g3
              generalize badS j = s at *
              go_wp2_with fail
              refine (read_any s _ g2).mono ?_
              rintro e w1 ⟨rfl, hb1⟩
              have hB1 : Below (wp.heap.size + 1) (wp.alloc (.cells badsC 9)) w1 := Below.trans (by repeat (first | exact hL0 | (refine Below.setCell ?_ (by first | omega | (simp; done) | (simp; omega)) _) | (refine Below.alloc ?_ (by first | omega | (simp; done) | (simp; omega)) _) | refine Below.drew ?_)) (hb1.mono (by first | omega | (simp; done) | (simp; omega)))
              have hS1 := hB1.size
              have hT1 := hb1.size
              try simp only [World.size_alloc] at hS1 hT1
              obtain ⟨hc1, hf1⟩ := bcell hb1
              rw [Hg.out]
              clear hc1 hf1
              go_wp2
              go_roundw
              case rel => exact ⟨j + 1, by omega, by go_num, hB1.alloc (by first | omega | (simp; done) | (simp; omega)) _⟩
              case measure => simp [intOf]; omega
            · have hgj : 10 ≤ j := by omega
              have hN0 : Below w.heap.size w wr := (hK0.alloc (by first | omega | (simp; done) | (simp; omega)) _).trans (hL0.mono (by omega))
              clear hL0 hlt
              go_wp2_with fail
              refine (of_any (-1) _ (by omega) (by omega)).mono ?_
              rintro e w1 ⟨rfl, hb1⟩
              have hB1 : Below w.heap.size w w1 := Below.call hN0 hb1
              have hS1 := hB1.size
              rw [show ofE (-1) = 2 from rfl]
              go_wp2_with fail
              refine (of_any 8 _ (by omega) (by omega)).mono ?_
              rintro e w2 ⟨rfl, hb2⟩
              have hB2 : Below w.heap.size w w2 := Below.call (by repeat (first | exact hB1 | exact Below.refl _ _ | (refine Below.setCell ?_ (by first | omega | (simp; done) | (simp; omega)) _) | (refine Below.alloc ?_ (by first | omega | (simp; done) | (simp; omega)) _) | refine Below.drew ?_)) hb2
              have hS2 : w.heap.size ≤ w2.heap.size := hB2.size
              obtain ⟨hc2, hf2⟩ := bcell hb2
              rw [show ofE 8 = 2 from rfl]
              clear hc2 hf2
              go_wp2_with fail
              refine (target_any 1 0 _ (by omega) (by omega) (by omega) (by omega)).mono ?_
              rintro e w3 ⟨rfl, hb3⟩
              have hB3 : Below w.heap.size w w3 := Below.call (by repeat (first | exact hB2 | exact Below.refl _ _ | (refine Below.setCell ?_ (by first | omega | (simp; done) | (simp; omega)) _) | (refine Below.alloc ?_ (by first | omega | (simp; done) | (simp; omega)) _) | refine Below.drew ?_)) hb3
              have hS3 : w.heap.size ≤ w3.heap.size := hB3.size
              obtain ⟨hc3, hf3⟩ := bcell hb3
              clear hc3 hf3
              go_wp2_with fail
              refine (target_any 2 0 _ (by omega) (by omega) (by omega) (by omega)).mono ?_
              rintro e w4 ⟨rfl, hb4⟩
              have hB4 : Below w.heap.size w w4 := Below.call (by repeat (first | exact hB3 | exact Below.refl _ _ | (refine Below.setCell ?_ (by first | omega | (simp; done) | (simp; omega)) _) | (refine Below.alloc ?_ (by first | omega | (simp; done) | (simp; omega)) _) | refine Below.drew ?_)) hb4
              have hS4 : w.heap.size ≤ w4.heap.size := hB4.size
              obtain ⟨hc4, hf4⟩ := bcell hb4
              clear hc4 hf4
              go_wp2_with fail
              refine (alive_any _).mono ?_
              rintro e w5 ⟨rfl, hb5⟩
              have hB5 : Below w.heap.size w w5 := Below.call (by repeat (first | exact hB4 | exact Below.refl _ _ | (refine Below.setCell ?_ (by first | omega | (simp; done) | (simp; omega)) _) | (refine Below.alloc ?_ (by first | omega | (simp; done) | (simp; omega)) _) | refine Below.drew ?_)) hb5
              have hS5 : w.heap.size ≤ w5.heap.size := hB5.size
              obtain ⟨hc5, hf5⟩ := bcell hb5
              go_wp2
              go_ret
              exact ⟨rfl, (by repeat (first | exact hB5 | exact Below.refl _ _ | (refine Below.setCell ?_ (by first | omega | (simp; done) | (simp; omega)) _) | (refine Below.alloc ?_ (by first | omega | (simp; done) | (simp; omega)) _) | refine Below.drew ?_))⟩

end Go.Proofs.Ythkfadnkonokdaa
