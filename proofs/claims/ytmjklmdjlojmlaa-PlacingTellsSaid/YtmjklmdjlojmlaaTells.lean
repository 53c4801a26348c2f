/- The statement PlacingTells: its walk. No condition. -/
import Derived.Test.YtmjklmdjlojmlaaRefPlaceB
import Derived.Test.YtmjklmdjlojmlaaTypeRows
namespace Go.Proofs.Ytmjklmdjlojmlaa
open Go.RowKit

set_option maxRecDepth 100000 in
set_option maxHeartbeats 1000000 in
theorem tells_long (A : Option Addr) (n cap : Nat) (l f : Int) (d : Bool) (w : World) (hn : n ≤ maxLen) (h : 30 < n) :
    Calls Try.prog 5 #[.slice A n cap, .agg #[.int .i64 l, .bool d, .int .u8 f]] w (Ret w (.bool true)) := by
  unfold maxLen at hn
  go_enter Try.func5, Try.ntmps5
  go_wp2
  go_ret
  exact ⟨rfl, (by repeat (first | exact Below.refl _ _ | (refine Below.setCell ?_ (by first | omega | (simp; done) | (simp; omega)) _) | (refine Below.alloc ?_ (by first | omega | (simp; done) | (simp; omega)) _) | refine Below.drew ?_))⟩

set_option maxRecDepth 100000 in
set_option maxHeartbeats 8000000 in
theorem tells_short (A : Option Addr) (n cap : Nat) (K T : Nat → Int) (l f k t e a s x : Int) (d : Bool) (w : World) (hn : n ≤ maxLen) (hT : Types w A n K T) (b4 : 0 ≤ f) (h : n ≤ 30)
    (H1 : Hid (ptE n K T l d f = e)) (H2 : Hid (ptK n K T l d f = k)) (H3 : Hid (ptT n K T l d f = t)) (H4 : Hid (pcA n K T l d f = a)) (H5 : Hid (pcS n K T l d f = s)) (H6 : Hid (pwE n K T l d f = x)) :
    Calls Try.prog 5 #[.slice A n cap, .agg #[.int .i64 l, .bool d, .int .u8 f]] w (Ret w (.bool true)) := by
  have hl := hn
  unfold maxLen at hl
  obtain ⟨i0, hi0, hz0, hz1, hz2⟩ := info_parts type_info
  have hbd := hT.bds
  have HT := Lib.hid hT
  clear hT
  go_enter Try.func5, Try.ntmps5
  go_wp2_with (first
    | (at_builtin
       refine wpList_append_any _ rfl (.tmp 20) (.tmp 21) _ rfl (w.heap.size + 1) 27 i0 _ 2 2 Try.underlying22 hi0 hz0 hz1 hz2 rfl (by omega) (.slice (some ⟨w.heap.size + 1, 0, none⟩) 0 0) 0 [] rfl
         (by simpa using World.ownsRow_made (base := w.heap.size + 1) (e := 27) (size := 2) (w.alloc (.cells #[.int .i64 l, .bool d, .int .u8 f] 24)) #[] 0 (by simp) (by decide) (by simp))
         w.heap.size A n cap (tcells n K T) rfl ((HT.out.reads.alloc (Nat.le_refl _) _).alloc (by simp) _) tcells_one (by simp only [maxLen]; omega) (by omega) (by simp) ?_
       intro v1 w1 hown1 hg1 hat1
       have hB1 : Below w.heap.size w w1 := (((Below.refl _ _).alloc (Nat.le_refl _) _).alloc (by simp) _).grown hg1 (by first | omega | (simp; done) | (simp; omega)) (by simp [Value.ownBlock])
       simp only [Nat.zero_add, List.nil_append] at hown1
       obtain ⟨A', c', rfl, hnc, hcm, hT1⟩ := types_of_own hbd hown1
       have hz1_0 : w.heap.size < w1.heap.size := by have := hg1.size; simp at this; omega
       have hS1 := hB1.size
       have k1_0 : w1.cell? ⟨w.heap.size, 0, none⟩ = some (.int .i64 l) := hg1.cell (by go_simp) (by simp [Value.ownBlock])
       have k1_1 : w1.cell? ⟨w.heap.size, 1, none⟩ = some (.bool d) := hg1.cell (by go_simp) (by simp [Value.ownBlock])
       have k1_2 : w1.cell? ⟨w.heap.size, 2, none⟩ = some (.int .u8 f) := hg1.cell (by go_simp) (by simp [Value.ownBlock])
       clear hown1 hg1 hat1 hi0 hz0 hz1 hz2
       have HT1 := Lib.hid hT1
       clear hT1)
    | fail)
  refine (ptype_any A' n c' K T _ _ _ _ hn HT1.out b4).mono ?_
  rintro e2 w2 ⟨rfl, hb2⟩
  have hB2 : Below w.heap.size w w2 := Below.call hB1 hb2
  have hC2 := hb2
  have hD2 := hC2.size
  have hS2 := hB2.size
  obtain ⟨hc2, hf2⟩ := bcell hb2
  have hz2_0 : w.heap.size < w2.heap.size := by have := hb2.size; first | omega | (simp at this; omega)
  rw [H1.out, H2.out, H3.out]
  have k2_0 : w2.cell? ⟨w.heap.size, 0, none⟩ = some (.int .i64 l) := by go_simp
  have k2_1 : w2.cell? ⟨w.heap.size, 1, none⟩ = some (.bool d) := by go_simp
  have k2_2 : w2.cell? ⟨w.heap.size, 2, none⟩ = some (.int .u8 f) := by go_simp
  clear hc2 hf2 k1_0 k1_1 k1_2
  go_wp2_with fail
  refine (rtype_any A n cap K T _ _ _ _ hn (HT.out.below' (by repeat (first | exact hB2 | exact Below.refl _ _ | (refine Below.setCell ?_ (by first | omega | (simp; done) | (simp; omega)) _) | (refine Below.alloc ?_ (by first | omega | (simp; done) | (simp; omega)) _) | refine Below.drew ?_))) b4).mono ?_
  rintro e w3 ⟨rfl, hb3⟩
  have hB3 : Below w.heap.size w w3 := Below.call (by repeat (first | exact hB2 | exact Below.refl _ _ | (refine Below.setCell ?_ (by first | omega | (simp; done) | (simp; omega)) _) | (refine Below.alloc ?_ (by first | omega | (simp; done) | (simp; omega)) _) | refine Below.drew ?_)) hb3
  have hS3 : w.heap.size ≤ w3.heap.size := hB3.size
  obtain ⟨hc3, hf3⟩ := bcell hb3
  have hC3 : Below w1.heap.size w1 w3 := Below.call (by repeat (first | exact hC2 | exact Below.refl _ _ | (refine Below.setCell ?_ (by first | omega | (simp; done) | (simp; omega)) _) | (refine Below.alloc ?_ (by first | omega | (simp; done) | (simp; omega)) _) | refine Below.drew ?_)) hb3
  have hD3 := hC3.size
  have hz3_0 : w.heap.size < w3.heap.size := by have := hb3.size; first | omega | (simp at this; omega)
  have hz3_1 : w2.heap.size < w3.heap.size := by have := hb3.size; first | omega | (simp at this; omega)
  rw [H1.out, H2.out, H3.out]
  have k3_0 : w3.cell? ⟨w.heap.size, 0, none⟩ = some (.int .i64 l) := by go_simp
  have k3_1 : w3.cell? ⟨w.heap.size, 1, none⟩ = some (.bool d) := by go_simp
  have k3_2 : w3.cell? ⟨w.heap.size, 2, none⟩ = some (.int .u8 f) := by go_simp
  have p3_0 : w3.cell? ⟨w2.heap.size, 0, none⟩ = some (.int .u8 k) := by go_simp
  have p3_1 : w3.cell? ⟨w2.heap.size, 1, none⟩ = some (.int .u8 t) := by go_simp
  clear hc3 hf3 k2_0 k2_1 k2_2
  go_wp2_with fail
  refine (pcells_any A' n c' K T _ _ _ _ hn (HT1.out.below' (by repeat (first | exact hC3 | exact Below.refl _ _ | (refine Below.setCell ?_ (by first | omega | (simp; done) | (simp; omega)) _) | (refine Below.alloc ?_ (by first | omega | (simp; done) | (simp; omega)) _) | refine Below.drew ?_))) b4).mono ?_
  rintro e w4 ⟨rfl, hb4⟩
  have hB4 : Below w.heap.size w w4 := Below.call (by repeat (first | exact hB3 | exact Below.refl _ _ | (refine Below.setCell ?_ (by first | omega | (simp; done) | (simp; omega)) _) | (refine Below.alloc ?_ (by first | omega | (simp; done) | (simp; omega)) _) | refine Below.drew ?_)) hb4
  have hS4 : w.heap.size ≤ w4.heap.size := hB4.size
  obtain ⟨hc4, hf4⟩ := bcell hb4
  have hC4 : Below w1.heap.size w1 w4 := Below.call (by repeat (first | exact hC3 | exact Below.refl _ _ | (refine Below.setCell ?_ (by first | omega | (simp; done) | (simp; omega)) _) | (refine Below.alloc ?_ (by first | omega | (simp; done) | (simp; omega)) _) | refine Below.drew ?_)) hb4
  have hD4 := hC4.size
  have hz4_0 : w.heap.size < w4.heap.size := by have := hb4.size; first | omega | (simp at this; omega)
  have hz4_1 : w2.heap.size < w4.heap.size := by have := hb4.size; first | omega | (simp at this; omega)
  have hz4_2 : w3.heap.size < w4.heap.size := by have := hb4.size; first | omega | (simp at this; omega)
  rw [H1.out, H4.out, H5.out]
  have k4_0 : w4.cell? ⟨w.heap.size, 0, none⟩ = some (.int .i64 l) := by go_simp
  have k4_1 : w4.cell? ⟨w.heap.size, 1, none⟩ = some (.bool d) := by go_simp
  have k4_2 : w4.cell? ⟨w.heap.size, 2, none⟩ = some (.int .u8 f) := by go_simp
  have p4_0 : w4.cell? ⟨w2.heap.size, 0, none⟩ = some (.int .u8 k) := by go_simp
  have p4_1 : w4.cell? ⟨w2.heap.size, 1, none⟩ = some (.int .u8 t) := by go_simp
  have q4_0 : w4.cell? ⟨w3.heap.size, 0, none⟩ = some (.int .u8 k) := by go_simp
  have q4_1 : w4.cell? ⟨w3.heap.size, 1, none⟩ = some (.int .u8 t) := by go_simp
  clear hc4 hf4 k3_0 k3_1 k3_2 p3_0 p3_1
  go_wp2_with fail
  refine (rcells_any A n cap K T _ _ _ _ hn (HT.out.below' (by repeat (first | exact hB4 | exact Below.refl _ _ | (refine Below.setCell ?_ (by first | omega | (simp; done) | (simp; omega)) _) | (refine Below.alloc ?_ (by first | omega | (simp; done) | (simp; omega)) _) | refine Below.drew ?_))) b4).mono ?_
  rintro e w5 ⟨rfl, hb5⟩
  have hB5 : Below w.heap.size w w5 := Below.call (by repeat (first | exact hB4 | exact Below.refl _ _ | (refine Below.setCell ?_ (by first | omega | (simp; done) | (simp; omega)) _) | (refine Below.alloc ?_ (by first | omega | (simp; done) | (simp; omega)) _) | refine Below.drew ?_)) hb5
  have hS5 : w.heap.size ≤ w5.heap.size := hB5.size
  obtain ⟨hc5, hf5⟩ := bcell hb5
  have hC5 : Below w1.heap.size w1 w5 := Below.call (by repeat (first | exact hC4 | exact Below.refl _ _ | (refine Below.setCell ?_ (by first | omega | (simp; done) | (simp; omega)) _) | (refine Below.alloc ?_ (by first | omega | (simp; done) | (simp; omega)) _) | refine Below.drew ?_)) hb5
  have hD5 := hC5.size
  have hz5_0 : w.heap.size < w5.heap.size := by have := hb5.size; first | omega | (simp at this; omega)
  have hz5_1 : w2.heap.size < w5.heap.size := by have := hb5.size; first | omega | (simp at this; omega)
  have hz5_2 : w3.heap.size < w5.heap.size := by have := hb5.size; first | omega | (simp at this; omega)
  rw [H1.out, H4.out, H5.out]
  have k5_0 : w5.cell? ⟨w.heap.size, 0, none⟩ = some (.int .i64 l) := by go_simp
  have k5_1 : w5.cell? ⟨w.heap.size, 1, none⟩ = some (.bool d) := by go_simp
  have k5_2 : w5.cell? ⟨w.heap.size, 2, none⟩ = some (.int .u8 f) := by go_simp
  have p5_0 : w5.cell? ⟨w2.heap.size, 0, none⟩ = some (.int .u8 k) := by go_simp
  have p5_1 : w5.cell? ⟨w2.heap.size, 1, none⟩ = some (.int .u8 t) := by go_simp
  have q5_0 : w5.cell? ⟨w3.heap.size, 0, none⟩ = some (.int .u8 k) := by go_simp
  have q5_1 : w5.cell? ⟨w3.heap.size, 1, none⟩ = some (.int .u8 t) := by go_simp
  clear hc5 hf5 k4_0 k4_1 k4_2 p4_0 p4_1 q4_0 q4_1
  have T5 := Lib.hid (HT1.out.below' hC5)
  have U5 := Lib.hid (HT.out.below' hB5)
  clear HT HT1
  go_wp2
  go_loopw [16] (fun v wr => ∃ i : Nat, i ≤ n ∧ v = .int .i64 i ∧ Below w5.heap.size w5 wr) (fun v _ => n - (intOf v).toNat)
  case atStart => exact ⟨0, by omega, rfl, Below.refl _ _⟩
  case round =>
    obtain ⟨i, hi, rfl, hB⟩ := hrel
    have hz := hB.size
    by_cases hlt : i < n
    · have hdi : decide ((i : Int) < n) = true := by simp; omega
      obtain ⟨b, off, rfl, hb, hc⟩ := T5.out (by omega)
      obtain ⟨b', off', rfl, hb', hc'⟩ := U5.out (by omega)
      obtain ⟨c0, c1, _⟩ := hc i hlt
      obtain ⟨c2, c3, _⟩ := hc' i hlt
      have d0 := Later.cell ((hB.cell (p := ⟨b, _, none⟩) hb).trans c0) (by omega)
      have d1 := Later.cell ((hB.cell (p := ⟨b, _, none⟩) hb).trans c1) (by omega)
      have d2 := Later.cell ((hB.cell (p := ⟨b', _, none⟩) hb').trans c2) (by omega)
      have d3 := Later.cell ((hB.cell (p := ⟨b', _, none⟩) hb').trans c3) (by omega)
      clear hc hc' c0 c1 c2 c3 T5 U5
      go_wp2
      refine wp_region_later (by kernel_rfl) (by kernel_rfl) ?_
      repeat go_big_quiet_step (fail)
      refine wpQuiet_nil ?_
      rintro _ ⟨x, rfl⟩
      go_wp2
      go_roundw
      case rel => exact ⟨i + 1, by omega, by go_num, hB.trans (x.below.mono hB.size)⟩
      case measure => simp [intOf]; omega
    · have : i = n := by omega
      subst this
      have hdi : decide ((i : Int) < i) = false := by simp
      have TR := T5.out.below hB (Nat.le_refl _)
      have UR := U5.out.below hB (Nat.le_refl _)
      have d0 := Later.cell ((hB.cell (p := ⟨w.heap.size, 0, none⟩) hz5_0).trans k5_0) (by omega)
      have d1 := Later.cell ((hB.cell (p := ⟨w.heap.size, 1, none⟩) hz5_0).trans k5_1) (by omega)
      have d2 := Later.cell ((hB.cell (p := ⟨w.heap.size, 2, none⟩) hz5_0).trans k5_2) (by omega)
      have d3 := Later.cell ((hB.cell (p := ⟨w2.heap.size, 0, none⟩) hz5_1).trans p5_0) (by omega)
      have d4 := Later.cell ((hB.cell (p := ⟨w2.heap.size, 1, none⟩) hz5_1).trans p5_1) (by omega)
      have d5 := Later.cell ((hB.cell (p := ⟨w3.heap.size, 0, none⟩) hz5_2).trans q5_0) (by omega)
      have d6 := Later.cell ((hB.cell (p := ⟨w3.heap.size, 1, none⟩) hz5_2).trans q5_1) (by omega)
      clear T5 U5 k5_0 k5_1 k5_2 p5_0 p5_1 q5_0 q5_1
      have TX := Lib.hid (fun x => Types.later TR x)
      have UX := Lib.hid (fun x => Types.later UR x)
      clear TR UR
      go_wp2
      refine wp_region_later (by kernel_rfl) (by kernel_rfl) ?_
      repeat go_big_quiet_step ((first | (go_at_call 18; exact Later.call (pwrite_any _ _ _ K T _ _ _ _ hn (TX.out _) b4)) | (go_at_call 19; exact Later.call (rwrite_any _ _ _ K T _ _ _ _ hn (UX.out _) b4))))
      refine wpQuiet_nil ?_
      rintro _ ⟨x, rfl⟩
      go_wp2
      go_ret
      exact ⟨rfl, Below.call (Below.call hB5 hB) x.below⟩

theorem tells_walk (A : Option Addr) (n cap : Nat) (K T : Nat → Int) (l f : Int) (d : Bool) (w : World) (hn : n ≤ maxLen) (hT : Types w A n K T) (b4 : 0 ≤ f) :
    Calls Try.prog 5 #[.slice A n cap, .agg #[.int .i64 l, .bool d, .int .u8 f]] w (Ret w (.bool true)) := by
  by_cases h : 30 < n
  · exact tells_long A n cap l f d w hn h
  · exact tells_short A n cap K T l f _ _ _ _ _ _ d w hn hT b4 (by omega) rfl rfl rfl rfl rfl rfl

end Go.Proofs.Ytmjklmdjlojmlaa
