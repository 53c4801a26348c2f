/- The type that a text is: what the program's Read comes to. -/
import Derived.Test.YthkfadnkonokdaaShapeF
import Derived.Test.YthkfadnkonokdaaStrs
namespace Go.Proofs.Ythkfadnkonokdaa
open Go.RowKit

def readC (s : ByteArray) : Int :=
  if s = nm 0 then 0 else if s = nm 1 then 1 else if s = nm 2 then 2 else if s = nm 3 then 3 else if s = nm 4 then 4 else if s = nm 5 then 5 else if s = nm 6 then 6 else if s = nm 7 then 7 else -1
def readK (s : ByteArray) : Int := if readC s < 0 then 0 else wK (readC s)
def readT (s : ByteArray) : Int := if readC s < 0 then 0 else wT (readC s)
def readE (s : ByteArray) : Int := if readC s < 0 then 12 else 0

theorem readC_cases (s : ByteArray) : (∃ j : Int, 0 ≤ j ∧ j ≤ 7 ∧ s = nm j ∧ readC s = j) ∨ readC s = -1 := by
  unfold readC
  repeat' (first | (split; rename_i h; exact .inl ⟨_, by omega, by omega, h, rfl⟩) | (split; rename_i h) | exact .inr rfl)
theorem readC_nm (j : Int) (h0 : 0 ≤ j) (h7 : j ≤ 7) : readC (nm j) = j := by
  have : j = 0 ∨ j = 1 ∨ j = 2 ∨ j = 3 ∨ j = 4 ∨ j = 5 ∨ j = 6 ∨ j = 7 := by omega
  rcases this with rfl | rfl | rfl | rfl | rfl | rfl | rfl | rfl <;> decide +kernel

/-- What is left of a text, read as a base. -/
def baseC (r : ByteArray) (c : Int) : Int := if r.toList == [105, 110, 116] then c else if r.toList == [112, 97, 105, 114] then c + 1 else -1
/-- The number, as the program finds it. -/
def progC (s : ByteArray) : Int :=
  if hp s ⟨#[42]⟩ then baseC (trimP s ⟨#[42]⟩) 6 else if hp s ⟨#[38, 109, 117, 116, 32]⟩ then baseC (trimP s ⟨#[38, 109, 117, 116, 32]⟩) 4 else if hp s ⟨#[38]⟩ then baseC (trimP s ⟨#[38]⟩) 2 else baseC s 0
theorem progC_nm (j : Int) (h0 : 0 ≤ j) (h7 : j ≤ 7) : progC (nm j) = j := by
  have : j = 0 ∨ j = 1 ∨ j = 2 ∨ j = 3 ∨ j = 4 ∨ j = 5 ∨ j = 6 ∨ j = 7 := by omega
  rcases this with rfl | rfl | rfl | rfl | rfl | rfl | rfl | rfl <;> decide +kernel
theorem baseC_hit {r : ByteArray} {c : Int} : (baseC r c = c ∧ r.data.toList = [105, 110, 116]) ∨ (baseC r c = c + 1 ∧ r.data.toList = [112, 97, 105, 114]) ∨ baseC r c = -1 := by
  unfold baseC
  split
  · rename_i h; rw [beq_iff_eq, ByteArray.toList_eq] at h; exact .inl ⟨rfl, h⟩
  · split
    · rename_i h; rw [beq_iff_eq, ByteArray.toList_eq] at h; exact .inr (.inl ⟨rfl, h⟩)
    · exact .inr (.inr rfl)
theorem base_of {s m : ByteArray} {c : Int} (hm : hp s m = true) (h1 : (nm c).data.toList = m.data.toList ++ [105, 110, 116]) (h2 : (nm (c + 1)).data.toList = m.data.toList ++ [112, 97, 105, 114]) (h0 : 0 ≤ c) (h6 : c ≤ 6) :
    readC s = baseC (trimP s m) c ∨ baseC (trimP s m) c = -1 := by
  obtain ⟨r, hr⟩ := (hp_iff s m).1 hm
  have ht := trimP_eq s m r hr
  rcases @baseC_hit (trimP s m) c with ⟨e, h⟩ | ⟨e, h⟩ | e
  · left
    rw [ht] at h
    rw [e, show s = nm c from bytes_ext (by rw [hr, h1, h])]
    exact readC_nm c h0 (by omega)
  · left
    rw [ht] at h
    rw [e, show s = nm (c + 1) from bytes_ext (by rw [hr, h2, h])]
    exact readC_nm _ (by omega) (by omega)
  · exact .inr e
theorem readC_prog (s : ByteArray) : readC s = progC s := by
  rcases readC_cases s with ⟨j, h0, h7, rfl, h⟩ | h
  · rw [h, progC_nm j h0 h7]
  · have key : readC s = progC s ∨ progC s = -1 := by
      unfold progC
      split
      · rename_i hq; exact base_of hq rfl rfl (by omega) (by omega)
      · split
        · rename_i hq; exact base_of hq rfl rfl (by omega) (by omega)
        · split
          · rename_i hq; exact base_of hq rfl rfl (by omega) (by omega)
          · rcases @baseC_hit s 0 with ⟨e, hl⟩ | ⟨e, hl⟩ | e
            · left; rw [e, show s = nm 0 from bytes_ext hl]; exact readC_nm 0 (by omega) (by omega)
            · left; rw [e, show s = nm 1 from bytes_ext hl]; exact readC_nm 1 (by omega) (by omega)
            · exact .inr e
    rcases key with k | k
    · exact k
    · rw [h, k]
theorem read_at {s : ByteArray} {c : Int} (h : progC s = c) : readK s = (if c < 0 then 0 else wK c) ∧ readT s = (if c < 0 then 0 else wT c) ∧ readE s = (if c < 0 then 12 else 0) := by
  rw [← readC_prog] at h
  simp only [readK, readT, readE, h]
  exact ⟨trivial, trivial, trivial⟩

@[go_sem] theorem wK_0 : wK 0 = 1 := rfl
@[go_sem] theorem wT_0 : wT 0 = 0 := rfl
@[go_sem] theorem wK_1 : wK 1 = 2 := rfl
@[go_sem] theorem wT_1 : wT 1 = 0 := rfl
@[go_sem] theorem wK_2 : wK 2 = 3 := rfl
@[go_sem] theorem wT_2 : wT 2 = 1 := rfl
@[go_sem] theorem wK_3 : wK 3 = 3 := rfl
@[go_sem] theorem wT_3 : wT 3 = 2 := rfl
@[go_sem] theorem wK_4 : wK 4 = 4 := rfl
@[go_sem] theorem wT_4 : wT 4 = 1 := rfl
@[go_sem] theorem wK_5 : wK 5 = 4 := rfl
@[go_sem] theorem wT_5 : wT 5 = 2 := rfl
@[go_sem] theorem wK_6 : wK 6 = 5 := rfl
@[go_sem] theorem wT_6 : wT 6 = 1 := rfl
@[go_sem] theorem wK_7 : wK 7 = 5 := rfl
@[go_sem] theorem wT_7 : wT 7 = 2 := rfl
@[go_sem] theorem idx2_0i (w : World) : (Instr.index 50 (.agg #[.string ⟨#[105, 110, 116]⟩, .string ⟨#[112, 97, 105, 114]⟩]) (.int .i64 0)).run Try.prog w = .ok (.string ⟨#[105, 110, 116]⟩) w := by kernel_rfl
@[go_sem] theorem idx2_1i (w : World) : (Instr.index 50 (.agg #[.string ⟨#[105, 110, 116]⟩, .string ⟨#[112, 97, 105, 114]⟩]) (.int .i64 1)).run Try.prog w = .ok (.string ⟨#[112, 97, 105, 114]⟩) w := by kernel_rfl
@[go_sem] theorem idx3_0i (w : World) : (Instr.index 52 (.agg #[.string ⟨#[38]⟩, .string ⟨#[38, 109, 117, 116, 32]⟩, .string ⟨#[42]⟩]) (.int .i64 0)).run Try.prog w = .ok (.string ⟨#[38]⟩) w := by kernel_rfl
@[go_sem] theorem idx3_1i (w : World) : (Instr.index 52 (.agg #[.string ⟨#[38]⟩, .string ⟨#[38, 109, 117, 116, 32]⟩, .string ⟨#[42]⟩]) (.int .i64 1)).run Try.prog w = .ok (.string ⟨#[38, 109, 117, 116, 32]⟩) w := by kernel_rfl
@[go_sem] theorem idx3_2i (w : World) : (Instr.index 52 (.agg #[.string ⟨#[38]⟩, .string ⟨#[38, 109, 117, 116, 32]⟩, .string ⟨#[42]⟩]) (.int .i64 2)).run Try.prog w = .ok (.string ⟨#[42]⟩) w := by kernel_rfl



set_option maxHeartbeats 4000000 in
theorem read_A (s : ByteArray) (w : World) (hs : s.size ≤ maxLen) (Hq1 : Hid (hp s ⟨#[38]⟩ = false)) (Hq2 : Hid (hp s ⟨#[38, 109, 117, 116, 32]⟩ = false)) (Hq3 : Hid (hp s ⟨#[42]⟩ = false)) :
    Calls Try.prog 22 #[.string s] w (Ret w (.tuple #[.agg #[.int .u8 (readK s), .int .u8 (readT s)], .int .i64 (readE s)])) := by
  go_enter Try.func22, Try.ntmps22
  go_wp2_with fail
  refine (marks_any _).mono ?_
  rintro e w1 ⟨rfl, hb1⟩
  have hB1 : Below w.heap.size w w1 := Below.call (by repeat (first | exact Below.refl _ _ | (refine Below.setCell ?_ (by first | omega | (simp; done) | (simp; omega)) _) | (refine Below.alloc ?_ (by first | omega | (simp; done) | (simp; omega)) _) | refine Below.drew ?_)) hb1
  have hS1 : w.heap.size ≤ w1.heap.size := hB1.size
  obtain ⟨hc1, hf1⟩ := bcell hb1
  have hz1_0 : w.heap.size < w1.heap.size := by have := hb1.size; first | omega | (simp at this; omega)
  have hz1_1 : w.heap.size + 1 < w1.heap.size := by have := hb1.size; first | omega | (simp at this; omega)
  go_wp2
  refine wp_loop_rounds 4 ?_
  rw [rounds_succ]
  go_wp2_with fail
  refine (hasPrefix_any s _ _ hs (by decide)).mono ?_
  rintro e w2 ⟨rfl, hb2⟩
  have hB2 : Below w.heap.size w w2 := Below.call (by repeat (first | exact hB1 | exact Below.refl _ _ | (refine Below.setCell ?_ (by first | omega | (simp; done) | (simp; omega)) _) | (refine Below.alloc ?_ (by first | omega | (simp; done) | (simp; omega)) _) | refine Below.drew ?_)) hb2
  have hS2 : w.heap.size ≤ w2.heap.size := hB2.size
  obtain ⟨hc2, hf2⟩ := bcell hb2
  have hz2_0 : w.heap.size < w2.heap.size := by have := hb2.size; first | omega | (simp at this; omega)
  have hz2_1 : w.heap.size + 1 < w2.heap.size := by have := hb2.size; first | omega | (simp at this; omega)
  have k2_0 : w2.cell? ⟨w.heap.size + 1, 0, none⟩ = some (.int .u8 0) := by go_simp
  have f2_0 : w2.frozen? ⟨w.heap.size + 1, 0, none⟩ = false := by go_simp
  have k2_1 : w2.cell? ⟨w.heap.size + 1, 1, none⟩ = some (.int .u8 0) := by go_simp
  have f2_1 : w2.frozen? ⟨w.heap.size + 1, 1, none⟩ = false := by go_simp
  have k2_2 : w2.cell? ⟨w.heap.size, 0, none⟩ = some (.int .u8 0) := by go_simp
  have f2_2 : w2.frozen? ⟨w.heap.size, 0, none⟩ = false := by go_simp
  have k2_3 : w2.cell? ⟨w.heap.size, 1, none⟩ = some (.int .u8 0) := by go_simp
  have f2_3 : w2.frozen? ⟨w.heap.size, 1, none⟩ = false := by go_simp
  clear hc2 hf2
  clear hc1 hf1
  rw [Hq1.out]
  go_wp2
  rw [rounds_succ]
  go_wp2_with fail
  refine (hasPrefix_any s _ _ hs (by decide)).mono ?_
  rintro e w3 ⟨rfl, hb3⟩
  have hB3 : Below w.heap.size w w3 := Below.call (by repeat (first | exact hB2 | exact Below.refl _ _ | (refine Below.setCell ?_ (by first | omega | (simp; done) | (simp; omega)) _) | (refine Below.alloc ?_ (by first | omega | (simp; done) | (simp; omega)) _) | refine Below.drew ?_)) hb3
  have hS3 : w.heap.size ≤ w3.heap.size := hB3.size
  obtain ⟨hc3, hf3⟩ := bcell hb3
  have hz3_0 : w.heap.size < w3.heap.size := by have := hb3.size; first | omega | (simp at this; omega)
  have hz3_1 : w.heap.size + 1 < w3.heap.size := by have := hb3.size; first | omega | (simp at this; omega)
  have k3_0 : w3.cell? ⟨w.heap.size + 1, 0, none⟩ = some (.int .u8 0) := by go_simp
  have f3_0 : w3.frozen? ⟨w.heap.size + 1, 0, none⟩ = false := by go_simp
  have k3_1 : w3.cell? ⟨w.heap.size + 1, 1, none⟩ = some (.int .u8 0) := by go_simp
  have f3_1 : w3.frozen? ⟨w.heap.size + 1, 1, none⟩ = false := by go_simp
  have k3_2 : w3.cell? ⟨w.heap.size, 0, none⟩ = some (.int .u8 0) := by go_simp
  have f3_2 : w3.frozen? ⟨w.heap.size, 0, none⟩ = false := by go_simp
  have k3_3 : w3.cell? ⟨w.heap.size, 1, none⟩ = some (.int .u8 0) := by go_simp
  have f3_3 : w3.frozen? ⟨w.heap.size, 1, none⟩ = false := by go_simp
  clear hc3 hf3
  rw [Hq2.out]
  go_wp2
  rw [rounds_succ]
  go_wp2_with fail
  refine (hasPrefix_any s _ _ hs (by decide)).mono ?_
  rintro e w4 ⟨rfl, hb4⟩
  have hB4 : Below w.heap.size w w4 := Below.call (by repeat (first | exact hB3 | exact Below.refl _ _ | (refine Below.setCell ?_ (by first | omega | (simp; done) | (simp; omega)) _) | (refine Below.alloc ?_ (by first | omega | (simp; done) | (simp; omega)) _) | refine Below.drew ?_)) hb4
  have hS4 : w.heap.size ≤ w4.heap.size := hB4.size
  obtain ⟨hc4, hf4⟩ := bcell hb4
  have hz4_0 : w.heap.size < w4.heap.size := by have := hb4.size; first | omega | (simp at this; omega)
  have hz4_1 : w.heap.size + 1 < w4.heap.size := by have := hb4.size; first | omega | (simp at this; omega)
  rw [Hq3.out]
  have k4_0 : w4.cell? ⟨w.heap.size + 1, 0, none⟩ = some (.int .u8 0) := by go_simp
  have f4_0 : w4.frozen? ⟨w.heap.size + 1, 0, none⟩ = false := by go_simp
  have k4_1 : w4.cell? ⟨w.heap.size + 1, 1, none⟩ = some (.int .u8 0) := by go_simp
  have f4_1 : w4.frozen? ⟨w.heap.size + 1, 1, none⟩ = false := by go_simp
  have k4_2 : w4.cell? ⟨w.heap.size, 0, none⟩ = some (.int .u8 0) := by go_simp
  have f4_2 : w4.frozen? ⟨w.heap.size, 0, none⟩ = false := by go_simp
  have k4_3 : w4.cell? ⟨w.heap.size, 1, none⟩ = some (.int .u8 0) := by go_simp
  have f4_3 : w4.frozen? ⟨w.heap.size, 1, none⟩ = false := by go_simp
  clear hc4 hf4
  go_wp2
  rw [rounds_succ]
  go_wp2_with fail
  refine (bases_any _).mono ?_
  rintro e w6 ⟨rfl, hb6⟩
  have hB6 : Below w.heap.size w w6 := Below.call (by repeat (first | exact hB4 | exact Below.refl _ _ | (refine Below.setCell ?_ (by first | omega | (simp; done) | (simp; omega)) _) | (refine Below.alloc ?_ (by first | omega | (simp; done) | (simp; omega)) _) | refine Below.drew ?_)) hb6
  have hS6 : w.heap.size ≤ w6.heap.size := hB6.size
  obtain ⟨hc6, hf6⟩ := bcell hb6
  have hz6_0 : w.heap.size < w6.heap.size := by have := hb6.size; first | omega | (simp at this; omega)
  have hz6_1 : w.heap.size + 1 < w6.heap.size := by have := hb6.size; first | omega | (simp at this; omega)
  have hp0 : progC s = baseC s 0 := by
    have h1 := Hq1.out
    have h2 := Hq2.out
    have h3 := Hq3.out
    simp only [progC, h1, h2, h3, Bool.false_eq_true, if_true, if_false]
  have Hp := Lib.hid hp0
  clear hp0
  go_wp2
  refine wp_loop_rounds 3 ?_
  rw [rounds_succ]
  go_wp2
  · rename_i h1
    have H1 := Lib.hid h1
    clear h1
    rw [rounds_succ]
    go_wp2
    · rename_i h2
      have hv := read_at (s := s) (c := -1) (by
        have h1 := H1.out
        have h2' := h2
        simp only [Bool.not_eq_true'] at h1 h2'
        rw [Hp.out, baseC, h1, h2']; rfl)
      have H2 := Lib.hid h2
      clear h2
      have Hv := Lib.hid hv
      clear hv
      rw [rounds_succ]
      go_wp2
      rw [Hv.out.1, Hv.out.2.1, Hv.out.2.2]
      refine bodyPost_ret (by simp [results, Try.results22, go_sem, *]; try rfl) rfl ⟨rfl, ?_⟩
      exact (by repeat (first | exact hB6 | exact Below.refl _ _ | (refine Below.setCell ?_ (by first | omega | (simp; done) | (simp; omega)) _) | (refine Below.alloc ?_ (by first | omega | (simp; done) | (simp; omega)) _) | refine Below.drew ?_))
    · rename_i h2
      have hv := read_at (s := s) (c := 1) (by
        have h1 := H1.out
        have h2' := h2
        simp only [Bool.not_eq_true', Bool.not_eq_false'] at h1 h2'
        rw [Hp.out, baseC, h1, h2']; rfl)
      have H2 := Lib.hid h2
      clear h2
      rw [hv.1, hv.2.1, hv.2.2]
      clear hv
      refine bodyPost_ret (by simp [results, Try.results22, go_sem, *]; try rfl) rfl ⟨rfl, ?_⟩
      exact (by repeat (first | exact hB6 | exact Below.refl _ _ | (refine Below.setCell ?_ (by first | omega | (simp; done) | (simp; omega)) _) | (refine Below.alloc ?_ (by first | omega | (simp; done) | (simp; omega)) _) | refine Below.drew ?_))
  · rename_i h1
    have hv := read_at (s := s) (c := 0) (by
      have h1' := h1
      simp only [Bool.not_eq_false'] at h1'
      rw [Hp.out, baseC, h1']; rfl)
    have H1 := Lib.hid h1
    clear h1
    rw [hv.1, hv.2.1, hv.2.2]
    clear hv
    refine bodyPost_ret (by simp [results, Try.results22, go_sem, *]; try rfl) rfl ⟨rfl, ?_⟩
    exact (by repeat (first | exact hB6 | exact Below.refl _ _ | (refine Below.setCell ?_ (by first | omega | (simp; done) | (simp; omega)) _) | (refine Below.alloc ?_ (by first | omega | (simp; done) | (simp; omega)) _) | refine Below.drew ?_))

set_option maxHeartbeats 4000000 in
theorem read_B (s : ByteArray) (w : World) (hs : s.size ≤ maxLen) (Hq1 : Hid (hp s ⟨#[38]⟩ = true)) (Hq2 : Hid (hp s ⟨#[38, 109, 117, 116, 32]⟩ = false)) (Hq3 : Hid (hp s ⟨#[42]⟩ = false)) :
    Calls Try.prog 22 #[.string s] w (Ret w (.tuple #[.agg #[.int .u8 (readK s), .int .u8 (readT s)], .int .i64 (readE s)])) := by
  go_enter Try.func22, Try.ntmps22
  go_wp2_with fail
  refine (marks_any _).mono ?_
  rintro e w1 ⟨rfl, hb1⟩
  have hB1 : Below w.heap.size w w1 := Below.call (by repeat (first | exact Below.refl _ _ | (refine Below.setCell ?_ (by first | omega | (simp; done) | (simp; omega)) _) | (refine Below.alloc ?_ (by first | omega | (simp; done) | (simp; omega)) _) | refine Below.drew ?_)) hb1
  have hS1 : w.heap.size ≤ w1.heap.size := hB1.size
  obtain ⟨hc1, hf1⟩ := bcell hb1
  have hz1_0 : w.heap.size < w1.heap.size := by have := hb1.size; first | omega | (simp at this; omega)
  have hz1_1 : w.heap.size + 1 < w1.heap.size := by have := hb1.size; first | omega | (simp at this; omega)
  go_wp2
  refine wp_loop_rounds 4 ?_
  rw [rounds_succ]
  go_wp2_with fail
  refine (hasPrefix_any s _ _ hs (by decide)).mono ?_
  rintro e w2 ⟨rfl, hb2⟩
  have hB2 : Below w.heap.size w w2 := Below.call (by repeat (first | exact hB1 | exact Below.refl _ _ | (refine Below.setCell ?_ (by first | omega | (simp; done) | (simp; omega)) _) | (refine Below.alloc ?_ (by first | omega | (simp; done) | (simp; omega)) _) | refine Below.drew ?_)) hb2
  have hS2 : w.heap.size ≤ w2.heap.size := hB2.size
  obtain ⟨hc2, hf2⟩ := bcell hb2
  have hz2_0 : w.heap.size < w2.heap.size := by have := hb2.size; first | omega | (simp at this; omega)
  have hz2_1 : w.heap.size + 1 < w2.heap.size := by have := hb2.size; first | omega | (simp at this; omega)
  have k2_0 : w2.cell? ⟨w.heap.size + 1, 0, none⟩ = some (.int .u8 0) := by go_simp
  have f2_0 : w2.frozen? ⟨w.heap.size + 1, 0, none⟩ = false := by go_simp
  have k2_1 : w2.cell? ⟨w.heap.size + 1, 1, none⟩ = some (.int .u8 0) := by go_simp
  have f2_1 : w2.frozen? ⟨w.heap.size + 1, 1, none⟩ = false := by go_simp
  have k2_2 : w2.cell? ⟨w.heap.size, 0, none⟩ = some (.int .u8 0) := by go_simp
  have f2_2 : w2.frozen? ⟨w.heap.size, 0, none⟩ = false := by go_simp
  have k2_3 : w2.cell? ⟨w.heap.size, 1, none⟩ = some (.int .u8 0) := by go_simp
  have f2_3 : w2.frozen? ⟨w.heap.size, 1, none⟩ = false := by go_simp
  clear hc2 hf2
  clear hc1 hf1
  rw [Hq1.out]
  go_wp2
  rw [rounds_succ]
  go_wp2_with fail
  refine (hasPrefix_any s _ _ hs (by decide)).mono ?_
  rintro e w3 ⟨rfl, hb3⟩
  have hB3 : Below w.heap.size w w3 := Below.call (by repeat (first | exact hB2 | exact Below.refl _ _ | (refine Below.setCell ?_ (by first | omega | (simp; done) | (simp; omega)) _) | (refine Below.alloc ?_ (by first | omega | (simp; done) | (simp; omega)) _) | refine Below.drew ?_)) hb3
  have hS3 : w.heap.size ≤ w3.heap.size := hB3.size
  obtain ⟨hc3, hf3⟩ := bcell hb3
  have hz3_0 : w.heap.size < w3.heap.size := by have := hb3.size; first | omega | (simp at this; omega)
  have hz3_1 : w.heap.size + 1 < w3.heap.size := by have := hb3.size; first | omega | (simp at this; omega)
  have k3_0 : w3.cell? ⟨w.heap.size + 1, 0, none⟩ = some (.int .u8 3) := by go_simp
  have f3_0 : w3.frozen? ⟨w.heap.size + 1, 0, none⟩ = false := by go_simp
  have k3_1 : w3.cell? ⟨w.heap.size + 1, 1, none⟩ = some (.int .u8 0) := by go_simp
  have f3_1 : w3.frozen? ⟨w.heap.size + 1, 1, none⟩ = false := by go_simp
  have k3_2 : w3.cell? ⟨w.heap.size, 0, none⟩ = some (.int .u8 0) := by go_simp
  have f3_2 : w3.frozen? ⟨w.heap.size, 0, none⟩ = false := by go_simp
  have k3_3 : w3.cell? ⟨w.heap.size, 1, none⟩ = some (.int .u8 0) := by go_simp
  have f3_3 : w3.frozen? ⟨w.heap.size, 1, none⟩ = false := by go_simp
  clear hc3 hf3
  rw [Hq2.out]
  go_wp2
  rw [rounds_succ]
  go_wp2_with fail
  refine (hasPrefix_any s _ _ hs (by decide)).mono ?_
  rintro e w4 ⟨rfl, hb4⟩
  have hB4 : Below w.heap.size w w4 := Below.call (by repeat (first | exact hB3 | exact Below.refl _ _ | (refine Below.setCell ?_ (by first | omega | (simp; done) | (simp; omega)) _) | (refine Below.alloc ?_ (by first | omega | (simp; done) | (simp; omega)) _) | refine Below.drew ?_)) hb4
  have hS4 : w.heap.size ≤ w4.heap.size := hB4.size
  obtain ⟨hc4, hf4⟩ := bcell hb4
  have hz4_0 : w.heap.size < w4.heap.size := by have := hb4.size; first | omega | (simp at this; omega)
  have hz4_1 : w.heap.size + 1 < w4.heap.size := by have := hb4.size; first | omega | (simp at this; omega)
  rw [Hq3.out]
  have k4_0 : w4.cell? ⟨w.heap.size + 1, 0, none⟩ = some (.int .u8 3) := by go_simp
  have f4_0 : w4.frozen? ⟨w.heap.size + 1, 0, none⟩ = false := by go_simp
  have k4_1 : w4.cell? ⟨w.heap.size + 1, 1, none⟩ = some (.int .u8 0) := by go_simp
  have f4_1 : w4.frozen? ⟨w.heap.size + 1, 1, none⟩ = false := by go_simp
  have k4_2 : w4.cell? ⟨w.heap.size, 0, none⟩ = some (.int .u8 0) := by go_simp
  have f4_2 : w4.frozen? ⟨w.heap.size, 0, none⟩ = false := by go_simp
  have k4_3 : w4.cell? ⟨w.heap.size, 1, none⟩ = some (.int .u8 0) := by go_simp
  have f4_3 : w4.frozen? ⟨w.heap.size, 1, none⟩ = false := by go_simp
  clear hc4 hf4
  go_wp2
  rw [rounds_succ]
  go_wp2
  have d0 := Later.cell (w := w4) (b := w.heap.size + 1) (o := 0) (v := some (.int .u8 3)) (by go_simp) (by first | exact hz4_1 | (simp; omega))
  refine wp_region_later (by kernel_rfl) (by kernel_rfl) ?_
  repeat go_big_quiet_step ((first | (go_at_call 28; exact Later.call (marks_any _)) | (go_at_call 32; exact Later.call (trimPrefix_any s _ _ hs (by decide)))))
  refine wpQuiet_nil ?_
  rintro _ ⟨x, rfl⟩
  generalize hr : trimP s _ = r
  have Hr := Lib.hid hr
  clear hr
  obtain ⟨hx, hfx⟩ := bcell x.below
  have hB5 : Below w.heap.size w x.wd := Below.call (by repeat (first | exact hB4 | exact Below.refl _ _ | (refine Below.setCell ?_ (by first | omega | (simp; done) | (simp; omega)) _) | (refine Below.alloc ?_ (by first | omega | (simp; done) | (simp; omega)) _) | refine Below.drew ?_)) x.below
  have hb5 := x.below
  have hs5 : w4.heap.size ≤ x.wd.heap.size := by have := x.below.size; simpa using this
  have l0 : x.wd.cell? ⟨w.heap.size + 1, 0, none⟩ = some (.int .u8 3) := by go_simp
  have l1 : x.wd.cell? ⟨w.heap.size + 1, 1, none⟩ = some (.int .u8 0) := by go_simp
  have l2 : x.wd.cell? ⟨w.heap.size, 0, none⟩ = some (.int .u8 0) := by go_simp
  have l3 : x.wd.cell? ⟨w.heap.size, 1, none⟩ = some (.int .u8 0) := by go_simp
  have g0 : x.wd.frozen? ⟨w.heap.size + 1, 0, none⟩ = false := by go_simp
  have g1 : x.wd.frozen? ⟨w.heap.size + 1, 1, none⟩ = false := by go_simp
  have g2 : x.wd.frozen? ⟨w.heap.size, 0, none⟩ = false := by go_simp
  have g3 : x.wd.frozen? ⟨w.heap.size, 1, none⟩ = false := by go_simp
  clear hx hfx d0 k4_0 k4_1 k4_2 k4_3 f4_0 f4_1 f4_2 f4_3
  generalize x.wd = w5 at *
  have hz5_0 : w.heap.size < w5.heap.size := by omega
  have hz5_1 : w.heap.size + 1 < w5.heap.size := by omega
  go_wp2_with fail
  refine (bases_any _).mono ?_
  rintro e w6 ⟨rfl, hb6⟩
  have hB6 : Below w.heap.size w w6 := Below.call (by repeat (first | exact hB5 | exact Below.refl _ _ | (refine Below.setCell ?_ (by first | omega | (simp; done) | (simp; omega)) _) | (refine Below.alloc ?_ (by first | omega | (simp; done) | (simp; omega)) _) | refine Below.drew ?_)) hb6
  have hS6 : w.heap.size ≤ w6.heap.size := hB6.size
  obtain ⟨hc6, hf6⟩ := bcell hb6
  have hz6_0 : w.heap.size < w6.heap.size := by have := hb6.size; first | omega | (simp at this; omega)
  have hz6_1 : w.heap.size + 1 < w6.heap.size := by have := hb6.size; first | omega | (simp at this; omega)
  have hp0 : progC s = baseC r 2 := by
    have h1 := Hq1.out
    have h2 := Hq2.out
    have h3 := Hq3.out
    rw [← Hr.out]
    simp only [progC, h1, h2, h3, Bool.false_eq_true, if_true, if_false]
  have Hp := Lib.hid hp0
  clear hp0
  go_wp2
  refine wp_loop_rounds 3 ?_
  rw [rounds_succ]
  go_wp2
  · rename_i h1
    have H1 := Lib.hid h1
    clear h1
    rw [rounds_succ]
    go_wp2
    · rename_i h2
      have hv := read_at (s := s) (c := -1) (by
        have h1 := H1.out
        have h2' := h2
        simp only [Bool.not_eq_true'] at h1 h2'
        rw [Hp.out, baseC, h1, h2']; rfl)
      have H2 := Lib.hid h2
      clear h2
      have Hv := Lib.hid hv
      clear hv
      rw [rounds_succ]
      go_wp2
      rw [Hv.out.1, Hv.out.2.1, Hv.out.2.2]
      refine bodyPost_ret (by simp [results, Try.results22, go_sem, *]; try rfl) rfl ⟨rfl, ?_⟩
      exact (by repeat (first | exact hB6 | exact Below.refl _ _ | (refine Below.setCell ?_ (by first | omega | (simp; done) | (simp; omega)) _) | (refine Below.alloc ?_ (by first | omega | (simp; done) | (simp; omega)) _) | refine Below.drew ?_))
    · rename_i h2
      have hv := read_at (s := s) (c := 3) (by
        have h1 := H1.out
        have h2' := h2
        simp only [Bool.not_eq_true', Bool.not_eq_false'] at h1 h2'
        rw [Hp.out, baseC, h1, h2']; rfl)
      have H2 := Lib.hid h2
      clear h2
      rw [hv.1, hv.2.1, hv.2.2]
      clear hv
      refine bodyPost_ret (by simp [results, Try.results22, go_sem, *]; try rfl) rfl ⟨rfl, ?_⟩
      exact (by repeat (first | exact hB6 | exact Below.refl _ _ | (refine Below.setCell ?_ (by first | omega | (simp; done) | (simp; omega)) _) | (refine Below.alloc ?_ (by first | omega | (simp; done) | (simp; omega)) _) | refine Below.drew ?_))
  · rename_i h1
    have hv := read_at (s := s) (c := 2) (by
      have h1' := h1
      simp only [Bool.not_eq_false'] at h1'
      rw [Hp.out, baseC, h1']; rfl)
    have H1 := Lib.hid h1
    clear h1
    rw [hv.1, hv.2.1, hv.2.2]
    clear hv
    refine bodyPost_ret (by simp [results, Try.results22, go_sem, *]; try rfl) rfl ⟨rfl, ?_⟩
    exact (by repeat (first | exact hB6 | exact Below.refl _ _ | (refine Below.setCell ?_ (by first | omega | (simp; done) | (simp; omega)) _) | (refine Below.alloc ?_ (by first | omega | (simp; done) | (simp; omega)) _) | refine Below.drew ?_))

set_option maxHeartbeats 4000000 in
theorem read_C (s : ByteArray) (w : World) (hs : s.size ≤ maxLen) (Hq1 : Hid (hp s ⟨#[38]⟩ = true)) (Hq2 : Hid (hp s ⟨#[38, 109, 117, 116, 32]⟩ = true)) (Hq3 : Hid (hp s ⟨#[42]⟩ = false)) :
    Calls Try.prog 22 #[.string s] w (Ret w (.tuple #[.agg #[.int .u8 (readK s), .int .u8 (readT s)], .int .i64 (readE s)])) := by
  go_enter Try.func22, Try.ntmps22
  go_wp2_with fail
  refine (marks_any _).mono ?_
  rintro e w1 ⟨rfl, hb1⟩
  have hB1 : Below w.heap.size w w1 := Below.call (by repeat (first | exact Below.refl _ _ | (refine Below.setCell ?_ (by first | omega | (simp; done) | (simp; omega)) _) | (refine Below.alloc ?_ (by first | omega | (simp; done) | (simp; omega)) _) | refine Below.drew ?_)) hb1
  have hS1 : w.heap.size ≤ w1.heap.size := hB1.size
  obtain ⟨hc1, hf1⟩ := bcell hb1
  have hz1_0 : w.heap.size < w1.heap.size := by have := hb1.size; first | omega | (simp at this; omega)
  have hz1_1 : w.heap.size + 1 < w1.heap.size := by have := hb1.size; first | omega | (simp at this; omega)
  go_wp2
  refine wp_loop_rounds 4 ?_
  rw [rounds_succ]
  go_wp2_with fail
  refine (hasPrefix_any s _ _ hs (by decide)).mono ?_
  rintro e w2 ⟨rfl, hb2⟩
  have hB2 : Below w.heap.size w w2 := Below.call (by repeat (first | exact hB1 | exact Below.refl _ _ | (refine Below.setCell ?_ (by first | omega | (simp; done) | (simp; omega)) _) | (refine Below.alloc ?_ (by first | omega | (simp; done) | (simp; omega)) _) | refine Below.drew ?_)) hb2
  have hS2 : w.heap.size ≤ w2.heap.size := hB2.size
  obtain ⟨hc2, hf2⟩ := bcell hb2
  have hz2_0 : w.heap.size < w2.heap.size := by have := hb2.size; first | omega | (simp at this; omega)
  have hz2_1 : w.heap.size + 1 < w2.heap.size := by have := hb2.size; first | omega | (simp at this; omega)
  have k2_0 : w2.cell? ⟨w.heap.size + 1, 0, none⟩ = some (.int .u8 0) := by go_simp
  have f2_0 : w2.frozen? ⟨w.heap.size + 1, 0, none⟩ = false := by go_simp
  have k2_1 : w2.cell? ⟨w.heap.size + 1, 1, none⟩ = some (.int .u8 0) := by go_simp
  have f2_1 : w2.frozen? ⟨w.heap.size + 1, 1, none⟩ = false := by go_simp
  have k2_2 : w2.cell? ⟨w.heap.size, 0, none⟩ = some (.int .u8 0) := by go_simp
  have f2_2 : w2.frozen? ⟨w.heap.size, 0, none⟩ = false := by go_simp
  have k2_3 : w2.cell? ⟨w.heap.size, 1, none⟩ = some (.int .u8 0) := by go_simp
  have f2_3 : w2.frozen? ⟨w.heap.size, 1, none⟩ = false := by go_simp
  clear hc2 hf2
  clear hc1 hf1
  rw [Hq1.out]
  go_wp2
  rw [rounds_succ]
  go_wp2_with fail
  refine (hasPrefix_any s _ _ hs (by decide)).mono ?_
  rintro e w3 ⟨rfl, hb3⟩
  have hB3 : Below w.heap.size w w3 := Below.call (by repeat (first | exact hB2 | exact Below.refl _ _ | (refine Below.setCell ?_ (by first | omega | (simp; done) | (simp; omega)) _) | (refine Below.alloc ?_ (by first | omega | (simp; done) | (simp; omega)) _) | refine Below.drew ?_)) hb3
  have hS3 : w.heap.size ≤ w3.heap.size := hB3.size
  obtain ⟨hc3, hf3⟩ := bcell hb3
  have hz3_0 : w.heap.size < w3.heap.size := by have := hb3.size; first | omega | (simp at this; omega)
  have hz3_1 : w.heap.size + 1 < w3.heap.size := by have := hb3.size; first | omega | (simp at this; omega)
  have k3_0 : w3.cell? ⟨w.heap.size + 1, 0, none⟩ = some (.int .u8 3) := by go_simp
  have f3_0 : w3.frozen? ⟨w.heap.size + 1, 0, none⟩ = false := by go_simp
  have k3_1 : w3.cell? ⟨w.heap.size + 1, 1, none⟩ = some (.int .u8 0) := by go_simp
  have f3_1 : w3.frozen? ⟨w.heap.size + 1, 1, none⟩ = false := by go_simp
  have k3_2 : w3.cell? ⟨w.heap.size, 0, none⟩ = some (.int .u8 0) := by go_simp
  have f3_2 : w3.frozen? ⟨w.heap.size, 0, none⟩ = false := by go_simp
  have k3_3 : w3.cell? ⟨w.heap.size, 1, none⟩ = some (.int .u8 0) := by go_simp
  have f3_3 : w3.frozen? ⟨w.heap.size, 1, none⟩ = false := by go_simp
  clear hc3 hf3
  rw [Hq2.out]
  go_wp2
  rw [rounds_succ]
  go_wp2_with fail
  refine (hasPrefix_any s _ _ hs (by decide)).mono ?_
  rintro e w4 ⟨rfl, hb4⟩
  have hB4 : Below w.heap.size w w4 := Below.call (by repeat (first | exact hB3 | exact Below.refl _ _ | (refine Below.setCell ?_ (by first | omega | (simp; done) | (simp; omega)) _) | (refine Below.alloc ?_ (by first | omega | (simp; done) | (simp; omega)) _) | refine Below.drew ?_)) hb4
  have hS4 : w.heap.size ≤ w4.heap.size := hB4.size
  obtain ⟨hc4, hf4⟩ := bcell hb4
  have hz4_0 : w.heap.size < w4.heap.size := by have := hb4.size; first | omega | (simp at this; omega)
  have hz4_1 : w.heap.size + 1 < w4.heap.size := by have := hb4.size; first | omega | (simp at this; omega)
  rw [Hq3.out]
  have k4_0 : w4.cell? ⟨w.heap.size + 1, 0, none⟩ = some (.int .u8 4) := by go_simp
  have f4_0 : w4.frozen? ⟨w.heap.size + 1, 0, none⟩ = false := by go_simp
  have k4_1 : w4.cell? ⟨w.heap.size + 1, 1, none⟩ = some (.int .u8 0) := by go_simp
  have f4_1 : w4.frozen? ⟨w.heap.size + 1, 1, none⟩ = false := by go_simp
  have k4_2 : w4.cell? ⟨w.heap.size, 0, none⟩ = some (.int .u8 0) := by go_simp
  have f4_2 : w4.frozen? ⟨w.heap.size, 0, none⟩ = false := by go_simp
  have k4_3 : w4.cell? ⟨w.heap.size, 1, none⟩ = some (.int .u8 0) := by go_simp
  have f4_3 : w4.frozen? ⟨w.heap.size, 1, none⟩ = false := by go_simp
  clear hc4 hf4
  go_wp2
  rw [rounds_succ]
  go_wp2
  have d0 := Later.cell (w := w4) (b := w.heap.size + 1) (o := 0) (v := some (.int .u8 4)) (by go_simp) (by first | exact hz4_1 | (simp; omega))
  refine wp_region_later (by kernel_rfl) (by kernel_rfl) ?_
  repeat go_big_quiet_step ((first | (go_at_call 28; exact Later.call (marks_any _)) | (go_at_call 32; exact Later.call (trimPrefix_any s _ _ hs (by decide)))))
  refine wpQuiet_nil ?_
  rintro _ ⟨x, rfl⟩
  generalize hr : trimP s _ = r
  have Hr := Lib.hid hr
  clear hr
  obtain ⟨hx, hfx⟩ := bcell x.below
  have hB5 : Below w.heap.size w x.wd := Below.call (by repeat (first | exact hB4 | exact Below.refl _ _ | (refine Below.setCell ?_ (by first | omega | (simp; done) | (simp; omega)) _) | (refine Below.alloc ?_ (by first | omega | (simp; done) | (simp; omega)) _) | refine Below.drew ?_)) x.below
  have hb5 := x.below
  have hs5 : w4.heap.size ≤ x.wd.heap.size := by have := x.below.size; simpa using this
  have l0 : x.wd.cell? ⟨w.heap.size + 1, 0, none⟩ = some (.int .u8 4) := by go_simp
  have l1 : x.wd.cell? ⟨w.heap.size + 1, 1, none⟩ = some (.int .u8 0) := by go_simp
  have l2 : x.wd.cell? ⟨w.heap.size, 0, none⟩ = some (.int .u8 0) := by go_simp
  have l3 : x.wd.cell? ⟨w.heap.size, 1, none⟩ = some (.int .u8 0) := by go_simp
  have g0 : x.wd.frozen? ⟨w.heap.size + 1, 0, none⟩ = false := by go_simp
  have g1 : x.wd.frozen? ⟨w.heap.size + 1, 1, none⟩ = false := by go_simp
  have g2 : x.wd.frozen? ⟨w.heap.size, 0, none⟩ = false := by go_simp
  have g3 : x.wd.frozen? ⟨w.heap.size, 1, none⟩ = false := by go_simp
  clear hx hfx d0 k4_0 k4_1 k4_2 k4_3 f4_0 f4_1 f4_2 f4_3
  generalize x.wd = w5 at *
  have hz5_0 : w.heap.size < w5.heap.size := by omega
  have hz5_1 : w.heap.size + 1 < w5.heap.size := by omega
  go_wp2_with fail
  refine (bases_any _).mono ?_
  rintro e w6 ⟨rfl, hb6⟩
  have hB6 : Below w.heap.size w w6 := Below.call (by repeat (first | exact hB5 | exact Below.refl _ _ | (refine Below.setCell ?_ (by first | omega | (simp; done) | (simp; omega)) _) | (refine Below.alloc ?_ (by first | omega | (simp; done) | (simp; omega)) _) | refine Below.drew ?_)) hb6
  have hS6 : w.heap.size ≤ w6.heap.size := hB6.size
  obtain ⟨hc6, hf6⟩ := bcell hb6
  have hz6_0 : w.heap.size < w6.heap.size := by have := hb6.size; first | omega | (simp at this; omega)
  have hz6_1 : w.heap.size + 1 < w6.heap.size := by have := hb6.size; first | omega | (simp at this; omega)
  have hp0 : progC s = baseC r 4 := by
    have h1 := Hq1.out
    have h2 := Hq2.out
    have h3 := Hq3.out
    rw [← Hr.out]
    simp only [progC, h1, h2, h3, Bool.false_eq_true, if_true, if_false]
  have Hp := Lib.hid hp0
  clear hp0
  go_wp2
  refine wp_loop_rounds 3 ?_
  rw [rounds_succ]
  go_wp2
  · rename_i h1
    have H1 := Lib.hid h1
    clear h1
    rw [rounds_succ]
    go_wp2
    · rename_i h2
      have hv := read_at (s := s) (c := -1) (by
        have h1 := H1.out
        have h2' := h2
        simp only [Bool.not_eq_true'] at h1 h2'
        rw [Hp.out, baseC, h1, h2']; rfl)
      have H2 := Lib.hid h2
      clear h2
      have Hv := Lib.hid hv
      clear hv
      rw [rounds_succ]
      go_wp2
      rw [Hv.out.1, Hv.out.2.1, Hv.out.2.2]
      refine bodyPost_ret (by simp [results, Try.results22, go_sem, *]; try rfl) rfl ⟨rfl, ?_⟩
      exact (by repeat (first | exact hB6 | exact Below.refl _ _ | (refine Below.setCell ?_ (by first | omega | (simp; done) | (simp; omega)) _) | (refine Below.alloc ?_ (by first | omega | (simp; done) | (simp; omega)) _) | refine Below.drew ?_))
    · rename_i h2
      have hv := read_at (s := s) (c := 5) (by
        have h1 := H1.out
        have h2' := h2
        simp only [Bool.not_eq_true', Bool.not_eq_false'] at h1 h2'
        rw [Hp.out, baseC, h1, h2']; rfl)
      have H2 := Lib.hid h2
      clear h2
      rw [hv.1, hv.2.1, hv.2.2]
      clear hv
      refine bodyPost_ret (by simp [results, Try.results22, go_sem, *]; try rfl) rfl ⟨rfl, ?_⟩
      exact (by repeat (first | exact hB6 | exact Below.refl _ _ | (refine Below.setCell ?_ (by first | omega | (simp; done) | (simp; omega)) _) | (refine Below.alloc ?_ (by first | omega | (simp; done) | (simp; omega)) _) | refine Below.drew ?_))
  · rename_i h1
    have hv := read_at (s := s) (c := 4) (by
      have h1' := h1
      simp only [Bool.not_eq_false'] at h1'
      rw [Hp.out, baseC, h1']; rfl)
    have H1 := Lib.hid h1
    clear h1
    rw [hv.1, hv.2.1, hv.2.2]
    clear hv
    refine bodyPost_ret (by simp [results, Try.results22, go_sem, *]; try rfl) rfl ⟨rfl, ?_⟩
    exact (by repeat (first | exact hB6 | exact Below.refl _ _ | (refine Below.setCell ?_ (by first | omega | (simp; done) | (simp; omega)) _) | (refine Below.alloc ?_ (by first | omega | (simp; done) | (simp; omega)) _) | refine Below.drew ?_))

set_option maxHeartbeats 4000000 in
theorem read_D (s : ByteArray) (w : World) (hs : s.size ≤ maxLen) (Hq1 : Hid (hp s ⟨#[38]⟩ = false)) (Hq2 : Hid (hp s ⟨#[38, 109, 117, 116, 32]⟩ = false)) (Hq3 : Hid (hp s ⟨#[42]⟩ = true)) :
    Calls Try.prog 22 #[.string s] w (Ret w (.tuple #[.agg #[.int .u8 (readK s), .int .u8 (readT s)], .int .i64 (readE s)])) := by
  go_enter Try.func22, Try.ntmps22
  go_wp2_with fail
  refine (marks_any _).mono ?_
  rintro e w1 ⟨rfl, hb1⟩
  have hB1 : Below w.heap.size w w1 := Below.call (by repeat (first | exact Below.refl _ _ | (refine Below.setCell ?_ (by first | omega | (simp; done) | (simp; omega)) _) | (refine Below.alloc ?_ (by first | omega | (simp; done) | (simp; omega)) _) | refine Below.drew ?_)) hb1
  have hS1 : w.heap.size ≤ w1.heap.size := hB1.size
  obtain ⟨hc1, hf1⟩ := bcell hb1
  have hz1_0 : w.heap.size < w1.heap.size := by have := hb1.size; first | omega | (simp at this; omega)
  have hz1_1 : w.heap.size + 1 < w1.heap.size := by have := hb1.size; first | omega | (simp at this; omega)
  go_wp2
  refine wp_loop_rounds 4 ?_
  rw [rounds_succ]
  go_wp2_with fail
  refine (hasPrefix_any s _ _ hs (by decide)).mono ?_
  rintro e w2 ⟨rfl, hb2⟩
  have hB2 : Below w.heap.size w w2 := Below.call (by repeat (first | exact hB1 | exact Below.refl _ _ | (refine Below.setCell ?_ (by first | omega | (simp; done) | (simp; omega)) _) | (refine Below.alloc ?_ (by first | omega | (simp; done) | (simp; omega)) _) | refine Below.drew ?_)) hb2
  have hS2 : w.heap.size ≤ w2.heap.size := hB2.size
  obtain ⟨hc2, hf2⟩ := bcell hb2
  have hz2_0 : w.heap.size < w2.heap.size := by have := hb2.size; first | omega | (simp at this; omega)
  have hz2_1 : w.heap.size + 1 < w2.heap.size := by have := hb2.size; first | omega | (simp at this; omega)
  have k2_0 : w2.cell? ⟨w.heap.size + 1, 0, none⟩ = some (.int .u8 0) := by go_simp
  have f2_0 : w2.frozen? ⟨w.heap.size + 1, 0, none⟩ = false := by go_simp
  have k2_1 : w2.cell? ⟨w.heap.size + 1, 1, none⟩ = some (.int .u8 0) := by go_simp
  have f2_1 : w2.frozen? ⟨w.heap.size + 1, 1, none⟩ = false := by go_simp
  have k2_2 : w2.cell? ⟨w.heap.size, 0, none⟩ = some (.int .u8 0) := by go_simp
  have f2_2 : w2.frozen? ⟨w.heap.size, 0, none⟩ = false := by go_simp
  have k2_3 : w2.cell? ⟨w.heap.size, 1, none⟩ = some (.int .u8 0) := by go_simp
  have f2_3 : w2.frozen? ⟨w.heap.size, 1, none⟩ = false := by go_simp
  clear hc2 hf2
  clear hc1 hf1
  rw [Hq1.out]
  go_wp2
  rw [rounds_succ]
  go_wp2_with fail
  refine (hasPrefix_any s _ _ hs (by decide)).mono ?_
  rintro e w3 ⟨rfl, hb3⟩
  have hB3 : Below w.heap.size w w3 := Below.call (by repeat (first | exact hB2 | exact Below.refl _ _ | (refine Below.setCell ?_ (by first | omega | (simp; done) | (simp; omega)) _) | (refine Below.alloc ?_ (by first | omega | (simp; done) | (simp; omega)) _) | refine Below.drew ?_)) hb3
  have hS3 : w.heap.size ≤ w3.heap.size := hB3.size
  obtain ⟨hc3, hf3⟩ := bcell hb3
  have hz3_0 : w.heap.size < w3.heap.size := by have := hb3.size; first | omega | (simp at this; omega)
  have hz3_1 : w.heap.size + 1 < w3.heap.size := by have := hb3.size; first | omega | (simp at this; omega)
  have k3_0 : w3.cell? ⟨w.heap.size + 1, 0, none⟩ = some (.int .u8 0) := by go_simp
  have f3_0 : w3.frozen? ⟨w.heap.size + 1, 0, none⟩ = false := by go_simp
  have k3_1 : w3.cell? ⟨w.heap.size + 1, 1, none⟩ = some (.int .u8 0) := by go_simp
  have f3_1 : w3.frozen? ⟨w.heap.size + 1, 1, none⟩ = false := by go_simp
  have k3_2 : w3.cell? ⟨w.heap.size, 0, none⟩ = some (.int .u8 0) := by go_simp
  have f3_2 : w3.frozen? ⟨w.heap.size, 0, none⟩ = false := by go_simp
  have k3_3 : w3.cell? ⟨w.heap.size, 1, none⟩ = some (.int .u8 0) := by go_simp
  have f3_3 : w3.frozen? ⟨w.heap.size, 1, none⟩ = false := by go_simp
  clear hc3 hf3
  rw [Hq2.out]
  go_wp2
  rw [rounds_succ]
  go_wp2_with fail
  refine (hasPrefix_any s _ _ hs (by decide)).mono ?_
  rintro e w4 ⟨rfl, hb4⟩
  have hB4 : Below w.heap.size w w4 := Below.call (by repeat (first | exact hB3 | exact Below.refl _ _ | (refine Below.setCell ?_ (by first | omega | (simp; done) | (simp; omega)) _) | (refine Below.alloc ?_ (by first | omega | (simp; done) | (simp; omega)) _) | refine Below.drew ?_)) hb4
  have hS4 : w.heap.size ≤ w4.heap.size := hB4.size
  obtain ⟨hc4, hf4⟩ := bcell hb4
  have hz4_0 : w.heap.size < w4.heap.size := by have := hb4.size; first | omega | (simp at this; omega)
  have hz4_1 : w.heap.size + 1 < w4.heap.size := by have := hb4.size; first | omega | (simp at this; omega)
  rw [Hq3.out]
  have k4_0 : w4.cell? ⟨w.heap.size + 1, 0, none⟩ = some (.int .u8 0) := by go_simp
  have f4_0 : w4.frozen? ⟨w.heap.size + 1, 0, none⟩ = false := by go_simp
  have k4_1 : w4.cell? ⟨w.heap.size + 1, 1, none⟩ = some (.int .u8 0) := by go_simp
  have f4_1 : w4.frozen? ⟨w.heap.size + 1, 1, none⟩ = false := by go_simp
  have k4_2 : w4.cell? ⟨w.heap.size, 0, none⟩ = some (.int .u8 0) := by go_simp
  have f4_2 : w4.frozen? ⟨w.heap.size, 0, none⟩ = false := by go_simp
  have k4_3 : w4.cell? ⟨w.heap.size, 1, none⟩ = some (.int .u8 0) := by go_simp
  have f4_3 : w4.frozen? ⟨w.heap.size, 1, none⟩ = false := by go_simp
  clear hc4 hf4
  go_wp2
  rw [rounds_succ]
  go_wp2
  have d0 := Later.cell (w := w4.setCell ⟨w.heap.size + 1, 0, none⟩ (.int .u8 5)) (b := w.heap.size + 1) (o := 0) (v := some (.int .u8 5)) (by go_simp) (by first | exact hz4_1 | (simp; omega))
  refine wp_region_later (by kernel_rfl) (by kernel_rfl) ?_
  repeat go_big_quiet_step ((first | (go_at_call 28; exact Later.call (marks_any _)) | (go_at_call 32; exact Later.call (trimPrefix_any s _ _ hs (by decide)))))
  refine wpQuiet_nil ?_
  rintro _ ⟨x, rfl⟩
  generalize hr : trimP s _ = r
  have Hr := Lib.hid hr
  clear hr
  obtain ⟨hx, hfx⟩ := bcell x.below
  have hB5 : Below w.heap.size w x.wd := Below.call (by repeat (first | exact hB4 | exact Below.refl _ _ | (refine Below.setCell ?_ (by first | omega | (simp; done) | (simp; omega)) _) | (refine Below.alloc ?_ (by first | omega | (simp; done) | (simp; omega)) _) | refine Below.drew ?_)) x.below
  have hb5 := x.below
  have hs5 : w4.heap.size ≤ x.wd.heap.size := by have := x.below.size; simpa using this
  have l0 : x.wd.cell? ⟨w.heap.size + 1, 0, none⟩ = some (.int .u8 5) := by go_simp
  have l1 : x.wd.cell? ⟨w.heap.size + 1, 1, none⟩ = some (.int .u8 0) := by go_simp
  have l2 : x.wd.cell? ⟨w.heap.size, 0, none⟩ = some (.int .u8 0) := by go_simp
  have l3 : x.wd.cell? ⟨w.heap.size, 1, none⟩ = some (.int .u8 0) := by go_simp
  have g0 : x.wd.frozen? ⟨w.heap.size + 1, 0, none⟩ = false := by go_simp
  have g1 : x.wd.frozen? ⟨w.heap.size + 1, 1, none⟩ = false := by go_simp
  have g2 : x.wd.frozen? ⟨w.heap.size, 0, none⟩ = false := by go_simp
  have g3 : x.wd.frozen? ⟨w.heap.size, 1, none⟩ = false := by go_simp
  clear hx hfx d0 k4_0 k4_1 k4_2 k4_3 f4_0 f4_1 f4_2 f4_3
  generalize x.wd = w5 at *
  have hz5_0 : w.heap.size < w5.heap.size := by omega
  have hz5_1 : w.heap.size + 1 < w5.heap.size := by omega
  go_wp2_with fail
  refine (bases_any _).mono ?_
  rintro e w6 ⟨rfl, hb6⟩
  have hB6 : Below w.heap.size w w6 := Below.call (by repeat (first | exact hB5 | exact Below.refl _ _ | (refine Below.setCell ?_ (by first | omega | (simp; done) | (simp; omega)) _) | (refine Below.alloc ?_ (by first | omega | (simp; done) | (simp; omega)) _) | refine Below.drew ?_)) hb6
  have hS6 : w.heap.size ≤ w6.heap.size := hB6.size
  obtain ⟨hc6, hf6⟩ := bcell hb6
  have hz6_0 : w.heap.size < w6.heap.size := by have := hb6.size; first | omega | (simp at this; omega)
  have hz6_1 : w.heap.size + 1 < w6.heap.size := by have := hb6.size; first | omega | (simp at this; omega)
  have hp0 : progC s = baseC r 6 := by
    have h1 := Hq1.out
    have h2 := Hq2.out
    have h3 := Hq3.out
    rw [← Hr.out]
    simp only [progC, h1, h2, h3, Bool.false_eq_true, if_true, if_false]
  have Hp := Lib.hid hp0
  clear hp0
  go_wp2
  refine wp_loop_rounds 3 ?_
  rw [rounds_succ]
  go_wp2
  · rename_i h1
    have H1 := Lib.hid h1
    clear h1
    rw [rounds_succ]
    go_wp2
    · rename_i h2
      have hv := read_at (s := s) (c := -1) (by
        have h1 := H1.out
        have h2' := h2
        simp only [Bool.not_eq_true'] at h1 h2'
        rw [Hp.out, baseC, h1, h2']; rfl)
      have H2 := Lib.hid h2
      clear h2
      have Hv := Lib.hid hv
      clear hv
      rw [rounds_succ]
      go_wp2
      rw [Hv.out.1, Hv.out.2.1, Hv.out.2.2]
      refine bodyPost_ret (by simp [results, Try.results22, go_sem, *]; try rfl) rfl ⟨rfl, ?_⟩
      exact (by repeat (first | exact hB6 | exact Below.refl _ _ | (refine Below.setCell ?_ (by first | omega | (simp; done) | (simp; omega)) _) | (refine Below.alloc ?_ (by first | omega | (simp; done) | (simp; omega)) _) | refine Below.drew ?_))
    · rename_i h2
      have hv := read_at (s := s) (c := 7) (by
        have h1 := H1.out
        have h2' := h2
        simp only [Bool.not_eq_true', Bool.not_eq_false'] at h1 h2'
        rw [Hp.out, baseC, h1, h2']; rfl)
      have H2 := Lib.hid h2
      clear h2
      rw [hv.1, hv.2.1, hv.2.2]
      clear hv
      refine bodyPost_ret (by simp [results, Try.results22, go_sem, *]; try rfl) rfl ⟨rfl, ?_⟩
      exact (by repeat (first | exact hB6 | exact Below.refl _ _ | (refine Below.setCell ?_ (by first | omega | (simp; done) | (simp; omega)) _) | (refine Below.alloc ?_ (by first | omega | (simp; done) | (simp; omega)) _) | refine Below.drew ?_))
  · rename_i h1
    have hv := read_at (s := s) (c := 6) (by
      have h1' := h1
      simp only [Bool.not_eq_false'] at h1'
      rw [Hp.out, baseC, h1']; rfl)
    have H1 := Lib.hid h1
    clear h1
    rw [hv.1, hv.2.1, hv.2.2]
    clear hv
    refine bodyPost_ret (by simp [results, Try.results22, go_sem, *]; try rfl) rfl ⟨rfl, ?_⟩
    exact (by repeat (first | exact hB6 | exact Below.refl _ _ | (refine Below.setCell ?_ (by first | omega | (simp; done) | (simp; omega)) _) | (refine Below.alloc ?_ (by first | omega | (simp; done) | (simp; omega)) _) | refine Below.drew ?_))

theorem hp_mut (s : ByteArray) (h : hp s ⟨#[38, 109, 117, 116, 32]⟩ = true) : hp s ⟨#[38]⟩ = true := by
  obtain ⟨r, hr⟩ := (hp_iff s _).1 h
  exact (hp_iff s _).2 ⟨[109, 117, 116, 32] ++ r, by rw [hr]; rfl⟩
theorem hp_raw (s : ByteArray) (h : hp s ⟨#[42]⟩ = true) : hp s ⟨#[38]⟩ = false := by
  obtain ⟨r, hr⟩ := (hp_iff s _).1 h
  cases hq : hp s ⟨#[38]⟩
  · rfl
  · obtain ⟨r', hr'⟩ := (hp_iff s _).1 hq
    rw [hr] at hr'
    have := congrArg List.head? hr'
    simp at this

theorem read_any (s : ByteArray) (w : World) (hs : s.size ≤ maxLen) :
    Calls Try.prog 22 #[.string s] w (Ret w (.tuple #[.agg #[.int .u8 (readK s), .int .u8 (readT s)], .int .i64 (readE s)])) := by
  cases h1 : hp s ⟨#[38]⟩
  · have h2 : hp s ⟨#[38, 109, 117, 116, 32]⟩ = false := by
      cases h : hp s ⟨#[38, 109, 117, 116, 32]⟩
      · rfl
      · rw [hp_mut s h] at h1; cases h1
    cases h3 : hp s ⟨#[42]⟩
    · exact read_A s w hs h1 h2 h3
    · exact read_D s w hs h1 h2 h3
  · have h3 : hp s ⟨#[42]⟩ = false := by
      cases h : hp s ⟨#[42]⟩
      · rfl
      · rw [hp_raw s h] at h1; cases h1
    cases h2 : hp s ⟨#[38, 109, 117, 116, 32]⟩
    · exact read_B s w hs h1 h2 h3
    · exact read_C s w hs h1 h2 h3

end Go.Proofs.Ythkfadnkonokdaa
