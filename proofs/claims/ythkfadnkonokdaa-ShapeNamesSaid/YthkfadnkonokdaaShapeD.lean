/- The texts of types: what each call comes to. No condition. -/
import Derived.Test.YthkfadnkonokdaaShapeC
namespace Go.Proofs.Ythkfadnkonokdaa
open Go.RowKit

/-- The texts, by number. -/
def nm (c : Int) : ByteArray :=
  if c = 0 then ⟨#[105, 110, 116]⟩ else
  if c = 1 then ⟨#[112, 97, 105, 114]⟩ else
  if c = 2 then ⟨#[38, 105, 110, 116]⟩ else
  if c = 3 then ⟨#[38, 112, 97, 105, 114]⟩ else
  if c = 4 then ⟨#[38, 109, 117, 116, 32, 105, 110, 116]⟩ else
  if c = 5 then ⟨#[38, 109, 117, 116, 32, 112, 97, 105, 114]⟩ else
  if c = 6 then ⟨#[42, 105, 110, 116]⟩ else
  ⟨#[42, 112, 97, 105, 114]⟩
def textV (k t : Int) : ByteArray := if okB k t then nm (codeV k t) else ⟨#[]⟩

set_option maxHeartbeats 400000 in
theorem bases_any (w : World) : Calls Try.prog 27 #[] w (Ret w (.agg #[.string ⟨#[105, 110, 116]⟩, .string ⟨#[112, 97, 105, 114]⟩])) := by
  go_enter Try.func27, Try.ntmps27
  go_wp2
  refine bodyPost_ret (by simp [results, Try.results27, go_sem]; try rfl) rfl ⟨rfl, ?_⟩
  repeat (first | exact Below.refl _ _ | (refine Below.setCell ?_ (by simp) _) | (refine Below.alloc ?_ (by simp) _) | refine Below.drew ?_)

set_option maxHeartbeats 400000 in
theorem marks_any (w : World) : Calls Try.prog 28 #[] w (Ret w (.agg #[.string ⟨#[38]⟩, .string ⟨#[38, 109, 117, 116, 32]⟩, .string ⟨#[42]⟩])) := by
  go_enter Try.func28, Try.ntmps28
  go_wp2
  refine bodyPost_ret (by simp [results, Try.results28, go_sem]; try rfl) rfl ⟨rfl, ?_⟩
  repeat (first | exact Below.refl _ _ | (refine Below.setCell ?_ (by simp) _) | (refine Below.alloc ?_ (by simp) _) | refine Below.drew ?_)

@[go_sem] theorem idx2_0 (w : World) : (Instr.index 50 (.agg #[.string ⟨#[105, 110, 116]⟩, .string ⟨#[112, 97, 105, 114]⟩]) (.int .u8 0)).run Try.prog w = .ok (.string ⟨#[105, 110, 116]⟩) w := by kernel_rfl
@[go_sem] theorem idx2_1 (w : World) : (Instr.index 50 (.agg #[.string ⟨#[105, 110, 116]⟩, .string ⟨#[112, 97, 105, 114]⟩]) (.int .u8 1)).run Try.prog w = .ok (.string ⟨#[112, 97, 105, 114]⟩) w := by kernel_rfl
@[go_sem] theorem idx3_0 (w : World) : (Instr.index 52 (.agg #[.string ⟨#[38]⟩, .string ⟨#[38, 109, 117, 116, 32]⟩, .string ⟨#[42]⟩]) (.int .u8 0)).run Try.prog w = .ok (.string ⟨#[38]⟩) w := by kernel_rfl
@[go_sem] theorem idx3_1 (w : World) : (Instr.index 52 (.agg #[.string ⟨#[38]⟩, .string ⟨#[38, 109, 117, 116, 32]⟩, .string ⟨#[42]⟩]) (.int .u8 1)).run Try.prog w = .ok (.string ⟨#[38, 109, 117, 116, 32]⟩) w := by kernel_rfl
@[go_sem] theorem idx3_2 (w : World) : (Instr.index 52 (.agg #[.string ⟨#[38]⟩, .string ⟨#[38, 109, 117, 116, 32]⟩, .string ⟨#[42]⟩]) (.int .u8 2)).run Try.prog w = .ok (.string ⟨#[42]⟩) w := by kernel_rfl

def namesCells : Array Value := #[.string ⟨#[105, 110, 116]⟩, .string ⟨#[112, 97, 105, 114]⟩, .string ⟨#[38, 105, 110, 116]⟩, .string ⟨#[38, 112, 97, 105, 114]⟩, .string ⟨#[38, 109, 117, 116, 32, 105, 110, 116]⟩, .string ⟨#[38, 109, 117, 116, 32, 112, 97, 105, 114]⟩, .string ⟨#[42, 105, 110, 116]⟩, .string ⟨#[42, 112, 97, 105, 114]⟩]
set_option maxHeartbeats 400000 in
theorem names_any (w : World) : Calls Try.prog 29 #[] w fun e w' => e = .returned (.slice (some ⟨w.heap.size, 0, none⟩) 8 8) ∧ w.alloc (.cells namesCells 9) = w' := by
  go_enter Try.func29, Try.ntmps29
  go_wp2
  go_ret
  exact ⟨rfl, rfl⟩

theorem okB_eight {k t : Int} (h : okB k t = true) : (k = 1 ∧ t = 0) ∨ (k = 2 ∧ t = 0) ∨ (k = 3 ∧ t = 1) ∨ (k = 3 ∧ t = 2) ∨ (k = 4 ∧ t = 1) ∨ (k = 4 ∧ t = 2) ∨ (k = 5 ∧ t = 1) ∨ (k = 5 ∧ t = 2) := by
  rw [okB_iff] at h; omega

set_option maxHeartbeats 1000000 in
theorem text_any (k t : Int) (w : World) (hk : 0 ≤ k) (hk' : k ≤ 255) (ht : 0 ≤ t) (ht' : t ≤ 255) :
    Calls Try.prog 15 #[.agg #[.int .u8 k, .int .u8 t]] w (Ret w (.tuple #[.string (textV k t), .int .i64 (chk k t)])) := by
  rcases okB_cases k t with h | h
  · rcases okB_eight h with ⟨rfl, rfl⟩ | ⟨rfl, rfl⟩ | ⟨rfl, rfl⟩ | ⟨rfl, rfl⟩ | ⟨rfl, rfl⟩ | ⟨rfl, rfl⟩ | ⟨rfl, rfl⟩ | ⟨rfl, rfl⟩
    all_goals
      clear h
      go_enter Try.func15, Try.ntmps15
      go_wp2_with fail
      refine (check_any _ _ _ (by omega) (by omega) (by omega) (by omega)).mono ?_
      rintro e w1 ⟨rfl, hb⟩
      rw [chk_ok (by decide)]
      have hB : Below w.heap.size w w1 := ((Below.refl _ _).alloc (Nat.le_refl _) _).trans (hb.mono (by simp))
      obtain ⟨hc, hf⟩ := bcell hb
      have hz : w.heap.size < w1.heap.size := by have := hb.size; simp at this; omega
      have c0 : w1.cell? ⟨w.heap.size, 0, none⟩ = _ := hc _ 0 (by simp)
      have c1 : w1.cell? ⟨w.heap.size, 1, none⟩ = _ := hc _ 1 (by simp)
      simp at c0 c1
      clear hc hf
      have d0 := Later.cell c0 hz
      have d1 := Later.cell c1 hz
      go_wp2
      refine wp_region_later (by kernel_rfl) (by kernel_rfl) ?_
      repeat go_big_quiet_step (first | (go_at_call 27; exact Later.call (bases_any _)) | (go_at_call 28; exact Later.call (marks_any _)))
      refine wpQuiet_nil ?_
      rintro _ ⟨x, rfl⟩
      go_wp2
      go_ret2
      exact ⟨rfl, hB.trans (x.below.mono hB.size)⟩
  · go_enter Try.func15, Try.ntmps15
    go_wp2_with fail
    refine (check_any k t _ (by omega) (by omega) (by omega) (by omega)).mono ?_
    rintro e w1 ⟨rfl, hb⟩
    rw [chk_no h]
    have hB : Below w.heap.size w w1 := ((Below.refl _ _).alloc (Nat.le_refl _) _).trans (hb.mono (by simp))
    have Hc := Lib.hid (chk_no h)
    have Hv := Lib.hid (show textV k t = ⟨#[]⟩ from by rw [textV, h]; rfl)
    clear h
    go_wp2
    go_ret2
    rw [Hc.out, Hv.out]
    exact ⟨rfl, hB⟩

theorem nameCell (c : Int) (h0 : 0 ≤ c) (h7 : c ≤ 7) : namesCells[c.toNat]? = some (.string (nm c)) := by
  have : c = 0 ∨ c = 1 ∨ c = 2 ∨ c = 3 ∨ c = 4 ∨ c = 5 ∨ c = 6 ∨ c = 7 := by omega
  rcases this with rfl | rfl | rfl | rfl | rfl | rfl | rfl | rfl <;> rfl

set_option maxHeartbeats 400000 in
theorem reftext_any (k t : Int) (w : World) (hk : 0 ≤ k) (hk' : k ≤ 255) (ht : 0 ≤ t) (ht' : t ≤ 255) :
    Calls Try.prog 16 #[.agg #[.int .u8 k, .int .u8 t]] w (Ret w (.tuple #[.string (textV k t), .int .i64 (chk k t)])) := by
  go_enter Try.func16, Try.ntmps16
  go_wp2_with fail
  refine (number_any k t _ (by omega) (by omega) (by omega) (by omega)).mono ?_
  rintro e w1 ⟨rfl, hb⟩
  obtain ⟨hc, hf⟩ := bcell hb
  have hB : Below w.heap.size w w1 := ((Below.refl _ _).alloc (Nat.le_refl _) _).trans (hb.mono (by simp))
  rcases okB_cases k t with h | h
  · have hr := code_range h
    rw [numV, if_pos h]
    have Hc := Lib.hid (chk_ok h)
    have Hv := Lib.hid (show textV k t = nm (codeV k t) from by rw [textV, if_pos h])
    clear h hc hf
    generalize codeV k t = c at *
    obtain ⟨m, rfl⟩ := Int.eq_ofNat_of_zero_le hr.1
    have hm : m < 8 := by omega
    go_wp2_with fail
    refine (names_any _).mono ?_
    rintro e w2 ⟨rfl, rfl⟩
    have hcell : (w1.alloc (.cells namesCells 9)).cell? ⟨w1.heap.size, m, none⟩ = some (.string (nm m)) := by
      rw [World.cell?_alloc_new]
      exact nameCell m (by omega) (by omega)
    go_wp2
    go_ret2
    rw [Hc.out, Hv.out]
    exact ⟨rfl, hB.alloc hB.size _⟩
  · rw [numV, if_neg (by simp [h])]
    have Hc := Lib.hid (chk_no h)
    have Hv := Lib.hid (show textV k t = ⟨#[]⟩ from by rw [textV, h]; rfl)
    clear h
    go_wp2
    go_ret2
    rw [Hc.out, Hv.out]
    exact ⟨rfl, hB⟩

end Go.Proofs.Ythkfadnkonokdaa
