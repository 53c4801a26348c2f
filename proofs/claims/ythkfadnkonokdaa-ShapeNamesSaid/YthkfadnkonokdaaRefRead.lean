/- The type that a text is: what the reference's Read comes to. -/
import Derived.Test.YthkfadnkonokdaaRead
namespace Go.Proofs.Ythkfadnkonokdaa
open Go.RowKit

theorem readC_least (s : ByteArray) (j : Nat) (hj : j < 8) (hm : ∀ m : Nat, m < j → s ≠ nm m) (h : s = nm j) : readC s = j := by
  rw [h]; exact readC_nm j (by omega) (by omega)
theorem readC_no (s : ByteArray) (hm : ∀ m : Nat, m < 8 → s ≠ nm m) : readC s = -1 := by
  rcases readC_cases s with ⟨j, h0, h7, h, _⟩ | h
  · obtain ⟨n, rfl⟩ := Int.eq_ofNat_of_zero_le h0
    exact absurd h (hm n (by omega))
  · exact h

set_option maxHeartbeats 1000000 in
theorem refread_any (s : ByteArray) (w : World) (hs : s.size ≤ maxLen) :
    Calls Try.prog 23 #[.string s] w (Ret w (.tuple #[.agg #[.int .u8 (readK s), .int .u8 (readT s)], .int .i64 (readE s)])) := by
  go_enter Try.func23, Try.ntmps23
  go_wp2_with fail
  refine (names_any _).mono ?_
  rintro e w1 ⟨rfl, rfl⟩
  go_wp2
  go_loopw [5] (fun v wr => ∃ j : Nat, j ≤ 8 ∧ v = .int .i64 j ∧ (∀ m : Nat, m < j → s ≠ nm m) ∧
      ((w.alloc (.cells #[.int .u8 0, .int .u8 0] 23)).alloc (.cells namesCells 9)) = wr) (fun v _ => (8 - intOf v).toNat)
  case atStart => exact ⟨0, by omega, rfl, fun m hm => by omega, rfl⟩
  case round =>
    obtain ⟨j, hj, rfl, hno, rfl⟩ := hrel
    have Hno := Lib.hid hno
    clear hno
    by_cases hlt : j < 8
    · have hcell : ((w.alloc (.cells #[.int .u8 0, .int .u8 0] 23)).alloc (.cells namesCells 9)).cell? ⟨w.heap.size + 1, j, none⟩ = some (.string (nm j)) := by
        rw [show w.heap.size + 1 = (w.alloc (.cells #[.int .u8 0, .int .u8 0] 23)).heap.size from by simp, World.cell?_alloc_new]
        exact nameCell j (by omega) (by omega)
      generalize hnm : nm (j : Int) = name at *
      have Hnm := Lib.hid hnm
      clear hnm
      by_cases hm : name.toList = s.toList
      · have hq : (name.toList == s.toList) = true := by simpa using hm
        have he : name = s := bytes_ext (by rw [ByteArray.toList_eq, ByteArray.toList_eq] at hm; exact hm)
        have hv := readC_least s j hlt Hno.out (by rw [Hnm.out, he])
        have Hk := Lib.hid (show readK s = wK j from by rw [readK, hv, if_neg (by omega)])
        have Ht := Lib.hid (show readT s = wT j from by rw [readT, hv, if_neg (by omega)])
        have He := Lib.hid (show readE s = 0 from by rw [readE, hv, if_neg (by omega)])
        clear hm he hv
        go_wp2_with fail
        refine (with_any j _ (by omega) (by omega)).mono ?_
        rintro e w3 ⟨rfl, hb3⟩
        have hB3 : Below w.heap.size w w3 := Below.call (by repeat (first | exact Below.refl _ _ | (refine Below.setCell ?_ (by first | omega | (simp; done) | (simp; omega)) _) | (refine Below.alloc ?_ (by first | omega | (simp; done) | (simp; omega)) _) | refine Below.drew ?_)) hb3
        have hs3 := hb3.size
        simp at hs3
        obtain ⟨hc3, hf3⟩ := bcell hb3
        have k0 : w3.cell? ⟨w.heap.size, 0, none⟩ = some (.int .u8 0) := by rw [hc3 _ _ (by simp; omega)]; go_simp
        have k1 : w3.cell? ⟨w.heap.size, 1, none⟩ = some (.int .u8 0) := by rw [hc3 _ _ (by simp; omega)]; go_simp
        have k2 : w3.frozen? ⟨w.heap.size, 0, none⟩ = false := by rw [hf3 _ _ (by simp; omega)]; go_simp
        have k3 : w3.frozen? ⟨w.heap.size, 1, none⟩ = false := by rw [hf3 _ _ (by simp; omega)]; go_simp
        clear hc3 hf3 hcell
        go_wp2
        rw [Hk.out, Ht.out, He.out]
        refine bodyPost_ret (by simp [results, Try.results23, go_sem, k0, k1]; try rfl) rfl ⟨rfl, ?_⟩
        exact (by repeat (first | exact hB3 | exact Below.refl _ _ | (refine Below.setCell ?_ (by first | omega | (simp; done) | (simp; omega)) _) | (refine Below.alloc ?_ (by first | omega | (simp; done) | (simp; omega)) _) | refine Below.drew ?_))
      · have hq : (name.toList == s.toList) = false := by simpa using hm
        have Hs := Lib.hid (show ∀ m : Nat, m < j + 1 → s ≠ nm m from by
          intro m hmj
          rcases Nat.lt_or_eq_of_le (Nat.le_of_lt_succ hmj) with h | rfl
          · exact Hno.out m h
          · intro he; exact hm (by rw [he, Hnm.out]))
        clear hm
        go_wp2
        go_roundw
        case rel => exact ⟨j + 1, by omega, by go_num, Hs.out, trivial⟩
        case measure => simp [intOf]; omega
    · have : j = 8 := by omega
      subst this
      have hv := readC_no s Hno.out
      have Hk := Lib.hid (show readK s = 0 from by rw [readK, hv]; rfl)
      have Ht := Lib.hid (show readT s = 0 from by rw [readT, hv]; rfl)
      have He := Lib.hid (show readE s = 12 from by rw [readE, hv]; rfl)
      clear hv Hno
      go_wp2
      rw [Hk.out, Ht.out, He.out]
      refine bodyPost_ret (by simp [results, Try.results23, go_sem]; try rfl) rfl ⟨rfl, ?_⟩
      exact (by repeat (first | exact Below.refl _ _ | (refine Below.setCell ?_ (by first | omega | (simp; done) | (simp; omega)) _) | (refine Below.alloc ?_ (by first | omega | (simp; done) | (simp; omega)) _) | refine Below.drew ?_))

end Go.Proofs.Ythkfadnkonokdaa
