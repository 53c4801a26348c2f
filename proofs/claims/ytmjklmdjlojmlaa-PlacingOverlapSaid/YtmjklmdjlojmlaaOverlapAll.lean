/- The statement PlacingOverlap: all cases together. No condition. -/
import Derived.Test.YtmjklmdjlojmlaaOverlap
namespace Go.Proofs.Ytmjklmdjlojmlaa
open Go.RowKit

theorem plC_zero {l f : Int} (h1 : 0 ≤ l) (h2 : l < 16) (h3 : f ≤ 2) : plC l f = 0 := by
  rw [plC, if_neg (by simp [badP]; omega)]

/-- The numbers of a place, where it has a type: by the kind of its whole. -/
theorem place_nums {n : Nat} {K T : Nat → Int} {l f : Int} {d : Bool} (b4 : 0 ≤ f) (h : ptE n K T l d f = 0) :
    ptE n K T l d 0 = 0 ∧ (f = 0 ∨ f = 1 ∨ f = 2) ∧ (ptK n K T l d 0 ≠ 2 → f = 0) ∧ pcA n K T l d f = (if f = 2 then 1 else 0) ∧ (ptK n K T l d 0 = 2 → pcS n K T l d f = if f = 0 then 2 else 1) := by
  have hpf := ptE_zero h
  obtain ⟨h1, h2, h3, h4, h5, h6⟩ := pchk_zero hpf
  have hok := ptype_ok h
  have hp0 : pchk n K T l 0 = 0 := pchk_at h1 h2 h3 h4 h5 (by omega)
  have h' := h
  rw [ptE, if_pos hpf] at h'
  have e0 : ptE n K T l d 0 = 0 := by
    rw [ptE, if_pos hp0]
    cases d
    · simp
    · simp only [if_true] at h' ⊢
      by_cases ht : T l.toNat = 0
      · rw [if_pos ht] at h'; cases h'
      · rw [if_neg ht]
  have hk : ptK n K T l d 0 = if d then T l.toNat else K l.toNat := by rw [ptK, if_pos e0, if_pos rfl]
  have hf2 : f ≠ 0 → (if d then T l.toNat else K l.toNat) = 2 := by
    intro hf
    cases d
    · simp only [Bool.false_eq_true, if_false] at h' ⊢
      rw [if_neg hf] at h'
      split at h'
      · assumption
      · cases h'
    · simp only [if_true] at h' ⊢
      by_cases h2 : T l.toNat = 2
      · exact h2
      · by_cases h0 : T l.toNat = 0
        · rw [if_pos h0] at h'; cases h'
        · rw [if_neg h0, if_neg hf, if_neg h2] at h'; cases h'
  refine ⟨e0, by omega, ?_, by rw [pcA, if_pos h], ?_⟩
  · intro hne
    by_cases hf : f = 0
    · exact hf
    · exact absurd (hk.trans (hf2 hf)) hne
  · intro he
    rw [pcS, if_pos h, sizeV, if_pos hok, sizeOf_]
    by_cases hf : f = 0
    · subst hf; rw [he]; rfl
    · have : ptK n K T l d f = 1 := by rw [ptK, if_pos h, if_neg hf]
      rw [this, if_neg hf]; rfl

theorem overlap_walk (A : Option Addr) (n cap : Nat) (K T : Nat → Int) (l f : Int) (d : Bool) (l2 f2 : Int) (d2 : Bool) (w : World) (hn : n ≤ maxLen) (hT : Types w A n K T) (b4 : 0 ≤ f) (b5 : 0 ≤ f2) :
    Calls Try.prog 8 #[.slice A n cap, .agg #[.int .i64 l, .bool d, .int .u8 f], .agg #[.int .i64 l2, .bool d2, .int .u8 f2]] w (Ret w (.bool true)) := by
  by_cases h : 30 < n
  · exact over_long A n cap l f l2 f2 d d2 w hn h
  · have h30 : n ≤ 30 := by omega
    by_cases hp : ptE n K T l d f = 0
    · by_cases hp2 : ptE n K T l2 d2 f2 = 0
      · obtain ⟨_, x2, _, x4, x5, x6⟩ := pchk_zero (ptE_zero hp)
        obtain ⟨_, _, _, y4, y5, y6⟩ := pchk_zero (ptE_zero hp2)
        have hv := plC_zero (f := f) x4 (by omega) x6
        have hv2 := plC_zero (f := f2) y4 (by omega) y6
        by_cases hs : l = l2 ∧ d = d2
        · obtain ⟨rfl, rfl⟩ := hs
          obtain ⟨e0, hf, hne, ha, hs1⟩ := place_nums b4 hp
          obtain ⟨_, hf2, hne2, ha2, hs2⟩ := place_nums b5 hp2
          obtain ⟨O1, O2⟩ := over_same_any l f f2 d hv hv2 hf hf2
          refine over_same A n cap K T l f f2 _ _ _ _ _ d _ _ (ptK n K T l d 0 != 2) w hn hT b4 b5 h30 (by simp) rfl ?_ hp hp2 rfl rfl rfl rfl e0 rfl O1 O2
          by_cases hk : ptK n K T l d 0 = 2
          · right
            refine ⟨beqT' hk, ?_⟩
            rw [ha, ha2, hs1 hk, hs2 hk]
            rcases hf with rfl | rfl | rfl <;> rcases hf2 with rfl | rfl | rfl <;> simp [ovF, inF]
          · left
            refine ⟨beqF' hk, ?_⟩
            rw [hne hk, hne2 hk]
            decide
        · have hq : (l == l2 && d == d2) = false := by
            cases hb : (l == l2 && d == d2)
            · rfl
            · simp at hb; exact absurd hb hs
          obtain ⟨O1, O2⟩ := over_apart_any l f l2 f2 d d2 hv hv2 hq
          refine over_apart A n cap K T l f l2 f2 d d2 (l == l2) w hn hT b4 b5 h30 rfl ?_ hp hp2 O1 O2
          by_cases hl : l = l2
          · right
            refine ⟨beqT hl, ?_⟩
            rw [beqT hl] at hq
            simpa using hq
          · exact .inl (beqF hl)
      · exact over_bad A n cap K T l f l2 f2 _ _ d d2 false w hn hT b4 b5 h30 (beqT' hp) (.inr ⟨rfl, beqF' hp2⟩) rfl rfl
    · exact over_bad A n cap K T l f l2 f2 _ _ d d2 true w hn hT b4 b5 h30 (beqF' hp) (.inl rfl) rfl rfl

end Go.Proofs.Ytmjklmdjlojmlaa
