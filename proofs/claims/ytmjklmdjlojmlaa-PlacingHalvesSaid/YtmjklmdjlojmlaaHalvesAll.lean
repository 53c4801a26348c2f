/- The statement PlacingHalves: all cases together. No condition. -/
import Derived.Test.YtmjklmdjlojmlaaHalves
namespace Go.Proofs.Ytmjklmdjlojmlaa
open Go.RowKit

theorem halves_walk (A : Option Addr) (n cap : Nat) (K T : Nat → Int) (l f : Int) (d : Bool) (w : World) (hn : n ≤ maxLen) (hT : Types w A n K T) (b4 : 0 ≤ f) :
    Calls Try.prog 3 #[.slice A n cap, .agg #[.int .i64 l, .bool d, .int .u8 f]] w (Ret w (.bool true)) := by
  by_cases h : 30 < n
  · exact halves_long A n cap l f d w hn h
  · have h30 : n ≤ 30 := by omega
    by_cases hp : ptE n K T l d f = 0
    · have hbd := @ptype_bd n K T l f d
      have hok := ptype_ok hp
      obtain ⟨h1, h2, h3, h4, h5, h6⟩ := pchk_zero (ptE_zero hp)
      obtain ⟨m, rfl⟩ := Int.eq_ofNat_of_zero_le h4
      obtain ⟨b, off, rfl, hlt, hc⟩ := hT (by omega)
      have em : (m : Int).toNat = m := by simp
      have hpf : pchk n K T m f = 0 := ptE_zero hp
      have hE : ∀ g : Int, g = 1 ∨ g = 2 → ptE n K T m d g = if (if d then T m else K m) = 2 then 0 else 42 := by
        intro g hg
        rw [ptE, if_pos (pchk_at h1 h2 h3 h4 h5 (by omega)), em]
        rw [ptE, if_pos hpf, em] at hp
        cases d
        · simp only [Bool.false_eq_true, if_false]
          rw [if_neg (by omega)]
        · simp only [if_true] at hp ⊢
          by_cases ht : T m = 0
          · rw [if_pos ht] at hp; cases hp
          · rw [if_neg ht, if_neg (by omega)]
      have hA1 : ptE n K T m d 1 = 0 → pcA n K T m d 1 = 0 ∧ pcS n K T m d 1 = 1 := by
        intro e
        refine ⟨by rw [pcA, if_pos e, if_neg (by omega)], ?_⟩
        rw [pcS, if_pos e, ptK, if_pos e, if_neg (by omega), ptT, if_pos e, if_neg (by omega)]; rfl
      have hA2 : ptE n K T m d 2 = 0 → pcA n K T m d 2 = 1 ∧ pcS n K T m d 2 = 1 := by
        intro e
        refine ⟨by rw [pcA, if_pos e, if_pos rfl], ?_⟩
        rw [pcS, if_pos e, ptK, if_pos e, if_neg (by omega), ptT, if_pos e, if_neg (by omega)]; rfl
      have hK : ptK n K T m d f = if f = 0 then (if d then T m else K m) else 1 := by rw [ptK, if_pos hp, em]
      have hT0 : d = true → ptT n K T m d f = 0 := by
        intro e
        rw [ptT, if_pos hp, e]
        simp
      have hS : pcS n K T m d f = sizeV (ptK n K T m d f) (ptT n K T m d f) := by rw [pcS, if_pos hp]
      have hA : pcA n K T m d f = if f = 2 then 1 else 0 := by rw [pcA, if_pos hp]
      have hx : d = true → tgtE (ptK n K T m d f) (ptT n K T m d f) = 6 := by
        intro e
        rw [tgtE, if_pos hok, if_pos (hT0 e)]
      have hchk := chk_ok hok
      have hchk' : ∀ k, ptK n K T m d f = k → chk k (ptT n K T m d f) = 0 := fun k e => by rw [← e]; exact hchk
      have hx' : ∀ k, ptK n K T m d f = k → d = true → tgtE k (ptT n K T m d f) = 6 := fun k e e' => by rw [← e]; exact hx e'
      by_cases hf : f = 0
      · subst hf
        rw [if_pos rfl] at hK
        rw [if_neg (by omega)] at hA
        by_cases hk : (if d then T m else K m) = 2
        · have e1 := (hE 1 (.inl rfl)).trans (if_pos hk)
          have e2 := (hE 2 (.inr rfl)).trans (if_pos hk)
          rw [hk] at hK
          cases d
          · exact halves_false_0 b off n cap m K T 2 _ _ _ 0 0 0 0 w hn hT h30 (by omega) (by omega) hbd.2.2.1 hbd.2.2.2 hp hK rfl hA rfl ⟨by rw [hS, hK], hchk' _ hK, rfl⟩ ⟨e1, hA1 e1⟩ ⟨e2, hA2 e2⟩
          · exact halves_true_0 b off n cap m K T 2 _ _ 6 0 0 0 0 w hn hT h30 (by omega) (by omega) hbd.2.2.1 hbd.2.2.2 hp hK rfl hA rfl ⟨by rw [hS, hK], hchk' _ hK, hx' _ hK rfl⟩ ⟨e1, hA1 e1⟩ ⟨e2, hA2 e2⟩
        · have e1 := (hE 1 (.inl rfl)).trans (if_neg hk)
          have e2 := (hE 2 (.inr rfl)).trans (if_neg hk)
          have hkn : (ptK n K T m d 0 != 2) = true := by rw [hK]; exact beqF' hk
          cases d
          · exact halves_false_1 b off n cap m K T _ _ _ _ _ _ _ _ w hn hT h30 hbd.1 hbd.2.1 hbd.2.2.1 hbd.2.2.2 hkn hp rfl rfl hA rfl ⟨hS.symm, hchk, rfl⟩ ⟨e1, rfl, rfl⟩ ⟨e2, rfl, rfl⟩
          · exact halves_true_1 b off n cap m K T _ _ _ 6 _ _ _ _ w hn hT h30 hbd.1 hbd.2.1 hbd.2.2.1 hbd.2.2.2 hkn hp rfl rfl hA rfl ⟨hS.symm, hchk, hx rfl⟩ ⟨e1, rfl, rfl⟩ ⟨e2, rfl, rfl⟩
      · rw [if_neg hf] at hK
        have hk : (if d then T m else K m) = 2 := by
          rw [ptE, if_pos hpf, em] at hp
          cases d
          · simp only [Bool.false_eq_true, if_false] at hp ⊢
            rw [if_neg hf] at hp
            split at hp
            · assumption
            · cases hp
          · simp only [if_true] at hp ⊢
            by_cases h2 : T m = 2
            · exact h2
            · by_cases h0 : T m = 0
              · rw [if_pos h0] at hp; cases hp
              · rw [if_neg h0, if_neg hf, if_neg h2] at hp; cases hp
        have e1 := (hE 1 (.inl rfl)).trans (if_pos hk)
        have e2 := (hE 2 (.inr rfl)).trans (if_pos hk)
        have hs1 : pcS n K T m d f = 1 := by
          rw [hS, hK, ptT, if_pos hp, if_neg hf]; rfl
        have ht0 : ptT n K T m d f = 0 := by rw [ptT, if_pos hp, if_neg hf]
        have hf12 : f = 1 ∨ f = 2 := by omega
        rcases hf12 with rfl | rfl
        · rw [if_neg (by omega)] at hA
          cases d
          · exact halves_false_2 b off n cap m K T 1 _ 0 _ 0 0 0 0 w hn hT h30 (by omega) (by omega) (by omega) (by omega) hp hK rfl hA hs1 ⟨by rw [ht0]; rfl, hchk' _ hK, rfl⟩ ⟨e1, hA1 e1⟩ ⟨e2, hA2 e2⟩
          · exact halves_true_2 b off n cap m K T 1 _ 0 6 0 0 0 0 w hn hT h30 (by omega) (by omega) (by omega) (by omega) hp hK rfl hA hs1 ⟨by rw [ht0]; rfl, hchk' _ hK, hx' _ hK rfl⟩ ⟨e1, hA1 e1⟩ ⟨e2, hA2 e2⟩
        · rw [if_pos rfl] at hA
          cases d
          · exact halves_false_3 b off n cap m K T 1 _ 0 _ 0 0 0 0 w hn hT h30 (by omega) (by omega) (by omega) (by omega) hp hK rfl hA hs1 ⟨by rw [ht0]; rfl, hchk' _ hK, rfl⟩ ⟨e1, hA1 e1⟩ ⟨e2, hA2 e2⟩
          · exact halves_true_3 b off n cap m K T 1 _ 0 6 0 0 0 0 w hn hT h30 (by omega) (by omega) (by omega) (by omega) hp hK rfl hA hs1 ⟨by rw [ht0]; rfl, hchk' _ hK, hx' _ hK rfl⟩ ⟨e1, hA1 e1⟩ ⟨e2, hA2 e2⟩
    · have H2 : ptK n K T l d f = 0 := by rw [ptK, if_neg hp]
      have H3 : ptT n K T l d f = 0 := by rw [ptT, if_neg hp]
      have H4 : pcA n K T l d f = 0 := by rw [pcA, if_neg hp]
      have H5 : pcS n K T l d f = 0 := by rw [pcS, if_neg hp]
      exact halves_bad A n cap K T l f _ d w hn hT b4 h30 (beqF' hp) rfl H2 H3 H4 H5

end Go.Proofs.Ytmjklmdjlojmlaa
