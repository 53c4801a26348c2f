/- Places of locals with one more behind: the plain law. No condition. -/
import Derived.Test.YtmjklmdjlojmlaaRefPlace
import Derived.Test.YtmjklmdjlojmlaaTypeRows
namespace Go.Proofs.Ytmjklmdjlojmlaa
open Go.RowKit

/-- One more behind n of them. -/
def ext (n : Nat) (K : Nat → Int) (k : Int) (i : Nat) : Int := if i < n then K i else k
theorem ext_lt {n : Nat} {K : Nat → Int} {k : Int} {i : Nat} (h : i < n) : ext n K k i = K i := if_pos h
theorem ext_at {n : Nat} {K : Nat → Int} {k : Int} : ext n K k n = k := if_neg (by omega)

theorem ext_ok {n : Nat} {K T : Nat → Int} {k t : Int} (h3 : ∀ i, i < n → okB (K i) (T i) = true) (h4 : okB k t = true) : ∀ i, i < n + 1 → okB (ext n K k i) (ext n T t i) = true := by
  intro i hi
  by_cases h : i < n
  · rw [ext_lt h, ext_lt h]; exact h3 i h
  · have : i = n := by omega
    subst this
    rw [ext_at, ext_at]; exact h4

theorem ext_bds {n : Nat} {K T : Nat → Int} {k t : Int} (h : ∀ i, i < n → 0 ≤ K i ∧ K i ≤ 255 ∧ 0 ≤ T i ∧ T i ≤ 255) (b0 : 0 ≤ k) (b1 : k ≤ 255) (b2 : 0 ≤ t) (b3 : t ≤ 255) :
    ∀ i, i < n + 1 → 0 ≤ ext n K k i ∧ ext n K k i ≤ 255 ∧ 0 ≤ ext n T t i ∧ ext n T t i ≤ 255 := by
  intro i hi
  by_cases hlt : i < n
  · rw [ext_lt hlt, ext_lt hlt]; exact h i hlt
  · have : i = n := by omega
    subst this
    rw [ext_at, ext_at]; exact ⟨b0, b1, b2, b3⟩

theorem pt_more {n : Nat} {K T : Nat → Int} {k t l f : Int} {d : Bool} (h1 : 1 ≤ n) (h2 : n < 16) (h3 : ∀ i, i < n → okB (K i) (T i) = true) (h4 : okB k t = true) (hl : ¬ l = n) :
    ptE (n + 1) (ext n K k) (ext n T t) l d f = ptE n K T l d f ∧ ptK (n + 1) (ext n K k) (ext n T t) l d f = ptK n K T l d f ∧ ptT (n + 1) (ext n K k) (ext n T t) l d f = ptT n K T l d f := by
  have hp : pchk (n + 1) (ext n K k) (ext n T t) l f = pchk n K T l f := by
    rw [pchk_ok (by omega) (by omega) (ext_ok h3 h4), pchk_ok h1 (by omega) h3]
    by_cases hb : badP l f = true
    · rw [if_pos hb, if_pos hb]
    · rw [if_neg hb, if_neg hb]
      by_cases hn : (n : Int) ≤ l
      · rw [if_pos (by push_cast; omega), if_pos hn]
      · rw [if_neg (by push_cast; omega), if_neg hn]
  have he : ptE (n + 1) (ext n K k) (ext n T t) l d f = ptE n K T l d f := by
    rw [ptE, ptE, hp]
    by_cases h0 : pchk n K T l f = 0
    · obtain ⟨_, _, _, y4, y5, _⟩ := pchk_zero h0
      rw [if_pos h0, if_pos h0, ext_lt (by omega), ext_lt (by omega)]
    · rw [if_neg h0, if_neg h0]
  refine ⟨he, ?_, ?_⟩
  · rw [ptK, ptK, he]
    by_cases h0 : ptE n K T l d f = 0
    · obtain ⟨_, _, _, y4, y5, _⟩ := pchk_zero (ptE_zero h0)
      rw [if_pos h0, if_pos h0, ext_lt (by omega), ext_lt (by omega)]
    · rw [if_neg h0, if_neg h0]
  · rw [ptT, ptT, he]
    by_cases h0 : ptE n K T l d f = 0
    · obtain ⟨_, _, _, y4, y5, _⟩ := pchk_zero (ptE_zero h0)
      rw [if_pos h0, if_pos h0, ext_lt (by omega)]
    · rw [if_neg h0, if_neg h0]

theorem pt_last {n : Nat} {K T : Nat → Int} {k t f : Int} {d : Bool} (h1 : 1 ≤ n) (h2 : n < 16) (h3 : ∀ i, i < n → okB (K i) (T i) = true) (h4 : okB k t = true) :
    ptE n K T n d f ≠ 0 ∧ ptE (n + 1) (ext n K k) (ext n T t) n d f = ptE 1 (fun _ => k) (fun _ => t) 0 d f ∧ ptK (n + 1) (ext n K k) (ext n T t) n d f = ptK 1 (fun _ => k) (fun _ => t) 0 d f ∧
      ptT (n + 1) (ext n K k) (ext n T t) n d f = ptT 1 (fun _ => k) (fun _ => t) 0 d f := by
  have hbad : badP n f = badP 0 f := by
    have e1 : decide ((n : Int) < 0) = false := by first | (simp; done) | (simp; omega)
    have e2 : decide (16 ≤ (n : Int)) = false := by simp; omega
    simp [badP, e1, e2]
  have hp : pchk (n + 1) (ext n K k) (ext n T t) n f = pchk 1 (fun _ => k) (fun _ => t) 0 f := by
    rw [pchk_ok (by omega) (by omega) (ext_ok h3 h4), pchk_ok (by omega) (by omega) (fun _ _ => h4), hbad, if_neg (show ¬ ((n + 1 : Nat) : Int) ≤ n by push_cast; omega), if_neg (show ¬ ((1 : Nat) : Int) ≤ 0 by decide)]
  have hn : pchk n K T n f ≠ 0 := by
    intro h
    obtain ⟨_, _, _, _, y5, _⟩ := pchk_zero h
    omega
  have em : (n : Int).toNat = n := by simp
  have he : ptE (n + 1) (ext n K k) (ext n T t) n d f = ptE 1 (fun _ => k) (fun _ => t) 0 d f := by
    rw [ptE, ptE, hp, em, ext_at, ext_at]
  refine ⟨?_, he, ?_, ?_⟩
  · rw [ptE_chk hn]; exact hn
  · rw [ptK, ptK, he, em, ext_at, ext_at]
  · rw [ptT, ptT, he, em, ext_at]

theorem tcells_ext {n : Nat} {K T : Nat → Int} {k t : Int} : tcells n K T ++ [.int .u8 k, .int .u8 t] = tcells (n + 1) (ext n K k) (ext n T t) := by
  refine List.ext_getElem? fun j => ?_
  by_cases h : j < n * 2
  · rw [List.getElem?_append_left (by rw [tcells_len]; exact h), tcells_get h, tcells_get (by omega), ext_lt (by omega), ext_lt (by omega)]
  · rw [List.getElem?_append_right (by rw [tcells_len]; omega), tcells_len]
    by_cases h' : j < (n + 1) * 2
    · rw [tcells_get h']
      have : j = n * 2 ∨ j = n * 2 + 1 := by omega
      rcases this with rfl | rfl
      · rw [show n * 2 - n * 2 = 0 from by omega, if_pos (by omega), show n * 2 / 2 = n from by omega, ext_at]; rfl
      · rw [show n * 2 + 1 - n * 2 = 1 from by omega, if_neg (by omega), show (n * 2 + 1) / 2 = n from by omega, ext_at]; rfl
    · rw [List.getElem?_eq_none (by simp; omega), List.getElem?_eq_none (by rw [tcells_len]; omega)]

/-- An empty row that was just made. -/
theorem made_at {W : World} {base size g : Nat} {e : TypeId} (hg : g = W.heap.size) (hb : base ≤ g) : (W.alloc (.cells #[] e)).ownsRow base e size (.slice (some ⟨g, 0, none⟩) 0 0) 0 [] := by
  subst hg
  exact World.ownsRow_made W #[] 0 hb (by decide) (by simp)

theorem made_drew {W : World} {base size g : Nat} {e : TypeId} (hg : g = W.heap.size) (hb : base ≤ g) : (W.alloc (.cells #[] e)).drew.ownsRow base e size (.slice (some ⟨g, 0, none⟩) 0 0) 0 [] := made_at hg hb

/-- One type, as it lies in a block. -/
theorem one_reads {W : World} {B g : Nat} {k t : Int} (hg : g < B) (h0 : W.cell? ⟨g, 0, none⟩ = some (.int .u8 k)) (h1 : W.cell? ⟨g, 1, none⟩ = some (.int .u8 t)) : Reads W B 2 (some ⟨g, 0, none⟩) 1 [.int .u8 k, .int .u8 t] := by
  refine ⟨rfl, fun _ => ⟨_, rfl, hg, fun j u hu => ?_⟩⟩
  match j, hu with
  | 0, hu => simp at hu; subst hu; exact h0
  | 1, hu => simp at hu; subst hu; exact h1
theorem one_cells {k t : Int} : ∀ u ∈ [Value.int .u8 k, Value.int .u8 t], u.oneCell' = true := by
  intro u hu
  simp at hu
  rcases hu with rfl | rfl <;> rfl

end Go.Proofs.Ytmjklmdjlojmlaa
