/- Slices of types as rows of cells: into Reads, and out of a row of the call's own. No condition. -/
import Derived.Test.YtmjklmdjlojmlaaPlaceA
import Derived.Test.YtmjklmdjlojmlaaWords
namespace Go.Proofs.Ytmjklmdjlojmlaa
open Go.RowKit

/-- The cells of n types. -/
def tcells (n : Nat) (K T : Nat → Int) : List Value := (List.range (n * 2)).map fun j => if j % 2 = 0 then .int .u8 (K (j / 2)) else .int .u8 (T (j / 2))
theorem tcells_len (n : Nat) (K T : Nat → Int) : (tcells n K T).length = n * 2 := by simp [tcells]
theorem tcells_at {n : Nat} {K T : Nat → Int} {j : Nat} {u : Value} (h : (tcells n K T)[j]? = some u) : j < n * 2 ∧ u = if j % 2 = 0 then .int .u8 (K (j / 2)) else .int .u8 (T (j / 2)) := by
  have hj : j < (tcells n K T).length := by
    rcases Nat.lt_or_ge j (tcells n K T).length with h1 | h1
    · exact h1
    · rw [List.getElem?_eq_none h1] at h; cases h
  have hj' : j < n * 2 := by simpa [tcells_len] using hj
  refine ⟨hj', ?_⟩
  simp only [tcells, List.getElem?_map, List.getElem?_range hj', Option.map_some, Option.some.injEq] at h
  exact h.symm
theorem tcells_get {n : Nat} {K T : Nat → Int} {j : Nat} (h : j < n * 2) : (tcells n K T)[j]? = some (if j % 2 = 0 then .int .u8 (K (j / 2)) else .int .u8 (T (j / 2))) := by
  simp only [tcells, List.getElem?_map, List.getElem?_range h, Option.map_some]
theorem tcells_one {n : Nat} {K T : Nat → Int} : ∀ u ∈ tcells n K T, u.oneCell' = true := by
  intro u hu
  obtain ⟨j, hj, rfl⟩ := List.mem_map.1 hu
  split <;> rfl
theorem add_plain_ (b off j : Nat) : (⟨b, off, none⟩ : Addr).add j = ⟨b, off + j, none⟩ := by
  unfold Addr.add
  split
  · rename_i h; simp [h]
  · rfl

theorem Types.reads {w : World} {A : Option Addr} {n : Nat} {K T : Nat → Int} (h : Types w A n K T) : Reads w w.heap.size 2 A n (tcells n K T) := by
  refine ⟨tcells_len n K T, fun hn => ?_⟩
  obtain ⟨b, off, rfl, hlt, hc⟩ := h hn
  refine ⟨_, rfl, hlt, fun j u hu => ?_⟩
  obtain ⟨hj, rfl⟩ := tcells_at hu
  rw [add_plain_]
  obtain ⟨c0, c1, _⟩ := hc (j / 2) (by omega)
  by_cases hm : j % 2 = 0
  · rw [if_pos hm, ← c0]
    congr 2
    omega
  · rw [if_neg hm, ← c1]
    congr 2
    omega

theorem types_of_own {w : World} {base : Nat} {e : TypeId} {v : Value} {n : Nat} {K T : Nat → Int} (hb : ∀ i, i < n → 0 ≤ K i ∧ K i ≤ 255 ∧ 0 ≤ T i ∧ T i ≤ 255) (h : w.ownsRow base e 2 v n (tcells n K T)) :
    ∃ A c, v = .slice A n c ∧ n ≤ c ∧ c ≤ maxLen ∧ Types w A n K T := by
  rcases h.2 with ⟨rfl, rfl⟩ | ⟨g, cap, cur, rfl, hg, hh, hnc, hcm, hsz, htk⟩
  · exact ⟨none, 0, rfl, by omega, by simp [maxLen], fun h => by omega⟩
  · refine ⟨_, _, rfl, hnc, hcm, fun hn => ⟨g, 0, rfl, (h.lt g rfl).2, fun i hi => ?_⟩⟩
    have hc := h.cells (g := g) rfl
    have e0 := hc (i * 2) _ (tcells_get (by omega))
    have e1 := hc (i * 2 + 1) _ (tcells_get (by omega))
    rw [add_plain_] at e0 e1
    rw [if_pos (by omega), show i * 2 / 2 = i from by omega] at e0
    rw [if_neg (by omega), show (i * 2 + 1) / 2 = i from by omega] at e1
    refine ⟨e0, ?_, hb i hi⟩
    rw [← e1]
    congr 2

theorem Types.bds {w : World} {A : Option Addr} {n : Nat} {K T : Nat → Int} (h : Types w A n K T) : ∀ i, i < n → 0 ≤ K i ∧ K i ≤ 255 ∧ 0 ≤ T i ∧ T i ≤ 255 := by
  intro i hi
  obtain ⟨b, off, _, _, hc⟩ := h (by omega)
  exact (hc i hi).2.2
theorem Types.later {w : World} {A : Option Addr} {n : Nat} {K T : Nat → Int} (h : Types w A n K T) (x : Later w) : Types x.wd A n K T := h.below' x.below

theorem type_info : (Try.prog.info? 27).map (fun i => (i.zero, i.size, i.bytes)) = some (some (.agg #[.int .u8 0, .int .u8 0]), 2, 2) := by kernel_rfl

end Go.Proofs.Ytmjklmdjlojmlaa
