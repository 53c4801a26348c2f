/- Lists of constraints of the call's own. No condition. -/
import Derived.Test.YtcdbaoejakcemaaSolveQ
namespace Go.Proofs.Ytcdbaoejakcemaa
open Go.RowKit

def ccell (F T N Y : Nat → Int) (j : Nat) : Value := if j % 4 = 0 then .int .i64 (F (j / 4)) else if j % 4 = 1 then .int .i64 (T (j / 4)) else if j % 4 = 2 then .int .i64 (N (j / 4)) else .int .u8 (Y (j / 4))
/-- The cells of n constraints. -/
def ccells (n : Nat) (F T N Y : Nat → Int) : List Value := (List.range (n * 4)).map (ccell F T N Y)
theorem ccells_len (n : Nat) (F T N Y : Nat → Int) : (ccells n F T N Y).length = n * 4 := by simp [ccells]
theorem ccells_get {n : Nat} {F T N Y : Nat → Int} {j : Nat} (h : j < n * 4) : (ccells n F T N Y)[j]? = some (ccell F T N Y j) := by simp only [ccells, List.getElem?_map, List.getElem?_range h, Option.map_some]
theorem ccells_at {n : Nat} {F T N Y : Nat → Int} {j : Nat} {u : Value} (h : (ccells n F T N Y)[j]? = some u) : j < n * 4 ∧ u = ccell F T N Y j := by
  have hj : j < n * 4 := by
    rcases Nat.lt_or_ge j (n * 4) with h1 | h1
    · exact h1
    · rw [List.getElem?_eq_none (by rw [ccells_len]; exact h1)] at h; cases h
  rw [ccells_get hj] at h
  injection h with h
  exact ⟨hj, h.symm⟩
theorem ccell_0 {F T N Y : Nat → Int} (i : Nat) : ccell F T N Y (i * 4) = .int .i64 (F i) := by
  rw [ccell, if_pos (by omega), show i * 4 / 4 = i from by omega]
theorem ccell_1 {F T N Y : Nat → Int} (i : Nat) : ccell F T N Y (i * 4 + 1) = .int .i64 (T i) := by
  rw [ccell, if_neg (by omega), if_pos (by omega), show (i * 4 + 1) / 4 = i from by omega]
theorem ccell_2 {F T N Y : Nat → Int} (i : Nat) : ccell F T N Y (i * 4 + 2) = .int .i64 (N i) := by
  rw [ccell, if_neg (by omega), if_neg (by omega), if_pos (by omega), show (i * 4 + 2) / 4 = i from by omega]
theorem ccell_3 {F T N Y : Nat → Int} (i : Nat) : ccell F T N Y (i * 4 + 3) = .int .u8 (Y i) := by
  rw [ccell, if_neg (by omega), if_neg (by omega), if_neg (by omega), show (i * 4 + 3) / 4 = i from by omega]
theorem ccells_one {n : Nat} {F T N Y : Nat → Int} : ∀ u ∈ ccells n F T N Y, u.oneCell' = true := by
  intro u hu
  obtain ⟨j, hj, rfl⟩ := List.mem_map.1 hu
  unfold ccell
  repeat (first | rfl | split)
theorem ccells_succ (n : Nat) (F T N Y : Nat → Int) : ccells n F T N Y ++ [.int .i64 (F n), .int .i64 (T n), .int .i64 (N n), .int .u8 (Y n)] = ccells (n + 1) F T N Y := by
  refine List.ext_getElem? fun j => ?_
  by_cases h : j < n * 4
  · rw [List.getElem?_append_left (by rw [ccells_len]; exact h), ccells_get h, ccells_get (by omega)]
  · rw [List.getElem?_append_right (by rw [ccells_len]; omega), ccells_len]
    by_cases h' : j < (n + 1) * 4
    · rw [ccells_get h']
      have : j = n * 4 ∨ j = n * 4 + 1 ∨ j = n * 4 + 2 ∨ j = n * 4 + 3 := by omega
      rcases this with rfl | rfl | rfl | rfl
      · rw [ccell_0, show n * 4 - n * 4 = 0 from by omega]; rfl
      · rw [ccell_1, show n * 4 + 1 - n * 4 = 1 from by omega]; rfl
      · rw [ccell_2, show n * 4 + 2 - n * 4 = 2 from by omega]; rfl
      · rw [ccell_3, show n * 4 + 3 - n * 4 = 3 from by omega]; rfl
    · rw [List.getElem?_eq_none (by simp; omega), List.getElem?_eq_none (by rw [ccells_len]; omega)]
theorem ccells_congr {n : Nat} {F T N Y F' T' N' Y' : Nat → Int} (h : ∀ i, i < n → F i = F' i ∧ T i = T' i ∧ N i = N' i ∧ Y i = Y' i) : ccells n F T N Y = ccells n F' T' N' Y' := by
  refine List.map_congr_left fun j hj => ?_
  obtain ⟨h1, h2, h3, h4⟩ := h (j / 4) (by have := List.mem_range.1 hj; omega)
  unfold ccell
  rw [h1, h2, h3, h4]

theorem Cons.reads {w : World} {A : Option Addr} {n : Nat} {F T N Y : Nat → Int} (h : Cons w A n F T N Y) : Reads w w.heap.size 4 A n (ccells n F T N Y) := by
  refine ⟨ccells_len n F T N Y, fun hn => ?_⟩
  obtain ⟨b, off, rfl, hlt, hc⟩ := h hn
  refine ⟨_, rfl, hlt, fun j u hu => ?_⟩
  obtain ⟨hj, rfl⟩ := ccells_at hu
  rw [add_plain]
  obtain ⟨i, hi⟩ : ∃ i, j = i * 4 ∨ j = i * 4 + 1 ∨ j = i * 4 + 2 ∨ j = i * 4 + 3 := ⟨j / 4, by omega⟩
  obtain ⟨c0, c1, c2, c3⟩ := hc i (by omega)
  rcases hi with rfl | rfl | rfl | rfl
  · rw [ccell_0]; exact c0
  · rw [ccell_1, ← Nat.add_assoc]; exact c1
  · rw [ccell_2, ← Nat.add_assoc]; exact c2
  · rw [ccell_3, ← Nat.add_assoc]; exact c3
theorem cons_of_own {w : World} {base : Nat} {e : TypeId} {v : Value} {n : Nat} {F T N Y : Nat → Int} (h : w.ownsRow base e 4 v n (ccells n F T N Y)) : ∃ A c, v = .slice A n c ∧ n ≤ c ∧ c ≤ maxLen ∧ Cons w A n F T N Y := by
  rcases h.2 with ⟨rfl, rfl⟩ | ⟨g, cap, cur, rfl, hg, hh, hnc, hcm, hsz, htk⟩
  · exact ⟨none, 0, rfl, by omega, by simp [maxLen], Cons.of_none⟩
  · refine ⟨_, _, rfl, hnc, hcm, fun hn => ⟨g, 0, rfl, (h.lt g rfl).2, fun i hi => ?_⟩⟩
    have hc := h.cells (g := g) rfl
    have e0 := hc (i * 4) _ (ccells_get (by omega))
    have e1 := hc (i * 4 + 1) _ (ccells_get (by omega))
    have e2 := hc (i * 4 + 2) _ (ccells_get (by omega))
    have e3 := hc (i * 4 + 3) _ (ccells_get (by omega))
    rw [add_plain] at e0 e1 e2 e3
    rw [ccell_0] at e0
    rw [ccell_1, ← Nat.add_assoc] at e1
    rw [ccell_2, ← Nat.add_assoc] at e2
    rw [ccell_3, ← Nat.add_assoc] at e3
    exact ⟨e0, e1, e2, e3⟩
theorem con_info : (Try.prog.info? 42).map (fun i => (i.zero, i.size, i.bytes)) = some (some (.agg #[.int .i64 0, .int .i64 0, .int .i64 0, .int .u8 0]), 4, 32) := by kernel_rfl
theorem con_at {W : World} {g : Nat} {f t n y : Int} (h0 : W.cell? ⟨g, 0, none⟩ = some (.int .i64 f)) (h1 : W.cell? ⟨g, 1, none⟩ = some (.int .i64 t)) (h2 : W.cell? ⟨g, 2, none⟩ = some (.int .i64 n)) (h3 : W.cell? ⟨g, 3, none⟩ = some (.int .u8 y)) :
    Reads W (g + 1) 4 (some ⟨g, 0, none⟩) 1 [.int .i64 f, .int .i64 t, .int .i64 n, .int .u8 y] := by
  refine ⟨rfl, fun _ => ⟨_, rfl, Nat.lt_succ_self _, fun j x hx => ?_⟩⟩
  rw [add_plain, Nat.zero_add]
  match j, hx with
  | 0, hx => simp at hx; subst hx; exact h0
  | 1, hx => simp at hx; subst hx; exact h1
  | 2, hx => simp at hx; subst hx; exact h2
  | 3, hx => simp at hx; subst hx; exact h3
theorem con_cells {f t n y : Int} : ∀ u ∈ [Value.int .i64 f, Value.int .i64 t, Value.int .i64 n, Value.int .u8 y], u.oneCell' = true := by
  intro u hu
  simp at hu
  rcases hu with rfl | rfl | rfl | rfl <;> rfl

theorem made_at {W : World} {base size g : Nat} {e : TypeId} (hg : g = W.heap.size) (hb : base ≤ g) : (W.alloc (.cells #[] e)).ownsRow base e size (.slice (some ⟨g, 0, none⟩) 0 0) 0 [] := by
  subst hg
  exact World.ownsRow_made W #[] 0 hb (by decide) (by simp)
theorem made_drew {W : World} {base size g : Nat} {e : TypeId} (hg : g = W.heap.size) (hb : base ≤ g) : (W.alloc (.cells #[] e)).drew.ownsRow base e size (.slice (some ⟨g, 0, none⟩) 0 0) 0 [] := made_at hg hb

/-! The plain law: turned, and one more. -/
theorem fit_turned {n nl : Nat} {F T : Nat → Int} (h : Fit n nl F T) : Fit n nl (fun i => F (nl - 1 - i)) (fun i => T (nl - 1 - i)) := fun c hc => h (nl - 1 - c) (by omega)
theorem sol_turned {n m nl : Nat} {F T : Nat → Int} {S X X' : Nat → Nat → Bool} (h : IsSol n m nl F T S X) (h' : IsSol n m nl (fun i => F (nl - 1 - i)) (fun i => T (nl - 1 - i)) S X') : ∀ k, k < n → ∀ j, j < m → X k j = X' k j := by
  intro k hk j hj
  rw [Bool.eq_iff_iff]
  refine ⟨h.mono h' (fun _ _ _ _ q => q) (fun a b hl => hl.map fun c hc => ⟨nl - 1 - c, by omega, ?_, ?_⟩) k hk j hj, h'.mono h (fun _ _ _ _ q => q) (fun a b hl => hl.map fun c hc => ⟨nl - 1 - c, by omega, rfl, rfl⟩) k hk j hj⟩
  · show F (nl - 1 - (nl - 1 - c)) = F c
    rw [show nl - 1 - (nl - 1 - c) = c from by omega]
  · show T (nl - 1 - (nl - 1 - c)) = T c
    rw [show nl - 1 - (nl - 1 - c) = c from by omega]
theorem sol_longer {n m nl : Nat} {F T : Nat → Int} {f t : Int} {S X X' : Nat → Nat → Bool} (h : IsSol n m nl F T S X) (h' : IsSol n m (nl + 1) (setAt F nl f) (setAt T nl t) S X') : ∀ k, k < n → ∀ j, j < m → X k j = true → X' k j = true :=
  h.mono h' (fun _ _ _ _ q => q) (fun a b hl => hl.map fun c hc => ⟨c, by omega, setAt_ne (by omega), setAt_ne (by omega)⟩)
theorem sol_within {n m : Nat} {L : Nat → Nat} {X X' : Nat → Nat → Bool} (hL : ∀ i, i < n → L i = m) (h6 : ∀ i, i < n → L i ≤ 600) (h : ∀ k, k < n → ∀ j, j < m → X k j = true → X' k j = true) {i : Nat} (hi : i < n) : wiB (L i) (L i) (X i) (X' i) = true := by
  rw [wiB, wiE_ok (h6 i hi)]
  simp only [beq_self_eq_true, Bool.true_and, withinB, decide_eq_true_eq]
  exact fun j hj hx => h i hi j (by rw [← hL i hi]; exact hj) hx

end Go.Proofs.Ytcdbaoejakcemaa
