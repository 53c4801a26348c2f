/- Rows of rows of the call's own. No condition. -/
import Derived.Test.YtcdbaoejakcemaaSolveJ
namespace Go.Proofs.Ytcdbaoejakcemaa
open Go.RowKit

def setAt {α : Type} (f : Nat → α) (i : Nat) (a : α) (j : Nat) : α := if j = i then a else f j
theorem setAt_at {α : Type} {f : Nat → α} {i : Nat} {a : α} : setAt f i a i = a := if_pos rfl
theorem setAt_ne {α : Type} {f : Nat → α} {i j : Nat} {a : α} (h : j ≠ i) : setAt f i a j = f j := if_neg h
theorem map_setAt {α : Type} {n i : Nat} {f : Nat → α} {a : α} : ((List.range n).map f).set i a = (List.range n).map (setAt f i a) := by
  refine List.ext_getElem? fun j => ?_
  rw [List.getElem?_set]
  by_cases hj : j < n
  · have e : ((List.range n).map (setAt f i a))[j]? = some (setAt f i a j) := by simp only [List.getElem?_map, List.getElem?_range hj, Option.map_some]
    rw [e]
    by_cases h : i = j
    · subst h
      rw [if_pos rfl, if_pos (by simpa using hj), setAt_at]
    · rw [if_neg h, setAt_ne (fun e => h e.symm)]
      simp only [List.getElem?_map, List.getElem?_range hj, Option.map_some]
  · rw [List.getElem?_eq_none (l := (List.range n).map (setAt f i a)) (by simp; omega)]
    by_cases h : i = j
    · subst h
      rw [if_pos rfl, if_neg (by simpa using hj)]
    · rw [if_neg h, List.getElem?_eq_none (by simp; omega)]
theorem map_setAt_succ {α : Type} {n : Nat} {f : Nat → α} {a : α} : (List.range n).map f ++ [a] = (List.range (n + 1)).map (setAt f n a) := by
  rw [List.range_succ, List.map_append, List.map_singleton, setAt_at]
  congr 1
  refine List.map_congr_left fun j hj => ?_
  rw [setAt_ne (by have := List.mem_range.1 hj; omega)]

theorem own_ne {w : World} {B B' s s' n m : Nat} {E e : TypeId} {v u : Value} {xs ys : List Value} (h : w.ownsRow B E s v n xs) (h' : w.ownsRow B' e s' u m ys) (hne : E ≠ e) : v.ownBlock = none ∨ v.ownBlock ≠ u.ownBlock := by
  rcases h'.2 with ⟨rfl, _⟩ | ⟨g', cap', cur', rfl, _, hh', _⟩
  · cases hv : v.ownBlock with
    | none => exact .inl rfl
    | some k => exact .inr (by simp [Value.ownBlock])
  · exact .inr (own_blk_ne h hh' hne)
theorem own_mono {w : World} {B B' s n : Nat} {E : TypeId} {v : Value} {xs : List Value} (h : w.ownsRow B E s v n xs) (hB : B' ≤ B) : w.ownsRow B' E s v n xs := by
  refine ⟨h.1, ?_⟩
  rcases h.2 with h | ⟨g, cap, cur, h1, h2, h3⟩
  · exact .inl h
  · exact .inr ⟨g, cap, cur, h1, Nat.le_trans hB h2, h3⟩
theorem own_form {w : World} {B s n : Nat} {E : TypeId} {v : Value} {xs : List Value} (h : w.ownsRow B E s v n xs) (hn : 0 < n) : ∃ g c, v = .slice (some ⟨g, 0, none⟩) n c ∧ B ≤ g ∧ g < w.heap.size ∧ n ≤ c ∧ c ≤ maxLen := by
  rcases h.2 with ⟨_, h0⟩ | ⟨g, cap, cur, rfl, h2, h3, h4, h5, _⟩
  · omega
  · exact ⟨g, cap, rfl, h2, (h.lt g rfl).2, h4, h5⟩

/-- Rows of the call's own, told by a row of the call's own. -/
structure Own2 (w : World) (B : Nat) (E e : TypeId) (v : Value) (n : Nat) (V : Nat → Value) (len : Nat → Nat) (xs : Nat → List Value) : Prop where
  top : w.ownsRow B E 1 v n ((List.range n).map V)
  row : ∀ i, i < n → w.ownsRow B e 1 (V i) (len i) (xs i)
  inj : ∀ i j, i < n → j < n → i ≠ j → (V i).ownBlock = none ∨ (V i).ownBlock ≠ (V j).ownBlock
  ne : E ≠ e

section
variable {w w' w1 w2 : World} {B : Nat} {E e : TypeId} {v u v' : Value} {n m : Nat} {V : Nat → Value} {len : Nat → Nat} {xs : Nat → List Value} {ys : List Value}
theorem Own2.none_ (w : World) (B : Nat) (h : E ≠ e) : Own2 w B E e (.slice none 0 0) 0 V len xs := ⟨World.ownsRow_nil _ _ _ _, fun i hi => by omega, fun i j hi => by omega, h⟩
theorem Own2.kept (h : Own2 w B E e v n V len xs) {row : Option Nat} (hg : w.grownBy w' row) (h1 : v.ownBlock = none ∨ v.ownBlock ≠ row) (h2 : ∀ i, i < n → (V i).ownBlock = none ∨ (V i).ownBlock ≠ row) : Own2 w' B E e v n V len xs :=
  ⟨h.top.kept hg h1, fun i hi => (h.row i hi).kept hg (h2 i hi), h.inj, h.ne⟩
theorem grown_below (hb : Below w.heap.size w w') : w.grownBy w' none := ⟨hb.os, hb.tape, hb.output, hb.size, fun k hk _ => hb.block k hk⟩
theorem none_or (o : Option Nat) : o = none ∨ o ≠ none := by cases o <;> simp
theorem Own2.below (h : Own2 w B E e v n V len xs) (hb : Below w.heap.size w w') : Own2 w' B E e v n V len xs := h.kept (grown_below hb) (none_or _) (fun _ _ => none_or _)
theorem Own2.alloc (h : Own2 w B E e v n V len xs) (o : Obj) : Own2 (w.alloc o) B E e v n V len xs := h.below ((Below.refl _ _).alloc (Nat.le_refl _) _)
theorem Own2.drew (h : Own2 w B E e v n V len xs) : Own2 w.drew B E e v n V len xs := h.below (Below.refl _ _).drew
theorem Own2.rowne (h : Own2 w B E e v n V len xs) {i : Nat} (hi : i < n) : (V i).ownBlock = none ∨ (V i).ownBlock ≠ v.ownBlock := own_ne (h.row i hi) h.top (fun q => h.ne q.symm)
theorem Own2.topne (h : Own2 w B E e v n V len xs) {i : Nat} (hi : i < n) : v.ownBlock = none ∨ v.ownBlock ≠ (V i).ownBlock := own_ne h.top (h.row i hi) h.ne

/-- One row more. -/
theorem Own2.push (h : Own2 w B E e v n V len xs) (hg1 : w.grownBy w1 none) (hu : w1.ownsRow B e 1 u m ys) (hu2 : ∀ k, u.ownBlock = some k → w.heap.size ≤ k) (hg2 : w1.grownBy w2 v.ownBlock)
    (ht : w2.ownsRow B E 1 v' (n + 1) ((List.range n).map V ++ [u])) : Own2 w2 B E e v' (n + 1) (setAt V n u) (setAt len n m) (setAt xs n ys) := by
  have h1 := h.kept hg1 (none_or _) (fun _ _ => none_or _)
  have ur : u.ownBlock = none ∨ u.ownBlock ≠ v.ownBlock := own_ne hu h1.top (fun q => h.ne q.symm)
  have vu : ∀ i, i < n → ∀ k, (V i).ownBlock = some k → u.ownBlock ≠ some k := by
    intro i hi k hk hq
    have := ((h.row i hi).lt k hk).2
    have := hu2 k hq
    omega
  refine ⟨by rw [map_setAt_succ] at ht; exact ht, fun i hi => ?_, fun i j hi hj hij => ?_, h.ne⟩
  · by_cases e0 : i = n
    · subst e0
      rw [setAt_at, setAt_at, setAt_at]
      exact hu.kept hg2 ur
    · rw [setAt_ne e0, setAt_ne e0, setAt_ne e0]
      exact (h1.row i (by omega)).kept hg2 (h1.rowne (by omega))
  · by_cases e0 : i = n
    · subst e0
      rw [setAt_at, setAt_ne (fun q => hij q.symm)]
      cases hk : (V j).ownBlock with
      | none => cases hq : u.ownBlock <;> simp
      | some k => exact .inr (vu j (by omega) k hk)
    · rw [setAt_ne e0]
      by_cases e1 : j = n
      · subst e1
        rw [setAt_at]
        cases hk : (V i).ownBlock with
        | none => exact .inl rfl
        | some k => exact .inr (fun q => vu i (by omega) k hk q.symm)
      · rw [setAt_ne e1]
        exact h.inj i j (by omega) (by omega) hij

/-- A row turned in its block. -/
theorem Own2.turn (h : Own2 w B E e v n V len xs) {i : Nat} (hi : i < n) (hg : w.grownBy w' (V i).ownBlock) (hr : w'.ownsRow B e 1 (V i) (len i) ys) : Own2 w' B E e v n V len (setAt xs i ys) := by
  refine ⟨h.top.kept hg (h.topne hi), fun j hj => ?_, h.inj, h.ne⟩
  by_cases e0 : j = i
  · subst e0
    rw [setAt_at]
    exact hr
  · rw [setAt_ne e0]
    exact (h.row j hj).kept hg (h.inj j i hj hi e0)

/-- A row laid anew. -/
theorem Own2.put {g c : Nat} (h : Own2 w B E e (.slice (some ⟨g, 0, none⟩) n c) n V len xs) {i : Nat} (hi : i < n) (hg : w.grownBy w1 (V i).ownBlock) (hu : w1.ownsRow B e 1 u m ys)
    (hu2 : u.ownBlock = (V i).ownBlock ∨ ∀ k, u.ownBlock = some k → w.heap.size ≤ k) : Own2 (w1.setCell ⟨g, i, none⟩ u) B E e (.slice (some ⟨g, 0, none⟩) n c) n (setAt V i u) (setAt len i m) (setAt xs i ys) := by
  have ht1 := h.top.kept hg (h.topne hi)
  obtain ⟨ht2, hg2⟩ := World.ownsRow.stored ht1 i u
  have hg2' : w1.grownBy (w1.setCell ⟨g, i, none⟩ u) (Value.slice (some ⟨g, 0, none⟩) n c).ownBlock := hg2
  have vu : ∀ j, j < n → j ≠ i → ∀ k, (V j).ownBlock = some k → u.ownBlock ≠ some k := by
    intro j hj hji k hk hq
    rcases hu2 with hu2 | hu2
    · rcases h.inj j i hj hi hji with q | q
      · rw [q] at hk; cases hk
      · exact q (by rw [hk, ← hu2, hq])
    · have := ((h.row j hj).lt k hk).2
      have := hu2 k hq
      omega
  refine ⟨by rw [map_setAt] at ht2; exact ht2, fun j hj => ?_, fun j k hj hk hjk => ?_, h.ne⟩
  · by_cases e0 : j = i
    · subst e0
      rw [setAt_at, setAt_at, setAt_at]
      exact hu.kept hg2' (own_ne hu ht1 (fun q => h.ne q.symm))
    · rw [setAt_ne e0, setAt_ne e0, setAt_ne e0]
      exact ((h.row j hj).kept hg (h.inj j i hj hi e0)).kept hg2' (h.rowne hj)
  · by_cases e0 : j = i
    · subst e0
      rw [setAt_at, setAt_ne (fun q => hjk q.symm)]
      cases hq : (V k).ownBlock with
      | none => cases hq' : u.ownBlock <;> simp
      | some a => exact .inr (vu k hk (fun q => hjk q.symm) a hq)
    · rw [setAt_ne e0]
      by_cases e1 : k = i
      · subst e1
        rw [setAt_at]
        cases hq : (V j).ownBlock with
        | none => exact .inl rfl
        | some a => exact .inr (fun q => vu j hj e0 a hq q.symm)
      · rw [setAt_ne e1]
        exact h.inj j k hj hk hjk

theorem Own2.at_ (h : Own2 w B E e v n V len xs) {i : Nat} (hi : i < n) : ∃ g c, v = .slice (some ⟨g, 0, none⟩) n c ∧ w.cell? ⟨g, i, none⟩ = some (V i) ∧ w.frozen? ⟨g, i, none⟩ = false ∧ B ≤ g ∧ g < w.heap.size ∧ n ≤ c ∧ c ≤ maxLen := by
  obtain ⟨g, c, rfl, h1, h2, h3, h4⟩ := own_form h.top (by omega)
  refine ⟨g, c, rfl, ?_, World.ownsRow.frozenAt h.top i, h1, h2, h3, h4⟩
  rw [World.ownsRow.cellAt h.top i (by omega)]
  simp only [List.getElem?_map, List.getElem?_range hi, Option.map_some]
theorem Own2.congr (h : Own2 w B E e v n V len xs) {xs' : Nat → List Value} (hx : ∀ i, i < n → xs i = xs' i) : Own2 w B E e v n V len xs' :=
  ⟨h.top, fun i hi => by rw [← hx i hi]; exact h.row i hi, h.inj, h.ne⟩
end

/-- Sets of the call's own. -/
def OS (w : World) (B : Nat) (v : Value) (n : Nat) (V : Nat → Value) (L : Nat → Nat) (S : Nat → Nat → Bool) : Prop := Own2 w B 40 4 v n V L (fun i => bl (L i) (S i))

end Go.Proofs.Ytcdbaoejakcemaa
