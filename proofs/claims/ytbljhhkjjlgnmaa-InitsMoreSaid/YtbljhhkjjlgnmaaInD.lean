/- Layer 15: the first local that is read and not set, as the reference finds it. No condition. -/
import Derived.Test.YtbljhhkjjlgnmaaIrC
namespace Go.Proofs.Ytbljhhkjjlgnmaa
open Go.RowKit
set_option linter.unusedVariables false
set_option linter.unusedSimpArgs false

/-- The first of a list of which p is true. -/
def fstI (p : Int → Bool) : List Int → Int
  | [] => -1
  | x :: l => if p x = true then x else fstI p l

theorem fstI_at {p : Int → Bool} : ∀ {L : List Int} {k : Nat}, k < L.length → p (L.getD k 0) = true → (∀ j, j < k → p (L.getD j 0) = false) → fstI p L = L.getD k 0
  | [], k, h, _, _ => by simp at h
  | x :: L, 0, _, h, _ => by
    have h : p x = true := h
    simp [fstI, h]
  | x :: L, k + 1, hk, h, hj => by
    have h0 : p x = false := hj 0 (by omega)
    have := fstI_at (L := L) (k := k) (by simpa using hk) (by simpa using h) (fun j h => by simpa using hj (j + 1) (by omega))
    simp only [fstI, h0]
    simpa using this

theorem fstI_no {p : Int → Bool} : ∀ {L : List Int}, (∀ j, j < L.length → p (L.getD j 0) = false) → fstI p L = -1
  | [], _ => rfl
  | x :: L, h => by
    have h0 : p x = false := h 0 (by simp)
    have := fstI_no (L := L) (fun j hj => by simpa using h (j + 1) (by simpa using hj))
    simp [fstI, h0, this]

/-- The operands have no fault: so far. -/
def okOps (g : Nat → GOper) (S : Nat → Bool) (k : Nat) : Prop := ∀ i, i < k → (g i).k = 1 ∨ (S (g i).p.l.toNat = true ∧ mvS g i (g i).p.l.toNat = false)

theorem okOps_bad {g : Nat → GOper} {S : Nat → Bool} : ∀ {k}, okOps g S k → badI (opsD g k) S = -1
  | 0, _ => rfl
  | k + 1, h => by
    have ih := okOps_bad (g := g) (S := S) (k := k) (fun i hi => h i (by omega))
    simp only [opsD, opD]
    split
    · rw [List.append_nil]; exact ih
    · rename_i h1
      refine bad_go ih (.inr ?_)
      rw [behS_ops]
      rcases h k (by omega) with h2 | ⟨h2, h3⟩
      · exact absurd h2 h1
      · simp only [h2, h3]; rfl

theorem okOps_hit {g : Nat → GOper} {S : Nat → Bool} {k m : Nat} {T : List GDeed} (h : okOps g S k) (hk : k < m) (h1 : (g k).k ≠ 1) (h2 : S (g k).p.l.toNat = false ∨ mvS g k (g k).p.l.toNat = true) (h3 : 0 ≤ (g k).p.l) : badI (opsD g m ++ T) S = (g k).p.l := by
  have split_at : ∀ m, k < m → ∃ B, opsD g m = opsD g k ++ ⟨(g k).p.l, true, false, decide ((g k).k = 3)⟩ :: B := fun m => by
    induction m with
    | zero => intro h; omega
    | succ m ih =>
      intro hkm
      by_cases e : k = m
      · subst e
        exact ⟨[], by simp only [opsD, opD, if_neg h1]⟩
      · obtain ⟨B, hB⟩ := ih (by omega)
        exact ⟨B ++ opD (g m), by simp only [opsD, hB, List.append_assoc, List.cons_append]⟩
  obtain ⟨B, hB⟩ := split_at m hk
  rw [hB, List.append_assoc, List.cons_append]
  refine bad_hit (okOps_bad h) rfl ?_ h3
  rw [behS_ops]
  rcases h2 with h2 | h2 <;> simp [h2]

/-- A local that is read besides is not set. -/
def tlP (g : Nat → GOper) (m : Nat) (S : Nat → Bool) (x : Int) : Bool := !(S x.toNat && !mvS g m x.toNat)

theorem bad_tail {F : GFun} (hO : F.Ok) {n : Nat} (hn : n < stN F.sn F.bn) {S : Nat → Bool} (h : okOps (opG F n) S (opN F n)) : badI (ptD F (pbN F n) (piN F n)) S = fstI (tlP (opG F n) (opN F n) S) (rdT F n) := by
  rw [ptD_split hO hn]
  have hin := ptD_in hO (i := piN F n) (num_pt hn).1
  rw [ptD_split hO hn] at hin
  have hb := okOps_bad h
  have hB : ∀ l, behS (opsD (opG F n) (opN F n)) S l = (S l && !mvS (opG F n) (opN F n) l) := fun l => behS_ops _ S _ l
  generalize opsD (opG F n) (opN F n) = A at hin hb hB
  have one : ∀ (A : List GDeed) (x : Int) (T : List GDeed), badI A S = -1 → 0 ≤ x → (∀ l, behS A S l = (S l && !mvS (opG F n) (opN F n) l)) → badI (A ++ ⟨x, true, false, false⟩ :: T) S = if tlP (opG F n) (opN F n) S x = true then x else badI (A ++ [⟨x, true, false, false⟩] ++ T) S := fun A x T h1 h2 h3 => by
    split
    · rename_i g
      refine bad_hit h1 rfl ?_ h2
      rw [h3]; simpa only [tlP, Bool.not_eq_true'] using g
    · rw [List.append_assoc]; rfl
  have two : ∀ (A : List GDeed) (p : GPlace), badI A S = -1 → 0 ≤ p.l → (∀ l, behS A S l = (S l && !mvS (opG F n) (opN F n) l)) → badI (A ++ [wrD p]) S = if wholeP p = true then -1 else if tlP (opG F n) (opN F n) S p.l = true then p.l else -1 := fun A p h1 h2 h3 => by
    cases hw : wholeP p
    · have e : wrD p = ⟨p.l, true, false, false⟩ := by simp [wrD, hw]
      rw [e, one A p.l [] h1 h2 h3]
      simp only [Bool.false_eq_true, if_false, List.append_nil]
      by_cases g : tlP (opG F n) (opN F n) S p.l = true
      · rw [if_pos g, if_pos g]
      · rw [if_neg g, if_neg g]
        refine bad_go h1 (.inr ?_)
        rw [h3]; simpa [tlP] using g
    · rw [if_pos rfl]
      exact bad_go h1 (.inl (by simp [wrD, hw]))
  unfold tlD rdT at *
  cases hi : isAt F n
  · simp only [hi, Bool.false_eq_true, false_and, if_false, true_and, List.nil_append] at hin ⊢
    by_cases hk : F.jk (pbN F n) = 3
    · have hw : tgW F n = false := by simp [tgW, hi, hk]
      simp only [hw, hk, Bool.false_eq_true, false_and, if_false, if_true, List.nil_append] at hin ⊢
      rw [one A 0 [] hb (Int.le_refl _) hB]
      simp only [fstI, List.append_nil]
      split
      · rfl
      · rename_i g
        refine bad_go hb (.inr ?_)
        rw [hB]; simpa [tlP] using g
    · simp only [if_neg hk, List.append_nil] at hin ⊢
      cases hw : tgW F n
      · simp only [Bool.false_eq_true, false_and, if_false, List.append_nil, fstI]; exact hb
      · simp only [hw, if_true, true_and] at hin ⊢
        rw [two A _ hb (hin (wrD (tgP F n)) (by simp)).1 hB]
        cases hp : wholeP (tgP F n)
        · simp [fstI]
        · simp [fstI]
  · simp only [hi, true_and, Bool.true_eq_false, false_and, if_false, List.append_nil] at hin ⊢
    by_cases hk3 : (stAt F n).k = 3
    · have hw : tgW F n = false := by simp [tgW, hi, hk3]
      simp only [hw, hk3, Bool.false_eq_true, false_and, if_false, if_true, List.nil_append, List.append_nil, fstI, show ¬ ((3 : Int) = 1 ∧ 4 ≤ (stAt F n).r.k) from by omega] at hin ⊢
      exact bad_go hb (.inl rfl)
    · simp only [if_neg hk3, List.append_nil] at hin ⊢
      by_cases hk1 : (stAt F n).k = 1
      · have hw : tgW F n = true := by simp [tgW, hi, hk1]
        simp only [hw, hk1, if_true, true_and] at hin ⊢
        have hl := (hin (wrD (tgP F n)) (by simp)).1
        by_cases hr : 4 ≤ (stAt F n).r.k
        · simp only [if_pos hr, List.cons_append, List.nil_append] at hin ⊢
          have hr0 := (hin ⟨(stAt F n).r.p.l, true, false, false⟩ (by simp)).1
          rw [one A _ _ hb hr0 hB]
          simp only [fstI]
          split
          · rfl
          · rename_i g
            have hb2 : badI (A ++ [⟨(stAt F n).r.p.l, true, false, false⟩]) S = -1 := bad_go hb (.inr (by rw [hB]; simpa [tlP] using g))
            rw [two _ _ hb2 hl (fun l => by rw [behS_snoc, hB]; simp)]
            cases hp : wholeP (tgP F n)
            · simp [fstI]
            · simp [fstI]
        · simp only [if_neg hr, List.nil_append] at hin ⊢
          rw [two A _ hb hl hB]
          cases hp : wholeP (tgP F n)
          · simp [fstI]
          · simp [fstI]
      · have hw : tgW F n = false := by simp [tgW, hi, hk1]
        simp only [hw, hk1, Bool.false_eq_true, false_and, if_false, List.append_nil, fstI]
        exact hb

theorem rdT_in {F : GFun} (hO : F.Ok) {n : Nat} (hn : n < stN F.sn F.bn) : ∀ x ∈ rdT F n, 0 ≤ x ∧ x < F.ln := fun x hx => by
  have hin := ptD_in hO (i := piN F n) (num_pt hn).1
  rw [ptD_split hO hn] at hin
  unfold rdT at hx
  unfold tlD at hin
  rcases List.mem_append.1 hx with h | h
  · split at h
    · rename_i g
      rw [List.mem_singleton.1 h]
      exact hin ⟨_, true, false, false⟩ (by simp [g])
    · simp at h
  · rcases List.mem_append.1 h with h | h
    · split at h
      · rename_i g
        rw [List.mem_singleton.1 h]
        exact hin (wrD (tgP F n)) (by simp [g.1])
      · simp at h
    · split at h
      · rename_i g
        rw [List.mem_singleton.1 h]
        exact hin ⟨0, true, false, false⟩ (by simp [g])
      · simp at h

theorem rdO_in {n : Nat} {g : Nat → GOper} : ∀ m, (∀ i, i < m → opIn n (g i)) → ∀ x ∈ rdO g m, 0 ≤ x ∧ x < (n : Int)
  | 0, _, x, hx => by simp [rdO] at hx
  | m + 1, h, x, hx => by
    rcases List.mem_append.1 (show x ∈ rdO g m ++ _ from hx) with h' | h'
    · exact rdO_in m (fun i hi => h i (by omega)) x h'
    · split at h'
      · simp at h'
      · rename_i g1
        rw [List.mem_singleton.1 h']
        rcases h m (by omega) with h2 | h2
        · exact absurd h2 g1
        · exact h2.2

/-- The second half of the search: besides the operands. -/
theorem tail_hit {F : GFun} (hO : F.Ok) {n : Nat} (hn : n < stN F.sn F.bn) {S : Nat → Bool} (h : okOps (opG F n) S (opN F n)) {j : Nat} (hj : j < (rdO (opG F n) (opN F n) ++ rdT F n).length) (h1 : plN (opG F n) (opN F n) ≤ j)
    (h2 : tlP (opG F n) (opN F n) S ((rdO (opG F n) (opN F n) ++ rdT F n).getD j 0) = true) (h3 : ∀ i, i < j → i < plN (opG F n) (opN F n) ∨ tlP (opG F n) (opN F n) S ((rdO (opG F n) (opN F n) ++ rdT F n).getD i 0) = false) :
    badI (ptD F (pbN F n) (piN F n)) S = (rdO (opG F n) (opN F n) ++ rdT F n).getD j 0 := by
  rw [bad_tail hO hn h]
  have hl := rdO_len (opG F n) (opN F n)
  rw [List.length_append] at hj
  have e : ∀ i, plN (opG F n) (opN F n) ≤ i → (rdO (opG F n) (opN F n) ++ rdT F n).getD i 0 = (rdT F n).getD (i - plN (opG F n) (opN F n)) 0 := fun i hi => by
    simp only [List.getD]
    rw [List.getElem?_append_right (by omega), hl]
  rw [e j h1] at h2 ⊢
  refine fstI_at (by omega) h2 (fun i hi => ?_)
  rcases h3 (i + plN (opG F n) (opN F n)) (by omega) with g | g
  · omega
  · rw [e _ (by omega), Nat.add_sub_cancel] at g; exact g

theorem tail_no {F : GFun} (hO : F.Ok) {n : Nat} (hn : n < stN F.sn F.bn) {S : Nat → Bool} (h : okOps (opG F n) S (opN F n)) 
    (h3 : ∀ i, i < (rdO (opG F n) (opN F n) ++ rdT F n).length → i < plN (opG F n) (opN F n) ∨ tlP (opG F n) (opN F n) S ((rdO (opG F n) (opN F n) ++ rdT F n).getD i 0) = false) :
    badI (ptD F (pbN F n) (piN F n)) S = -1 := by
  rw [bad_tail hO hn h]
  have hl := rdO_len (opG F n) (opN F n)
  rw [List.length_append] at h3
  have e : ∀ i, plN (opG F n) (opN F n) ≤ i → (rdO (opG F n) (opN F n) ++ rdT F n).getD i 0 = (rdT F n).getD (i - plN (opG F n) (opN F n)) 0 := fun i hi => by
    simp only [List.getD]
    rw [List.getElem?_append_right (by omega), hl]
  refine fstI_no (fun i hi => ?_)
  rcases h3 (i + plN (opG F n) (opN F n)) (by omega) with g | g
  · omega
  · rw [e _ (by omega), Nat.add_sub_cancel] at g; exact g

end Go.Proofs.Ytbljhhkjjlgnmaa
