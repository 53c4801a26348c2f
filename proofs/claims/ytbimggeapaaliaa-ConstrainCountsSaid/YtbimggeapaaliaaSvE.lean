/- Layer 19: what the constraints of a function are like. No condition. -/
import Derived.Test.YtbimggeapaaliaaSvC
namespace Go.Proofs.Ytbimggeapaaliaa
open Go.RowKit
set_option linter.unusedVariables false
set_option linter.unusedSimpArgs false

theorem isAt_iff {F : GFun} {n : Nat} : isAt F n = true ↔ piN F n < F.sn (pbN F n) := by simp [isAt]
/-- The constraints of the point n. -/
def conN (F : GFun) (n : Nat) : List KCon := if isAt F n = true ∧ (stAt F n).k = 1 then ofL F.lk (stAt F n) (.ofNat n) (.ofNat (F.ln + (loanPts F n).length)) else []
def conTo (F : GFun) : Nat → List KCon
  | 0 => []
  | n + 1 => conTo F n ++ conN F n
theorem loN_len (F : GFun) : ∀ n, loN F.ln F.s F.sn (pbN F) (piN F) n = F.ln + (loanPts F n).length
  | 0 => rfl
  | n + 1 => by
    simp only [loN, loanPts, loN_len F n, List.length_append, isAt_iff]
    by_cases h : piN F n < F.sn (pbN F n)
    · simp only [stAt, if_pos h]
      by_cases h' : (F.s (pbN F n) (piN F n)).k = 1 ∧ (F.s (pbN F n) (piN F n)).r.k = 4
      · rw [if_pos ⟨h, h'⟩, if_pos ⟨h, h'⟩]; simp; omega
      · rw [if_neg (fun g => h' g.2), if_neg (fun g => h' g.2)]; simp
    · rw [if_neg (fun g => h g.1), if_neg (fun g => h g.1)]; simp
theorem conL_to (F : GFun) : ∀ n, conL F.lk F.ln F.s F.sn (pbN F) (piN F) n = conTo F n
  | 0 => rfl
  | n + 1 => by
    simp only [conL, conTo, conL_to F n, loN_len, conN, isAt_iff]
    congr 1
    by_cases h : piN F n < F.sn (pbN F n)
    · simp only [stAt, if_pos h]
    · rw [if_neg (fun g => h g.1), if_neg (fun g => h g.1)]
theorem allCon_to (F : GFun) : allCon F = conTo F (stN F.sn F.bn) := conL_to F _
theorem conN_len (F : GFun) (n : Nat) : (conN F n).length ≤ 2 := by
  unfold conN
  split
  · exact ofL_len _ _ _ _
  · simp
theorem conTo_len (F : GFun) : ∀ n, (conTo F n).length ≤ 2 * n
  | 0 => Nat.le_refl _
  | n + 1 => by have := conTo_len F n; have := conN_len F n; simp only [conTo, List.length_append]; omega
/-- Only points with a statement have constraints: two each block's end has none. -/
theorem whole_mk {p : GPlace} (h : p.whole = true) : p.d = false ∧ p.f = 0 := by
  simpa [GPlace.whole] using h
/-- The reason of a constraint of the point n. -/
structure ConOk (F : GFun) (n : Nat) (c : KCon) : Prop where
  at_ : c.at_ = .ofNat n
  is : isAt F n = true
  k : (stAt F n).k = 1
  to : (stAt F n).p.l = c.to
  d : (stAt F n).p.d = false
  f : (stAt F n).p.f = 0
  why : (c.why = 2 ∧ c.fr = .ofNat (F.ln + (loanPts F n).length) ∧ (stAt F n).r.k = 4) ∨
    (c.why = 3 ∧ (stAt F n).r.k = 4 ∧ (stAt F n).r.p.d = true ∧ (stAt F n).r.p.l = c.fr ∧ isRefK (F.lk c.fr.toNat) = true) ∨
    (c.why = 1 ∧ (stAt F n).r.k = 1 ∧ (stAt F n).r.a.k ≠ 1 ∧ (stAt F n).r.a.p.l = c.fr ∧ (stAt F n).r.a.p.d = false ∧ (stAt F n).r.a.p.f = 0 ∧ isRefK (F.lk c.fr.toNat) = true ∧ isRefK (F.lk c.to.toNat) = true)
theorem conN_ok {F : GFun} {n : Nat} : ∀ c ∈ conN F n, ConOk F n c := fun c hc => by
  unfold conN at hc
  split at hc
  · rename_i h
    unfold ofL at hc
    split at hc
    · rename_i hw
      have hw := whole_mk hw
      split at hc
      · rename_i hr
        simp only [beq_iff_eq] at hr
        simp only [List.mem_cons] at hc
        rcases hc with rfl | hc
        · exact ⟨rfl, h.1, h.2, rfl, hw.1, hw.2, .inl ⟨rfl, rfl, hr⟩⟩
        · split at hc
          · rename_i g
            simp only [Bool.and_eq_true] at g
            simp only [List.mem_cons, List.not_mem_nil, or_false] at hc
            subst hc
            exact ⟨rfl, h.1, h.2, rfl, hw.1, hw.2, .inr (.inl ⟨rfl, hr, g.1, rfl, g.2⟩)⟩
          · simp at hc
      · split at hc
        · rename_i g
          simp only [Bool.and_eq_true, beq_iff_eq, bne_iff_ne, ne_eq] at g
          simp only [List.mem_cons, List.not_mem_nil, or_false] at hc
          subst hc
          have ha := whole_mk g.1.1.2
          exact ⟨rfl, h.1, h.2, rfl, hw.1, hw.2, .inr (.inr ⟨rfl, g.1.1.1.1, g.1.1.1.2, rfl, ha.1, ha.2, g.1.2, g.2⟩)⟩
        · simp at hc
    · simp at hc
  · simp at hc
/-- A constraint for what lies behind a reference stands behind that for the loan. -/
theorem conN_past {F : GFun} {n : Nat} {j : Nat} (hj : j < (conN F n).length) (h3 : ((conN F n).getD j .zero).why = 3) : j = 1 ∧ ((conN F n).getD 0 .zero).why = 2 := by
  unfold conN at hj h3 ⊢
  split at hj
  · rename_i h
    rw [if_pos h] at h3 ⊢
    unfold ofL at hj h3 ⊢
    split at hj
    · rename_i hw
      rw [if_pos hw] at h3 ⊢
      split at hj
      · rename_i hr
        rw [if_pos hr] at h3 ⊢
        split at hj
        · rename_i g
          rw [if_pos g] at h3 ⊢
          simp only [List.length_cons, List.length_nil] at hj
          have : j = 0 ∨ j = 1 := by omega
          rcases this with rfl | rfl
          · simp at h3
          · exact ⟨rfl, rfl⟩
        · rename_i g
          rw [if_neg g] at h3 ⊢
          simp only [List.length_cons, List.length_nil] at hj
          have : j = 0 := by omega
          subst this
          simp at h3
      · rename_i hr
        rw [if_neg hr] at h3 ⊢
        split at hj
        · rename_i g
          rw [if_pos g] at h3 ⊢
          simp only [List.length_cons, List.length_nil] at hj
          have : j = 0 := by omega
          subst this
          simp at h3
        · simp at hj
    · simp at hj
  · simp at hj
/-- How the constraints of the first points stand. -/
structure ConAt (F : GFun) (n : Nat) (L : List KCon) (i : Nat) (a : Nat) : Prop where
  lt : a < n
  ok : ConOk F a (L.getD i .zero)
  up : 0 < i → (L.getD (i - 1) .zero).at_ ≤ .ofNat a
  past : (L.getD i .zero).why = 3 → 0 < i ∧ (L.getD (i - 1) .zero).at_ = .ofNat a ∧ (L.getD (i - 1) .zero).why = 2
theorem getD_app {α : Type} (l m : List α) (d : α) {j : Nat} (h : j < l.length) : (l ++ m).getD j d = l.getD j d := by
  simp [List.getD, List.getElem?_append_left h]
theorem getD_app2 {α : Type} (l m : List α) (d : α) (j : Nat) : (l ++ m).getD (l.length + j) d = m.getD j d := by
  simp [List.getD, List.getElem?_append_right]
theorem getD_mem {α : Type} {l : List α} {d : α} {j : Nat} (h : j < l.length) : l.getD j d ∈ l := by
  simp only [List.getD, List.getElem?_eq_getElem h, Option.getD_some]
  exact List.getElem_mem h
theorem conTo_at {F : GFun} : ∀ {n i : Nat}, i < (conTo F n).length → ∃ a, ConAt F n (conTo F n) i a
  | 0, i, h => by simp [conTo] at h
  | n + 1, i, h => by
    simp only [conTo]
    by_cases g : i < (conTo F n).length
    · obtain ⟨a, h1, h2, h3, h4⟩ := conTo_at g
      refine ⟨a, by omega, ?_, fun hi => ?_, fun hw => ?_⟩
      · rw [getD_app _ _ _ g]; exact h2
      · rw [getD_app _ _ _ (by omega)]; exact h3 hi
      · rw [getD_app _ _ _ g] at hw
        rw [getD_app _ _ _ (by omega)]; exact h4 hw
    · obtain ⟨j, rfl⟩ : ∃ j, i = (conTo F n).length + j := ⟨i - (conTo F n).length, by omega⟩
      simp only [conTo, List.length_append] at h
      have hj : j < (conN F n).length := by omega
      refine ⟨n, by omega, ?_, fun hi => ?_, fun hw => ?_⟩
      · rw [getD_app2]; exact conN_ok _ (getD_mem hj)
      · cases j with
        | zero =>
          simp only [Nat.add_zero] at hi ⊢
          rw [getD_app _ _ _ (by omega)]
          obtain ⟨a, h1, h2, _, _⟩ := conTo_at (F := F) (n := n) (i := (conTo F n).length - 1) (by omega)
          rw [h2.at_]
          simp only [Int.ofNat_eq_natCast]; omega
        | succ j =>
          rw [show (conTo F n).length + (j + 1) - 1 = (conTo F n).length + j by omega, getD_app2]
          rw [(conN_ok _ (getD_mem (show j < (conN F n).length by omega))).at_]
          exact Int.le_refl _
      · rw [getD_app2] at hw
        obtain ⟨rfl, h2⟩ := conN_past hj hw
        refine ⟨by omega, ?_, ?_⟩
        · rw [show (conTo F n).length + 1 - 1 = (conTo F n).length + 0 by omega, getD_app2]
          exact (conN_ok _ (getD_mem (show 0 < (conN F n).length by omega))).at_
        · rw [show (conTo F n).length + 1 - 1 = (conTo F n).length + 0 by omega, getD_app2]; exact h2
/-- The loan of a point stands at its place among the points of loans. -/
theorem loanPts_at {F : GFun} {a : Nat} (h1 : isAt F a = true) (h2 : (stAt F a).k = 1) (h3 : (stAt F a).r.k = 4) : ∀ n, a < n → (loanPts F a).length < (loanPts F n).length ∧ (loanPts F n).getD (loanPts F a).length 0 = a
  | 0, h => by omega
  | n + 1, h => by
    rcases Nat.lt_or_eq_of_le (Nat.le_of_lt_succ h) with g | rfl
    · obtain ⟨e1, e2⟩ := loanPts_at h1 h2 h3 n g
      simp only [loanPts, List.length_append]
      exact ⟨by omega, by rw [getD_app _ _ _ e1]; exact e2⟩
    · simp only [loanPts]
      rw [if_pos ⟨h1, h2, h3⟩]
      refine ⟨by simp, ?_⟩
      simp

/-- Block and index of a point are what they are. -/
theorem stN_le_of {sn : Nat → Nat} {a b : Nat} (h : a ≤ b) : stN sn a ≤ stN sn b := by
  rcases Nat.lt_or_eq_of_le h with h | rfl
  · exact Nat.le_of_lt (stN_mono sn h)
  · exact Nat.le_refl _
theorem stN_inj {sn : Nat → Nat} {a b i j : Nat} (hi : i ≤ sn a) (hj : j ≤ sn b) (h : stN sn a + i = stN sn b + j) : a = b ∧ i = j := by
  have e : a = b := by
    rcases Nat.lt_trichotomy a b with g | g | g
    · have := stN_le_of (sn := sn) (show a + 1 ≤ b from g); simp only [stN] at this; omega
    · exact g
    · have := stN_le_of (sn := sn) (show b + 1 ≤ a from g); simp only [stN] at this; omega
  subst e
  exact ⟨rfl, by omega⟩
theorem stN_lt {sn : Nat → Nat} {b bn i : Nat} (hb : b < bn) (hi : i ≤ sn b) : stN sn b + i < stN sn bn := by
  have := stN_le_of (sn := sn) (show b + 1 ≤ bn from hb)
  simp only [stN] at this; omega
theorem at_num {F : GFun} {b i : Nat} (hb : b < F.bn) (hi : i ≤ F.sn b) : pbN F (stN F.sn b + i) = b ∧ piN F (stN F.sn b + i) = i := by
  obtain ⟨h1, h2, h3⟩ := num_pt (stN_lt hb hi)
  obtain ⟨e1, e2⟩ := stN_inj h2 hi h3.symm
  exact ⟨e1, e2⟩
/-- How many of the first points have a statement. -/
def cntIs (F : GFun) : Nat → Nat
  | 0 => 0
  | n + 1 => cntIs F n + if isAt F n = true then 1 else 0
theorem cntIs_blk {F : GFun} {b : Nat} (hb : b < F.bn) : ∀ i, i ≤ F.sn b → cntIs F (stN F.sn b + i) = cntIs F (stN F.sn b) + i
  | 0, _ => rfl
  | i + 1, h => by
    have e := at_num hb (show i ≤ F.sn b by omega)
    have hi : isAt F (stN F.sn b + i) = true := isAt_iff.2 (by rw [e.1, e.2]; omega)
    rw [← Nat.add_assoc]
    simp only [cntIs, if_pos hi]
    rw [cntIs_blk hb i (by omega)]; omega
theorem cntIs_st {F : GFun} : ∀ b, b ≤ F.bn → cntIs F (stN F.sn b) + b = stN F.sn b
  | 0, _ => rfl
  | b + 1, h => by
    have ih := cntIs_st (F := F) b (by omega)
    have e := at_num (F := F) (b := b) (by omega) (Nat.le_refl _)
    have hi : ¬ isAt F (stN F.sn b + F.sn b) = true := fun h => by
      have := isAt_iff.1 h
      rw [e.1, e.2] at this; omega
    simp only [stN, cntIs, if_neg hi]
    rw [cntIs_blk (by omega) _ (Nat.le_refl _)]; omega
theorem conTo_len2 (F : GFun) : ∀ n, (conTo F n).length ≤ 2 * cntIs F n
  | 0 => Nat.le_refl _
  | n + 1 => by
    have := conTo_len2 F n
    have h2 := conN_len F n
    simp only [conTo, List.length_append, cntIs]
    by_cases h : isAt F n = true
    · rw [if_pos h]; omega
    · rw [if_neg h]
      have : conN F n = [] := by unfold conN; rw [if_neg (fun g => h g.1)]
      rw [this]; simpa using by assumption
theorem stN_25 {sn : Nat → Nat} {n : Nat} (hs : ∀ b, b < n → sn b ≤ 24) : ∀ b, b ≤ n → stN sn b ≤ b * 25
  | 0, _ => Nat.le_refl _
  | b + 1, h => by have := stN_25 hs b (by omega); have := hs b (by omega); simp only [stN]; omega
theorem GFun.Ok.pts {F : GFun} (h : F.Ok) : stN F.sn F.bn ≤ 600 := by
  have := stN_25 (sn := F.sn) (fun b hb => h.sn24 hb) F.bn (Nat.le_refl _)
  have := h.bn24; omega
theorem GFun.Ok.cons {F : GFun} (h : F.Ok) : (allCon F).length ≤ 1152 := by
  rw [allCon_to]
  have h1 := conTo_len2 F (stN F.sn F.bn)
  have h2 := cntIs_st (F := F) F.bn (Nat.le_refl _)
  have h3 := stN_25 (sn := F.sn) (fun b hb => h.sn24 hb) F.bn (Nat.le_refl _)
  have := h.bn24; omega
/-- The statement of a point, found. -/
theorem stAt_is {F : GFun} {n : Nat} (hn : n < stN F.sn F.bn) (h : isAt F n = true) : pbN F n < F.bn ∧ piN F n < F.sn (pbN F n) ∧ stAt F n = F.s (pbN F n) (piN F n) := by
  have := isAt_iff.1 h
  exact ⟨(num_pt hn).1, this, by unfold stAt; rw [if_pos this]⟩
theorem GFun.Ok.nearAt {F : GFun} (h : F.Ok) {n : Nat} (hn : n < stN F.sn F.bn) (hi : isAt F n = true) (hk : (stAt F n).k = 1) : (0 ≤ (stAt F n).p.l ∧ (stAt F n).p.l < F.ln) ∧ (0 ≤ (stAt F n).r.p.l ∧ (stAt F n).r.p.l < F.ln) ∧ (0 ≤ (stAt F n).r.a.p.l ∧ (stAt F n).r.a.p.l < F.ln) := by
  obtain ⟨h1, h2, h3⟩ := stAt_is hn hi
  rw [h3] at hk ⊢
  exact h.nearS _ _ h1 h2 hk

end Go.Proofs.Ytbimggeapaaliaa
