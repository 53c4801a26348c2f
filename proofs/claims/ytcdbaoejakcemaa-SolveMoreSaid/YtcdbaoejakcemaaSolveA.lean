/- Layer 20, the plain law: what constraints lead to, least solutions. No condition. -/
import Derived.Test.YtcdbaoejakcemaaBase
namespace Go.Proofs.Ytcdbaoejakcemaa

/-- Constraints lead from a region to another one: each from its To to its From. -/
inductive Leads (nl : Nat) (F T : Nat → Int) : Nat → Nat → Prop
  | refl (a : Nat) : Leads nl F T a a
  | step {a b : Nat} (c : Nat) (hc : c < nl) (h : Leads nl F T a b) (e : T c = (b : Int)) : Leads nl F T a (F c).toNat

theorem Leads.trans {nl : Nat} {F T : Nat → Int} {a b c : Nat} (h1 : Leads nl F T a b) (h2 : Leads nl F T b c) : Leads nl F T a c := by
  induction h2 with
  | refl => exact h1
  | step c hc _ e ih => exact .step c hc ih e
theorem Leads.one {nl : Nat} {F T : Nat → Int} {c : Nat} (hc : c < nl) (h : 0 ≤ T c) : Leads nl F T (T c).toNat (F c).toNat := .step c hc (.refl _) (by omega)
theorem Leads.none {F T : Nat → Int} {a b : Nat} (h : Leads 0 F T a b) : a = b := by
  cases h with
  | refl => rfl
  | step c hc => omega
theorem Leads.map {nl nl' : Nat} {F T F' T' : Nat → Int} (hm : ∀ c, c < nl → ∃ c', c' < nl' ∧ F' c' = F c ∧ T' c' = T c) {a b : Nat} (h : Leads nl F T a b) : Leads nl' F' T' a b := by
  induction h with
  | refl => exact .refl _
  | step c hc _ e ih =>
    obtain ⟨c', hc', e1, e2⟩ := hm c hc
    rw [← e1]
    exact .step c' hc' ih (by rw [e2]; exact e)

def Fit (n nl : Nat) (F T : Nat → Int) : Prop := ∀ c, c < nl → 0 ≤ F c ∧ F c < n ∧ 0 ≤ T c ∧ T c < n
theorem Leads.lt {n nl : Nat} {F T : Nat → Int} (hf : Fit n nl F T) {a b : Nat} (h : Leads nl F T a b) (ha : a < n) : b < n := by
  cases h with
  | refl => exact ha
  | step c hc _ _ => have := hf c hc; omega

/-- What a set has of its own, and what is led to it. -/
def IsSol (n m nl : Nat) (F T : Nat → Int) (S S' : Nat → Nat → Bool) : Prop :=
  ∀ k, k < n → ∀ j, j < m → (S' k j = true ↔ ∃ i, i < n ∧ Leads nl F T i k ∧ S i j = true)
def Closed (m nl : Nat) (F T : Nat → Int) (X : Nat → Nat → Bool) : Prop := ∀ c, c < nl → ∀ j, j < m → X (T c).toNat j = true → X (F c).toNat j = true

theorem Closed.leads {m nl : Nat} {F T : Nat → Int} {X : Nat → Nat → Bool} (hc : Closed m nl F T X) {i k j : Nat} (hj : j < m) (h : Leads nl F T i k) (hi : X i j = true) : X k j = true := by
  induction h with
  | refl => exact hi
  | step c h' _ e ih => exact hc c h' j hj (by rw [e]; simpa using ih)

theorem IsSol.mk {n m nl : Nat} {F T : Nat → Int} {S X : Nat → Nat → Bool} (h0 : ∀ k, k < n → ∀ j, j < m → S k j = true → X k j = true) (h1 : Closed m nl F T X)
    (h2 : ∀ k, k < n → ∀ j, j < m → X k j = true → ∃ i, i < n ∧ Leads nl F T i k ∧ S i j = true) : IsSol n m nl F T S X :=
  fun k hk j hj => ⟨h2 k hk j hj, fun ⟨i, hi, hl, hs⟩ => h1.leads hj hl (h0 i hi j hj hs)⟩
theorem IsSol.has {n m nl : Nat} {F T : Nat → Int} {S X : Nat → Nat → Bool} (h : IsSol n m nl F T S X) {k j : Nat} (hk : k < n) (hj : j < m) (hs : S k j = true) : X k j = true :=
  (h k hk j hj).2 ⟨k, hk, .refl _, hs⟩
theorem IsSol.closed {n m nl : Nat} {F T : Nat → Int} {S X : Nat → Nat → Bool} (h : IsSol n m nl F T S X) (hf : Fit n nl F T) : Closed m nl F T X := by
  intro c hc j hj hx
  obtain ⟨h1, h2, h3, h4⟩ := hf c hc
  obtain ⟨i, hi, hl, hs⟩ := (h _ (by omega) j hj).1 hx
  exact (h _ (by omega) j hj).2 ⟨i, hi, .step c hc hl (by omega), hs⟩
theorem IsSol.least {n m nl : Nat} {F T : Nat → Int} {S X Y : Nat → Nat → Bool} (h : IsSol n m nl F T S X) (h0 : ∀ k, k < n → ∀ j, j < m → S k j = true → Y k j = true) (h1 : Closed m nl F T Y)
    {k j : Nat} (hk : k < n) (hj : j < m) (hx : X k j = true) : Y k j = true := by
  obtain ⟨i, hi, hl, hs⟩ := (h k hk j hj).1 hx
  exact h1.leads hj hl (h0 i hi j hj hs)
theorem IsSol.same {n m nl : Nat} {F T : Nat → Int} {S X Y : Nat → Nat → Bool} (h : IsSol n m nl F T S X) (h' : IsSol n m nl F T S Y) : ∀ k, k < n → ∀ j, j < m → X k j = Y k j := by
  intro k hk j hj
  rw [Bool.eq_iff_iff, h k hk j hj, h' k hk j hj]
theorem IsSol.again {n m nl : Nat} {F T : Nat → Int} {S X Y : Nat → Nat → Bool} (hf : Fit n nl F T) (h : IsSol n m nl F T S X) (h' : IsSol n m nl F T X Y) : ∀ k, k < n → ∀ j, j < m → Y k j = X k j := by
  intro k hk j hj
  rw [Bool.eq_iff_iff]
  exact ⟨fun hy => h'.least (fun _ _ _ _ q => q) (h.closed hf) hk hj hy, fun hx => h'.has hk hj hx⟩
theorem IsSol.bare {n m : Nat} {F T : Nat → Int} {S X : Nat → Nat → Bool} (h : IsSol n m 0 F T S X) : ∀ k, k < n → ∀ j, j < m → X k j = S k j := by
  intro k hk j hj
  rw [Bool.eq_iff_iff, h k hk j hj]
  exact ⟨fun ⟨i, _, hl, hs⟩ => by rw [← hl.none]; exact hs, fun hs => ⟨k, hk, .refl _, hs⟩⟩
theorem IsSol.mono {n m nl nl' : Nat} {F T F' T' : Nat → Int} {S S' X X' : Nat → Nat → Bool} (h : IsSol n m nl F T S X) (h' : IsSol n m nl' F' T' S' X') (hs : ∀ k, k < n → ∀ j, j < m → S k j = true → S' k j = true)
    (hl : ∀ a b, Leads nl F T a b → Leads nl' F' T' a b) : ∀ k, k < n → ∀ j, j < m → X k j = true → X' k j = true := by
  intro k hk j hj hx
  obtain ⟨i, hi, h1, h2⟩ := (h k hk j hj).1 hx
  exact (h' k hk j hj).2 ⟨i, hi, hl _ _ h1, hs i hi j hj h2⟩
theorem IsSol.congr {n m nl : Nat} {F T : Nat → Int} {S S' X : Nat → Nat → Bool} (h : IsSol n m nl F T S X) (he : ∀ k, k < n → ∀ j, j < m → S k j = S' k j) : IsSol n m nl F T S' X := by
  intro k hk j hj
  rw [h k hk j hj]
  exact ⟨fun ⟨i, hi, h1, h2⟩ => ⟨i, hi, h1, by rw [← he i hi j hj]; exact h2⟩, fun ⟨i, hi, h1, h2⟩ => ⟨i, hi, h1, by rw [he i hi j hj]; exact h2⟩⟩

/-! The error of bases and constraints. -/
def muchB (n nl : Nat) (L : Nat → Nat) : Bool := decide (592 < n) || decide (1152 < nl) || decide (∃ i, i < n ∧ 600 < L i)
def fitB (n nl : Nat) (L : Nat → Nat) (F T : Nat → Int) : Bool := decide (∀ i, i < n → L i = L 0) && decide (∀ c, c < nl → 0 ≤ F c ∧ F c < n ∧ 0 ≤ T c ∧ T c < n)
def askV (n nl : Nat) (L : Nat → Nat) (F T : Nat → Int) : Int := if muchB n nl L = true then 4 else if fitB n nl L F T = true then 0 else 2
theorem ask_zero {n nl : Nat} {L : Nat → Nat} {F T : Nat → Int} (h : askV n nl L F T = 0) : n ≤ 592 ∧ nl ≤ 1152 ∧ (∀ i, i < n → L i ≤ 600) ∧ (∀ i, i < n → L i = L 0) ∧ Fit n nl F T := by
  unfold askV at h
  split at h
  · cases h
  · split at h
    · rename_i h1 h2
      simp only [muchB, Bool.or_eq_true, decide_eq_true_eq, not_or, not_exists, not_and] at h1
      simp only [fitB, Bool.and_eq_true, decide_eq_true_eq] at h2
      exact ⟨by omega, by omega, fun i hi => by have := h1.2 i hi; omega, h2.1, h2.2⟩
    · cases h
theorem ask_much {n nl : Nat} {L : Nat → Nat} {F T : Nat → Int} (h : 592 < n ∨ 1152 < nl ∨ ∃ i, i < n ∧ 600 < L i) : askV n nl L F T = 4 := by
  rw [askV, if_pos]
  simp only [muchB, Bool.or_eq_true, decide_eq_true_eq]
  rcases h with h | h | h
  · exact .inl (.inl h)
  · exact .inl (.inr h)
  · exact .inr h
theorem ask_bad {n nl : Nat} {L : Nat → Nat} {F T : Nat → Int} (h1 : n ≤ 592) (h2 : nl ≤ 1152) (h3 : ∀ i, i < n → L i ≤ 600) (h : (∃ i, i < n ∧ L i ≠ L 0) ∨ ∃ c, c < nl ∧ ¬ (0 ≤ F c ∧ F c < n ∧ 0 ≤ T c ∧ T c < n)) : askV n nl L F T = 2 := by
  rw [askV, if_neg, if_neg]
  · simp only [fitB, Bool.and_eq_true, decide_eq_true_eq, not_and]
    rintro h4 h5
    rcases h with ⟨i, hi, h⟩ | ⟨c, hc, h⟩
    · exact h (h4 i hi)
    · exact h (h5 c hc)
  · simp only [muchB, Bool.or_eq_true, decide_eq_true_eq, not_or]
    exact ⟨⟨by omega, by omega⟩, fun ⟨i, hi, h⟩ => by have := h3 i hi; omega⟩
theorem ask_ok {n nl : Nat} {L : Nat → Nat} {F T : Nat → Int} (h1 : n ≤ 592) (h2 : nl ≤ 1152) (h3 : ∀ i, i < n → L i ≤ 600) (h4 : ∀ i, i < n → L i = L 0) (h5 : Fit n nl F T) : askV n nl L F T = 0 := by
  rw [askV, if_neg, if_pos]
  · simp only [fitB, Bool.and_eq_true, decide_eq_true_eq]
    exact ⟨h4, h5⟩
  · simp only [muchB, Bool.or_eq_true, decide_eq_true_eq, not_or]
    exact ⟨⟨by omega, by omega⟩, fun ⟨i, hi, h⟩ => by have := h3 i hi; omega⟩

/-! Sets of points. -/
def withinB (n : Nat) (X Y : Nat → Bool) : Bool := decide (∀ j, j < n → X j = true → Y j = true)
def sameB (n m : Nat) (X Y : Nat → Bool) : Bool := decide (n = m) && decide (∀ j, j < n → X j = Y j)
def sameAllB (n m : Nat) (L L' : Nat → Nat) (S S' : Nat → Nat → Bool) : Bool := decide (n = m) && decide (∀ i, i < n → sameB (L i) (L' i) (S i) (S' i) = true)
theorem sameB_ok {n m : Nat} {X Y : Nat → Bool} (h : n = m) (h' : ∀ j, j < n → X j = Y j) : sameB n m X Y = true := by simp [sameB, h]; subst h; exact h'
theorem sameAllB_ok {n m : Nat} {L L' : Nat → Nat} {S S' : Nat → Nat → Bool} (h : n = m) (h1 : ∀ i, i < n → L i = L' i) (h2 : ∀ i, i < n → ∀ j, j < L i → S i j = S' i j) : sameAllB n m L L' S S' = true := by
  simp only [sameAllB, Bool.and_eq_true, decide_eq_true_eq]
  exact ⟨h, fun i hi => sameB_ok (h1 i hi) (h2 i hi)⟩
def rightB (n nl ns : Nat) (L Ls : Nat → Nat) (F T : Nat → Int) (S Z : Nat → Nat → Bool) : Bool :=
  decide (ns = n) && decide (∀ i, i < n → Ls i = L i ∧ withinB (L i) (S i) (Z i) = true) && decide (∀ c, c < nl → withinB (Ls (T c).toNat) (Z (T c).toNat) (Z (F c).toNat) = true)
theorem rightB_ok {n nl ns : Nat} {L Ls : Nat → Nat} {F T : Nat → Int} {S Z : Nat → Nat → Bool} (h : rightB n nl ns L Ls F T S Z = true) (hf : Fit n nl F T) (hL : ∀ i, i < n → L i = L 0) :
    ns = n ∧ (∀ i, i < n → Ls i = L 0) ∧ (∀ k, k < n → ∀ j, j < L 0 → S k j = true → Z k j = true) ∧ Closed (L 0) nl F T Z := by
  simp only [rightB, withinB, Bool.and_eq_true, decide_eq_true_eq] at h
  obtain ⟨⟨h1, h2⟩, h3⟩ := h
  refine ⟨h1, fun i hi => by rw [(h2 i hi).1, hL i hi], fun k hk j hj => (h2 k hk).2 j (by rw [hL k hk]; exact hj), fun c hc j hj => ?_⟩
  have := hf c hc
  exact h3 c hc j (by rw [(h2 _ (by omega)).1, hL _ (by omega)]; exact hj)
theorem rightB_mk {n nl ns : Nat} {L Ls : Nat → Nat} {F T : Nat → Int} {S Z : Nat → Nat → Bool} (h1 : ns = n) (h2 : ∀ i, i < n → Ls i = L i) (h3 : ∀ k, k < n → ∀ j, j < L 0 → S k j = true → Z k j = true) (h4 : Closed (L 0) nl F T Z) (hf : Fit n nl F T) (hL : ∀ i, i < n → L i = L 0) :
    rightB n nl ns L Ls F T S Z = true := by
  simp only [rightB, withinB, Bool.and_eq_true, decide_eq_true_eq]
  refine ⟨⟨h1, fun i hi => ⟨h2 i hi, fun j hj => h3 i hi j (by rw [← hL i hi]; exact hj)⟩⟩, fun c hc j hj => h4 c hc j ?_⟩
  have := hf c hc
  rw [h2 _ (by omega), hL _ (by omega)] at hj
  exact hj

/-- How many of the first n. -/
def cnt (X : Nat → Bool) : Nat → Nat
  | 0 => 0
  | n + 1 => cnt X n + if X n = true then 1 else 0
theorem cnt_le (X : Nat → Bool) (n : Nat) : cnt X n ≤ n := by
  induction n with
  | zero => exact Nat.le_refl _
  | succ n ih => rw [cnt]; split <;> omega
theorem cnt_mono {X Y : Nat → Bool} {n : Nat} (h : ∀ j, j < n → X j = true → Y j = true) : cnt X n ≤ cnt Y n := by
  induction n with
  | zero => exact Nat.le_refl _
  | succ n ih =>
    have := ih fun j hj => h j (by omega)
    have h' := h n (by omega)
    rw [cnt, cnt]
    by_cases hx : X n = true
    · rw [if_pos hx, if_pos (h' hx)]; omega
    · rw [if_neg hx]; omega
theorem cnt_within {X Y : Nat → Bool} {n : Nat} : (cnt (fun j => X j && Y j) n = cnt X n) ↔ ∀ j, j < n → X j = true → Y j = true := by
  induction n with
  | zero => simp [cnt]
  | succ n ih =>
    have hm : cnt (fun j => X j && Y j) n ≤ cnt X n := cnt_mono fun j _ h => by simp at h; exact h.1
    rw [cnt, cnt]
    constructor
    · intro h j hj hx
      by_cases hxn : X n = true
      · cases hy : Y n with
        | true =>
          have : cnt (fun j => X j && Y j) n = cnt X n := by simp [hxn, hy] at h; exact h
          rcases Nat.lt_or_eq_of_le (Nat.le_of_lt_succ hj) with h' | rfl
          · exact ih.1 this j h' hx
          · exact hy
        | false => simp [hxn, hy] at h; omega
      · have : cnt (fun j => X j && Y j) n = cnt X n := by simp [hxn] at h; exact h
        rcases Nat.lt_or_eq_of_le (Nat.le_of_lt_succ hj) with h' | rfl
        · exact ih.1 this j h' hx
        · exact absurd hx hxn
    · intro h
      rw [ih.2 fun j hj => h j (by omega)]
      by_cases hxn : X n = true
      · simp [hxn, h n (by omega) hxn]
      · simp [hxn]
theorem cnt_set {X Y : Nat → Bool} {n i : Nat} (hi : i < n) (h : X i = false) (h' : Y i = true) (ho : ∀ j, j ≠ i → Y j = X j) : cnt Y n = cnt X n + 1 := by
  induction n with
  | zero => omega
  | succ n ih =>
    rw [cnt, cnt]
    by_cases e : i = n
    · subst e
      have : cnt Y i = cnt X i := by
        apply Nat.le_antisymm
        · exact cnt_mono fun j hj hy => by rw [← ho j (by omega)]; exact hy
        · exact cnt_mono fun j hj hx => by rw [ho j (by omega)]; exact hx
      rw [this, h, h']; simp
    · rw [ih (by omega), ho n (by omega)]; omega

end Go.Proofs.Ytcdbaoejakcemaa
