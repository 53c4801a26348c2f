/- Layer 15: deeds as the reference has them: operands first. No condition. -/
import Derived.Test.YtbljhhkjjlgnmaaInB
namespace Go.Proofs.Ytbljhhkjjlgnmaa
open Go.RowKit
set_option linter.unusedVariables false
set_option linter.unusedSimpArgs false

/-- The operands of a point: how many, which. -/
def opN (F : GFun) (n : Nat) : Nat := if isAt F n = true then stNO (stAt F n) else if F.jk (pbN F n) = 2 then 1 else F.jn (pbN F n)
def opG (F : GFun) (n : Nat) : Nat → GOper := if isAt F n = true then stG (stAt F n) else if F.jk (pbN F n) = 2 then (fun _ => F.jo (pbN F n)) else F.ja (pbN F n)
/-- What a point does besides. -/
def tlD (F : GFun) (n : Nat) : List GDeed :=
  (if isAt F n = true ∧ (stAt F n).k = 1 ∧ 4 ≤ (stAt F n).r.k then [⟨(stAt F n).r.p.l, true, false, false⟩] else []) ++
  ((if tgW F n = true then [wrD (tgP F n)] else []) ++
  ((if isAt F n = true ∧ (stAt F n).k = 3 then [⟨(stAt F n).l, false, false, true⟩] else []) ++
  (if isAt F n = false ∧ F.jk (pbN F n) = 3 then [⟨0, true, false, false⟩] else [])))
theorem jk_in {F : GFun} (hO : F.Ok) {b : Nat} (hb : b < F.bn) : (F.jk b = 1 ∨ F.jk b = 2 ∨ F.jk b = 3 ∨ F.jk b = 4 ∨ F.jk b = 5) ∧ (F.jk b ≠ 4 → F.jn b = 0) := by
  have := hO.okJ hb
  simp only [GJump.ok, GFun.jump, GJump.bare, Bool.or_eq_true, Bool.and_eq_true, beq_iff_eq, List.isEmpty_iff, argL] at this
  refine ⟨by omega, fun h => ?_⟩
  have e : (List.range (F.jn b)).map (F.ja b) = [] := by
    rcases this with ((h1 | h1) | h1) | h1
    · exact h1.1.1.1.2.1.2
    · exact h1.1.1.1.2.1.2
    · exact h1.1.1.1.2.1.2
    · omega
  have := congrArg List.length e
  simpa using this
theorem ptD_split {F : GFun} (hO : F.Ok) {n : Nat} (hn : n < stN F.sn F.bn) : ptD F (pbN F n) (piN F n) = opsD (opG F n) (opN F n) ++ tlD F n := by
  have hpb := (num_pt hn).1
  by_cases hi : isAt F n = true
  · have hs := isAt_st hi
    have hlt : piN F n < F.sn (pbN F n) := of_decide_eq_true hi
    have hin := st_in hO hpb hlt
    rw [← hs] at hin
    unfold ptD tlD opN opG tgP tgW
    simp only [hi, if_pos hlt, if_true, true_and, false_and, if_false, List.append_nil]
    rw [← hs]
    generalize stAt F n = s at hin
    have hk := hin.k
    rcases hk with hk | hk | hk | hk
    · have hr := hin.r hk
      have e1 : decide (s.k = 1) = true := decide_eq_true hk
      have gs : ∀ i, stG s i = rvG s.r i := fun i => by simp [stG, hk]
      simp only [stD, rvD, stNO, rvN, hk, e1, if_true]
      rcases hr with ⟨h1, _⟩ | ⟨h1, _⟩ | h1
      · simp [h1, opsD, rvG, gs]
      · rcases h1 with h1 | h1 <;> simp [h1, opsD, rvG, gs]
      · rcases h1 with h1 | h1 <;> simp [h1, opsD]
    · simp [stD, stNO, stG, hk, opsD]
    · simp [stD, stNO, hk, opsD]
    · simp [stD, stNO, stG, hk, opsD]
  · have hi : isAt F n = false := by simpa using hi
    have hlt : ¬ piN F n < F.sn (pbN F n) := of_decide_eq_false hi
    unfold ptD tlD opN opG tgP tgW
    simp only [hi, if_neg hlt, Bool.false_eq_true, if_false, false_and, true_and, List.nil_append]
    obtain ⟨hk, h0⟩ := jk_in hO hpb
    generalize pbN F n = b at hk h0
    rcases hk with hk | hk | hk | hk | hk
    · simp [jmD, hk, h0 (by omega), opsD]
    · simp [jmD, hk, opsD]
    · simp [jmD, hk, h0 (by omega), opsD]
    · simp [jmD, hk]
    · simp [jmD, hk, h0 (by omega), opsD]
theorem opN_le {F : GFun} (hO : F.Ok) {n : Nat} (hn : n < stN F.sn F.bn) : opN F n ≤ 8 := by
  have := hO.jn8 (num_pt hn).1
  unfold opN stNO rvN
  split
  · split
    · split
      · omega
      · split <;> omega
    · split <;> omega
  · split <;> omega
theorem opG_in {F : GFun} (hO : F.Ok) {n : Nat} (hn : n < stN F.sn F.bn) : ∀ i, i < opN F n → opIn F.ln (opG F n i) := by
  have hpb := (num_pt hn).1
  unfold opN opG
  intro i hi
  split at hi
  · rename_i h
    rw [if_pos h]
    have hs := isAt_st h
    have hlt : piN F n < F.sn (pbN F n) := of_decide_eq_true h
    have hin := st_in hO hpb hlt
    rw [← hs] at hin
    generalize stAt F n = s at hin hi
    unfold stNO rvN at hi
    unfold stG rvG
    rcases hin.k with hk | hk | hk | hk
    · simp only [hk, if_true] at hi ⊢
      rcases hin.r hk with ⟨h1, h2⟩ | ⟨h1, h2, h3⟩ | h1
      · simp only [h1, if_true] at hi
        rw [if_pos (by omega)]; exact h2
      · rw [if_neg (by omega), if_pos h1] at hi
        split
        · exact h2
        · exact h3
      · rw [if_neg (by omega), if_neg (by omega)] at hi; omega
    · rw [if_neg (by omega)]; exact hin.a (.inl hk)
    · simp [hk] at hi
    · rw [if_neg (by omega)]; exact hin.a (.inr hk)
  · rename_i h
    rw [if_neg h]
    split at hi
    · rename_i h2; rw [if_pos h2]; exact condIn hO hpb h2
    · rename_i h2
      rw [if_neg h2]
      by_cases h4 : F.jk (pbN F n) = 4
      · exact argIn hO hpb h4 hi
      · have := (jk_in hO hpb).2 h4; omega

/-! Bad, one deed after the other. -/
def dRun (L : List GDeed) (S : Nat → Bool) : (Nat → Bool) × Int := L.foldl dStep (S, -1)
theorem dRun_snoc (L : List GDeed) (d : GDeed) (S : Nat → Bool) : dRun (L ++ [d]) S = dStep (dRun L S) d := by simp [dRun]
theorem bad_stay : ∀ (L : List GDeed) (x : (Nat → Bool) × Int), 0 ≤ x.2 → (L.foldl dStep x).2 = x.2
  | [], _, _ => rfl
  | d :: L, x, h => by
    have e : (dStep x d).2 = x.2 := by
      simp only [dStep]
      rw [if_neg (by simp; omega)]
    rw [List.foldl_cons, bad_stay L _ (by rw [e]; exact h), e]
theorem bad_hit {A B : List GDeed} {d : GDeed} {S : Nat → Bool} (h1 : badI A S = -1) (h2 : d.rd = true) (h3 : behS A S d.l.toNat = false) (h4 : 0 ≤ d.l) : badI (A ++ d :: B) S = d.l := by
  have e : (dStep (A.foldl dStep (S, -1)) d).2 = d.l := by
    unfold badI at h1; unfold behS at h3
    simp only [dStep, h1, h2, h3]; simp
  unfold badI
  rw [List.foldl_append, List.foldl_cons, bad_stay B _ (by rw [e]; exact h4), e]
theorem bad_go {A : List GDeed} {d : GDeed} {S : Nat → Bool} (h1 : badI A S = -1) (h2 : d.rd = false ∨ behS A S d.l.toNat = true) : badI (A ++ [d]) S = -1 := by
  unfold badI at h1; unfold behS at h2
  unfold badI
  rw [List.foldl_append, List.foldl_cons, List.foldl_nil]
  simp only [dStep]
  rw [if_neg, h1]
  rcases h2 with h2 | h2 <;> simp [h2]
theorem behS_snoc (A : List GDeed) (d : GDeed) (S : Nat → Bool) (l : Nat) : behS (A ++ [d]) S l = ((behS A S l && !(d.un && decide (l = d.l.toNat))) || (d.st && decide (l = d.l.toNat))) := by
  simp [behS, dStep]
/-- What is moved by the first k operands. -/
def mvS (g : Nat → GOper) : Nat → Nat → Bool
  | 0, _ => false
  | k + 1, l => mvS g k l || (decide ((g k).k = 3) && decide (l = (g k).p.l.toNat))
theorem behS_ops (g : Nat → GOper) (S : Nat → Bool) : ∀ k l, behS (opsD g k) S l = (S l && !mvS g k l)
  | 0, l => by simp [opsD, behS, mvS]
  | k + 1, l => by
    have ih := behS_ops g S k l
    simp only [opsD, opD, mvS]
    split
    · rename_i h
      rw [List.append_nil, ih]; simp [h]
    · rw [behS_snoc, ih]
      cases S l <;> cases mvS g k l <;> simp
theorem usL_ops (g : Nat → GOper) : ∀ k l, usL (opsD g k) l = mvS g k l
  | 0, l => rfl
  | k + 1, l => by
    rw [opsD, usL_app, usL_ops g k, mvS]
    congr 1
    unfold opD usL
    split
    · rename_i h; simp [h]
    · simp

end Go.Proofs.Ytbljhhkjjlgnmaa
