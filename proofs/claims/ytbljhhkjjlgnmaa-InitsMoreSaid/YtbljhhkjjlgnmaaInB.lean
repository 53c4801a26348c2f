/- Layer 15: what deeds do to a set of locals. No condition. -/
import Derived.Test.YtbljhhkjjlgnmaaIdA
import Derived.Test.YtbljhhkjjlgnmaaInA
namespace Go.Proofs.Ytbljhhkjjlgnmaa
open Go.RowKit
set_option linter.unusedVariables false
set_option linter.unusedSimpArgs false

def dStep (x : (Nat → Bool) × Int) (d : GDeed) : (Nat → Bool) × Int :=
  (fun l => (x.1 l && !(d.un && decide (l = d.l.toNat))) || (d.st && decide (l = d.l.toNat)), if (d.rd && !x.1 d.l.toNat && decide (x.2 < 0)) = true then d.l else x.2)
def behS (L : List GDeed) (S : Nat → Bool) : Nat → Bool := (L.foldl dStep (S, -1)).1
def badI (L : List GDeed) (S : Nat → Bool) : Int := (L.foldl dStep (S, -1)).2
def gsL (L : List GDeed) (l : Nat) : Bool := L.any fun d => d.st && decide (l = d.l.toNat)
def usL (L : List GDeed) (l : Nat) : Bool := L.any fun d => d.un && decide (l = d.l.toNat)
theorem gsL_app (A B : List GDeed) (l : Nat) : gsL (A ++ B) l = (gsL A l || gsL B l) := by simp [gsL]
theorem usL_app (A B : List GDeed) (l : Nat) : usL (A ++ B) l = (usL A l || usL B l) := by simp [usL]
theorem beh_un (l : Nat) : ∀ (A : List GDeed) (x : (Nat → Bool) × Int), (∀ d ∈ A, d.st = false) → (A.foldl dStep x).1 l = (x.1 l && !usL A l)
  | [], x, _ => by simp [usL]
  | d :: A, x, h => by
    rw [List.foldl_cons, beh_un l A _ (fun e he => h e (List.mem_cons_of_mem _ he))]
    simp only [dStep, h d List.mem_cons_self, usL, List.any_cons, Bool.false_and, Bool.or_false, Bool.not_or, Bool.and_assoc]
theorem beh_st (l : Nat) : ∀ (A : List GDeed) (x : (Nat → Bool) × Int), (∀ d ∈ A, d.un = false) → (A.foldl dStep x).1 l = (x.1 l || gsL A l)
  | [], x, _ => by simp [gsL]
  | d :: A, x, h => by
    rw [List.foldl_cons, beh_st l A _ (fun e he => h e (List.mem_cons_of_mem _ he))]
    simp only [dStep, h d List.mem_cons_self, gsL, List.any_cons, Bool.false_and, Bool.not_false, Bool.and_true, Bool.or_assoc]
/-- What sets stands last. -/
def SetLast (L : List GDeed) : Prop := ∃ A B, L = A ++ B ∧ (∀ d ∈ A, d.st = false) ∧ (∀ d ∈ B, d.un = false)
theorem beh_eq {L : List GDeed} (h : SetLast L) (S : Nat → Bool) (l : Nat) : behS L S l = (gsL L l || (S l && !usL L l)) := by
  obtain ⟨A, B, rfl, hA, hB⟩ := h
  unfold behS
  rw [List.foldl_append, beh_st l B _ hB, beh_un l A _ hA, gsL_app, usL_app]
  have h1 : gsL A l = false := by
    rw [← Bool.not_eq_true]; intro h
    obtain ⟨d, hd, h⟩ := List.any_eq_true.1 h
    rw [hA d hd] at h; cases h
  have h2 : usL B l = false := by
    rw [← Bool.not_eq_true]; intro h
    obtain ⟨d, hd, h⟩ := List.any_eq_true.1 h
    rw [hB d hd] at h; cases h
  rw [h1, h2, Bool.false_or, Bool.or_false, Bool.or_comm]
theorem opD_st {o : GOper} : ∀ d ∈ opD o, d.st = false := fun d hd => by
  unfold opD at hd
  split at hd
  · simp at hd
  · rw [List.mem_singleton.1 hd]
theorem opsD_st {g : Nat → GOper} : ∀ n, ∀ d ∈ opsD g n, d.st = false
  | 0, d, hd => by simp [opsD] at hd
  | n + 1, d, hd => by
    rcases List.mem_append.1 (show d ∈ opsD g n ++ opD (g n) from hd) with h | h
    · exact opsD_st n d h
    · exact opD_st d h
theorem rvD_st {r : GRv} : ∀ d ∈ rvD r, d.st = false := fun d hd => by
  unfold rvD at hd
  split at hd
  · exact opD_st d hd
  · split at hd
    · rcases List.mem_append.1 hd with h | h <;> exact opD_st d h
    · rw [List.mem_singleton.1 hd]
theorem setLast_no {L : List GDeed} (h : ∀ d ∈ L, d.st = false) : SetLast L := ⟨L, [], by simp, h, by simp⟩
theorem setLast_wr {L : List GDeed} (h : ∀ d ∈ L, d.st = false) (p : GPlace) : SetLast (L ++ [wrD p]) := ⟨L, [wrD p], rfl, h, fun d hd => by rw [List.mem_singleton.1 hd]; rfl⟩
theorem ptD_last (F : GFun) (b i : Nat) : SetLast (ptD F b i) := by
  unfold ptD
  split
  · unfold stD
    split
    · exact setLast_no fun d hd => by rw [List.mem_singleton.1 hd]
    · split
      · exact setLast_wr rvD_st _
      · exact setLast_no opD_st
  · unfold jmD
    split
    · exact setLast_no opD_st
    · split
      · exact setLast_no fun d hd => by rw [List.mem_singleton.1 hd]
      · split
        · exact setLast_wr (opsD_st _) _
        · exact setLast_no (by simp)
/-- The locals of deeds are the function's. -/
theorem opD_in {n : Nat} {o : GOper} (h : opIn n o) : ∀ d ∈ opD o, 0 ≤ d.l ∧ d.l < n := fun d hd => by
  unfold opD at hd
  split at hd
  · simp at hd
  · rw [List.mem_singleton.1 hd]
    rcases h with h | h
    · contradiction
    · exact h.2
theorem opsD_in {n : Nat} {g : Nat → GOper} : ∀ m, (∀ i, i < m → opIn n (g i)) → ∀ d ∈ opsD g m, 0 ≤ d.l ∧ d.l < n
  | 0, _, d, hd => by simp [opsD] at hd
  | m + 1, h, d, hd => by
    rcases List.mem_append.1 (show d ∈ opsD g m ++ opD (g m) from hd) with h' | h'
    · exact opsD_in m (fun i hi => h i (by omega)) d h'
    · exact opD_in (h m (by omega)) d h'
theorem stD_in {F : GFun} (h : F.Ok) {b i : Nat} (hb : b < F.bn) (hi : i < F.sn b) : ∀ d ∈ stD (F.s b i), 0 ≤ d.l ∧ d.l < F.ln := fun d hd => by
  have hs := st_in h hb hi
  have hp := h.stIn hb hi
  generalize F.s b i = s at hs hp hd
  unfold stD at hd
  have mem : ∀ q ∈ stPl s, 0 ≤ q.1.l ∧ q.1.l < (F.ln : Int) := hp
  split at hd
  · rename_i hk
    rw [List.mem_singleton.1 hd]
    refine mem (⟨s.l, false, 0⟩, false) ?_
    unfold stPl; rw [if_pos hk]; exact List.mem_singleton.2 rfl
  · rename_i hk3
    split at hd
    · rename_i hk
      have m2 : ∀ q, q ∈ stPl s ↔ q ∈ (if s.r.k = 4 ∨ s.r.k = 5 then [(s.p, false), (s.r.p, false)] else if s.r.k = 1 then (s.p, false) :: opPl true s.r.a else (s.p, false) :: (opPl false s.r.a ++ opPl false s.r.b)) := fun q => by
        unfold stPl
        rw [if_neg (by omega), if_neg (by omega), if_pos hk]
      rcases List.mem_append.1 hd with hd | hd
      · unfold rvD at hd
        rcases hs.r hk with ⟨h1, h2⟩ | ⟨h1, h2, h3⟩ | h1
        · rw [if_pos h1] at hd; exact opD_in h2 d hd
        · rw [if_neg (by omega), if_pos h1] at hd
          rcases List.mem_append.1 hd with hd | hd
          · exact opD_in h2 d hd
          · exact opD_in h3 d hd
        · rw [if_neg (by omega), if_neg (by omega)] at hd
          rw [List.mem_singleton.1 hd]
          refine mem (s.r.p, false) ((m2 _).2 ?_)
          rw [if_pos h1]; simp
      · rw [List.mem_singleton.1 hd]
        refine mem (s.p, false) ((m2 _).2 ?_)
        split
        · simp
        · split <;> simp
    · rename_i hk1
      refine opD_in (hs.a ?_) d hd
      have := hs.k
      omega
theorem jmD_in {F : GFun} (h : F.Ok) {b : Nat} (hb : b < F.bn) : ∀ d ∈ jmD F b, 0 ≤ d.l ∧ d.l < F.ln := fun d hd => by
  have hp := h.jmIn hb
  unfold jmD at hd
  split at hd
  · rename_i hk; exact opD_in (condIn h hb hk) d hd
  · split at hd
    · rw [List.mem_singleton.1 hd]
      have := h.lpos
      exact ⟨Int.le_refl _, by show (0 : Int) < F.ln; omega⟩
    · split at hd
      · rename_i hk
        rcases List.mem_append.1 hd with hd | hd
        · exact opsD_in _ (fun i hi => argIn h hb hk hi) d hd
        · rw [List.mem_singleton.1 hd]
          refine hp (F.jd b, false) ?_
          unfold jmPlB jmPl
          rw [if_neg (by omega), if_pos hk]; simp
      · simp at hd
theorem ptD_in {F : GFun} (h : F.Ok) {b i : Nat} (hb : b < F.bn) : ∀ d ∈ ptD F b i, 0 ≤ d.l ∧ d.l < F.ln := by
  unfold ptD
  split
  · rename_i hi; exact stD_in h hb hi
  · exact jmD_in h hb
theorem rvD_len (r : GRv) : (rvD r).length ≤ 2 := by
  unfold rvD
  have h1 := opD_len r.a
  have h2 := opD_len r.b
  split
  · omega
  · split
    · rw [List.length_append]; omega
    · simp
theorem ptD_len {F : GFun} (h : F.Ok) {b i : Nat} (hb : b < F.bn) : (ptD F b i).length ≤ 9 := by
  have hj := h.jn8 hb
  unfold ptD
  split
  · unfold stD
    split
    · simp
    · split
      · have := rvD_len (F.s b i).r
        rw [List.length_append]; simp only [List.length_cons, List.length_nil]; omega
      · have := opD_len (F.s b i).a; omega
  · unfold jmD
    split
    · have := opD_len (F.jo b); omega
    · split
      · simp
      · split
        · have := opsD_len (F.ja b) (F.jn b)
          rw [List.length_append]; simp only [List.length_cons, List.length_nil]; omega
        · simp
theorem ok_pa {F : GFun} (h : F.Ok) : 0 ≤ F.pa ∧ F.pa ≤ 8 ∧ F.pa < F.ln := by
  have := h.head
  simp only [headB, Bool.and_eq_true, decide_eq_true_eq] at this
  exact ⟨this.1.1.1.1.2, this.1.1.1.2, this.1.1.2⟩
/-- The masks of a function: which locals are set at its points. -/
def flowF (F : GFun) : FlowG := ⟨F.ln, stN F.sn F.bn, succN F, fun m l => gsL (ptD F (pbN F m) (piN F m)) l, fun m l => usL (ptD F (pbN F m) (piN F m)) l, fun l => decide (1 ≤ l) && decide (Int.ofNat l ≤ F.pa)⟩
noncomputable def setM (F : GFun) (n l : Nat) : Bool := !(flowF F).unB l n
theorem behF (F : GFun) (m : Nat) (S : Nat → Bool) : behS (ptD F (pbN F m) (piN F m)) S = (flowF F).be m S := funext fun l => beh_eq (ptD_last F _ _) S l

end Go.Proofs.Ytbljhhkjjlgnmaa
