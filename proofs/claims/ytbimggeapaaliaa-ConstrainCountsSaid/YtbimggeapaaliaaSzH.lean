/- The check of a function: the reference's error is the program's. No condition. -/
import Derived.Test.YtbimggeapaaliaaSzG
import Derived.Test.YtbimggeapaaliaaSyK
namespace Go.Proofs.Ytbimggeapaaliaa
open Go.RowKit
set_option linter.unusedVariables false
set_option linter.unusedSimpArgs false

/-! The places of a statement, of a jump, in their order. -/
def opPl (may : Bool) (o : GOper) : List (GPlace × Bool) := if o.k = 1 then [] else [(o.p, may && decide (o.k = 3))]
def stPl (s : GStmt) : List (GPlace × Bool) :=
  if s.k = 3 then [(⟨s.l, false, 0⟩, false)]
  else if s.k = 2 ∨ s.k = 4 then opPl false s.a
  else if s.k = 1 then
    if s.r.k = 4 ∨ s.r.k = 5 then [(s.p, false), (s.r.p, false)]
    else if s.r.k = 1 then (s.p, false) :: opPl true s.r.a
    else (s.p, false) :: (opPl false s.r.a ++ opPl false s.r.b)
  else []
def opsPl (g : Nat → GOper) : Nat → List (GPlace × Bool)
  | 0 => []
  | n + 1 => opsPl g n ++ opPl true (g n)
def jmPl (k : Int) (a : GOper) (d : GPlace) (n : Nat) (g : Nat → GOper) : List (GPlace × Bool) :=
  if k = 2 then opPl false a else if k = 4 then (d, false) :: opsPl g n else []
section
variable {σ : Type} (E : σ → GPlace → Bool → σ)
def plRun (x : σ) (l : List (GPlace × Bool)) : σ := l.foldl (fun x q => E x q.1 q.2) x
theorem plRun_append (x : σ) (l m : List (GPlace × Bool)) : plRun E x (l ++ m) = plRun E (plRun E x l) m := by simp [plRun]
theorem opRun_pl (may : Bool) (x : σ) (o : GOper) : opRun E may x o = plRun E x (opPl may o) := by
  unfold opRun opPl
  split <;> rfl
theorem stRun_pl (x : σ) (s : GStmt) : stRun E x s = plRun E x (stPl s) := by
  unfold stRun stPl
  split
  · rfl
  · split
    · exact opRun_pl E _ _ _
    · split
      · split
        · rfl
        · split
          · rw [opRun_pl]; rfl
          · rw [opRun_pl, opRun_pl]
            show plRun E (plRun E (E x s.p false) _) _ = plRun E (E x s.p false) _
            rw [plRun_append]
      · rfl
theorem opsRun_pl (g : Nat → GOper) (x : σ) : ∀ n, opsRun E true g n x = plRun E x (opsPl g n)
  | 0 => rfl
  | n + 1 => by simp only [opsRun, opsPl]; rw [opRun_pl, opsRun_pl g x n, plRun_append]
theorem jmRun_pl (x : σ) (k : Int) (a : GOper) (d : GPlace) (n : Nat) (g : Nat → GOper) : jmRun E x k a d n g = plRun E x (jmPl k a d n g) := by
  unfold jmRun jmPl
  split
  · exact opRun_pl E _ _ _
  · split
    · rw [opsRun_pl]; rfl
    · rfl
end
theorem opPl_len (may : Bool) (o : GOper) : (opPl may o).length ≤ 1 := by unfold opPl; split <;> simp
theorem stPl_len (s : GStmt) : (stPl s).length ≤ 3 := by
  have h1 := opPl_len false s.a
  have h2 := opPl_len true s.r.a
  have h3 := opPl_len false s.r.a
  have h4 := opPl_len false s.r.b
  unfold stPl
  split
  · simp
  · split
    · omega
    · split
      · split
        · simp
        · split
          · simp only [List.length_cons]; omega
          · simp only [List.length_cons, List.length_append]; omega
      · simp
theorem opsPl_len (g : Nat → GOper) : ∀ n, (opsPl g n).length ≤ n
  | 0 => Nat.le_refl _
  | n + 1 => by
    have := opsPl_len g n
    have := opPl_len true (g n)
    simp only [opsPl, List.length_append]; omega
theorem jmPl_len (k : Int) (a : GOper) (d : GPlace) (n : Nat) (g : Nat → GOper) : (jmPl k a d n g).length ≤ n + 1 := by
  have h1 := opPl_len false a
  have h2 := opsPl_len g n
  unfold jmPl
  split
  · omega
  · split
    · simp only [List.length_cons]; omega
    · simp

/-- All of them are less than a number. -/
def plOk (n : Nat) (l : List (GPlace × Bool)) : Bool := l.all fun q => decide (q.1.l < n)
theorem nE_pl (n : Nat) : ∀ (l : List (GPlace × Bool)) (r : Bool), plRun (nE n) r l = (r && plOk n l)
  | [], r => by simp [plRun, plOk]
  | q :: l, r => by
    have := nE_pl n l (nE n r q.1 q.2)
    simp only [plRun, List.foldl_cons] at this ⊢
    rw [this]
    simp only [nE, plOk, List.all_cons, Bool.and_assoc]
/-- How many name a local; how many pass it on. -/
def cntA (t : Nat) : List (GPlace × Bool) → Nat
  | [] => 0
  | q :: l => (if q.1.l = (t : Int) then 1 else 0) + cntA t l
def cntP (t : Nat) : List (GPlace × Bool) → Nat
  | [] => 0
  | q :: l => (if q.1.l = (t : Int) ∧ q.2 = true ∧ q.1.d = false ∧ q.1.f = 0 then 1 else 0) + cntP t l
theorem cntA_append (t : Nat) : ∀ l m, cntA t (l ++ m) = cntA t l + cntA t m
  | [], m => by simp [cntA]
  | q :: l, m => by simp only [List.cons_append, cntA, cntA_append t l m]; omega
theorem cntP_append (t : Nat) : ∀ l m, cntP t (l ++ m) = cntP t l + cntP t m
  | [], m => by simp [cntP]
  | q :: l, m => by simp only [List.cons_append, cntP, cntP_append t l m]; omega
theorem cntA_le (t : Nat) : ∀ l, cntA t l ≤ l.length
  | [] => Nat.le_refl _
  | q :: l => by have := cntA_le t l; simp only [cntA, List.length_cons]; split <;> omega
theorem cntP_le (t : Nat) : ∀ l, cntP t l ≤ l.length
  | [] => Nat.le_refl _
  | q :: l => by have := cntP_le t l; simp only [cntP, List.length_cons]; split <;> omega
theorem add_small {a b : Nat} (h : a + b ≤ 1000000) : rAr .add .i64 (a : Int) (b : Int) = ((a + b : Nat) : Int) := by
  show IntKind.i64.wrap ((a : Int) + (b : Int)) = _
  rw [Go.IntWalk.i64_in _ (by omega)]
  omega
theorem add_one {a : Nat} (h : a + 1 ≤ 1000000) : rAr .add .i64 (a : Int) 1 = ((a + 1 : Nat) : Int) := add_small (b := 1) h
theorem cE_pl (t : Nat) : ∀ (l : List (GPlace × Bool)) (x : (Nat → Int) × (Nat → Int)) (a p : Nat), x.1 t = (a : Int) → x.2 t = (p : Int) → a + l.length ≤ 1000000 → p + l.length ≤ 1000000 →
    (plRun cE x l).1 t = ((a + cntA t l : Nat) : Int) ∧ (plRun cE x l).2 t = ((p + cntP t l : Nat) : Int)
  | [], x, a, p, h1, h2, _, _ => by simp [plRun, cntA, cntP, h1, h2]
  | q :: l, x, a, p, h1, h2, ha, hp => by
    simp only [List.length_cons] at ha hp
    have hstep : plRun cE x (q :: l) = plRun cE (cE x q.1 q.2) l := rfl
    rw [hstep]
    have e1 : (cE x q.1 q.2).1 t = ((a + (if q.1.l = (t : Int) then 1 else 0) : Nat) : Int) := by
      simp only [cE, bump, Int.ofNat_eq_natCast]
      by_cases h : q.1.l = (t : Int)
      · rw [if_pos h.symm, if_pos h, h1]; exact add_one (by omega)
      · rw [if_neg (fun h' => h h'.symm), if_neg h, h1]; simp
    have e2 : (cE x q.1 q.2).2 t = ((p + (if q.1.l = (t : Int) ∧ q.2 = true ∧ q.1.d = false ∧ q.1.f = 0 then 1 else 0) : Nat) : Int) := by
      simp only [cE]
      by_cases h : q.2 = true ∧ q.1.d = false ∧ q.1.f = 0
      · rw [if_pos h]
        simp only [bump, Int.ofNat_eq_natCast]
        by_cases h' : q.1.l = (t : Int)
        · rw [if_pos h'.symm, if_pos ⟨h', h⟩, h2]; exact add_one (by omega)
        · rw [if_neg (fun g => h' g.symm), if_neg (fun g => h' g.1), h2]; simp
      · rw [if_neg h, if_neg (fun g => h g.2), h2]; simp
    obtain ⟨r1, r2⟩ := cE_pl t l (cE x q.1 q.2) _ _ e1 e2 (by split <;> omega) (by split <;> omega)
    rw [r1, r2]
    simp only [cntA, cntP]
    constructor <;> congr 1 <;> omega
theorem occS_cnt (s : GStmt) (t : Nat) : occS s t = (cntA t (stPl s) : Int) := by
  unfold occS
  rw [stRun_pl]
  have := stPl_len s
  have := (cE_pl t (stPl s) (z16, z16) 0 0 rfl rfl (by omega) (by omega)).1
  rw [this]; simp
theorem occJ_cnt (k : Int) (a : GOper) (d : GPlace) (n : Nat) (g : Nat → GOper) (t : Nat) (hn : n ≤ 100) : occJ k a d n g t = (cntA t (jmPl k a d n g) : Int) := by
  unfold occJ
  rw [jmRun_pl]
  have := jmPl_len k a d n g
  have := (cE_pl t (jmPl k a d n g) (z16, z16) 0 0 rfl rfl (by omega) (by omega)).1
  rw [this]; simp
/-- All places are of locals there may be. -/
def plIn (l : List (GPlace × Bool)) : Prop := ∀ q ∈ l, 0 ≤ q.1.l ∧ q.1.l < 16
theorem cnt_pos (t : Nat) : ∀ l : List (GPlace × Bool), 0 < cntA t l ↔ ∃ q ∈ l, q.1.l = (t : Int)
  | [] => by simp [cntA]
  | q :: l => by
    have ih := cnt_pos t l
    simp only [cntA, List.mem_cons, exists_eq_or_imp]
    rw [← ih]
    by_cases h : q.1.l = (t : Int)
    · simp [h]; omega
    · simp [h]
theorem far_pl {f : Nat → Int} {l : List (GPlace × Bool)} {n : Nat} (hf : ∀ t, f t = (cntA t l : Int)) (hl : plIn l) : farB f n = !plOk n l := by
  rw [farB]
  congr 1
  rw [Bool.eq_iff_iff, allN_iff, plOk, List.all_eq_true]
  constructor
  · intro h q hq
    obtain ⟨h0, h1⟩ := hl q hq
    have h2 := h q.1.l.toNat (by omega)
    rw [hf] at h2
    have h3 : 0 < cntA q.1.l.toNat l := (cnt_pos _ l).2 ⟨q, hq, by omega⟩
    simp only [Bool.or_eq_true, decide_eq_true_eq, Bool.not_eq_true', decide_eq_false_iff_not] at h2
    simp only [decide_eq_true_eq]
    omega
  · intro h t ht
    rw [hf]
    by_cases h3 : 0 < cntA t l
    · obtain ⟨q, hq, e⟩ := (cnt_pos t l).1 h3
      have := h q hq
      simp only [decide_eq_true_eq] at this
      simp only [Bool.or_eq_true, decide_eq_true_eq]
      left; omega
    · simp only [Bool.or_eq_true, Bool.not_eq_true', decide_eq_false_iff_not]
      right; omega

end Go.Proofs.Ytbimggeapaaliaa
