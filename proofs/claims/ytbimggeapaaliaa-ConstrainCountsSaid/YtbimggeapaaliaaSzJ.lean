/- The check of a function: the two-phase locals are counted alike. No condition. -/
import Derived.Test.YtbimggeapaaliaaSzI
namespace Go.Proofs.Ytbimggeapaaliaa
open Go.RowKit
set_option linter.unusedVariables false
set_option linter.unusedSimpArgs false

theorem pasB_cnt {o : GOper} (h : o.ok = true) (t : Nat) : cntP t (opPl true o) = if pasB o t = true then 1 else 0 := by
  unfold opPl
  simp only [GOper.ok, Bool.or_eq_true, Bool.and_eq_true, beq_iff_eq] at h
  by_cases h1 : o.k = 1
  · rw [if_pos h1]
    have : pasB o t = false := by simp [pasB, h1]
    rw [this]; rfl
  · rw [if_neg h1]
    have hn : o.n = 0 := by grind
    simp only [cntP, pasB, Bool.true_and, Nat.add_zero, hn]
    congr 1
    rw [eq_iff_iff]
    simp only [decide_eq_true_eq, Bool.and_eq_true, beq_iff_eq, Bool.not_eq_true', beq_self_eq_true, and_true]
    grind
theorem cntP_false {t : Nat} : ∀ {l : List (GPlace × Bool)}, (∀ q ∈ l, q.2 = false) → cntP t l = 0
  | [], _ => rfl
  | q :: l, h => by
    have h1 := h q (by simp)
    have h2 := cntP_false (t := t) (fun q hq => h q (by simp [hq])) (l := l)
    simp [cntP, h1, h2]
theorem opPl_false {o : GOper} : ∀ q ∈ opPl false o, q.2 = false := fun q hq => by
  unfold opPl at hq
  split at hq
  · simp at hq
  · simp only [List.mem_singleton] at hq; subst hq; rfl
/-- What is passed on in a statement. -/
theorem stPl_pas {s : GStmt} (h : s.ok = true) (t : Nat) : cntP t (stPl s) = if s.k = 1 ∧ s.r.k = 1 then (if pasB s.r.a t = true then 1 else 0) else 0 := by
  by_cases g : s.k = 1 ∧ s.r.k = 1
  · rw [if_pos g]
    have ha : s.r.a.ok = true := by
      simp only [GStmt.ok, GRv.ok, Bool.or_eq_true, Bool.and_eq_true, beq_iff_eq] at h
      grind
    rw [← pasB_cnt ha]
    unfold stPl
    rw [if_neg (by omega), if_neg (by omega), if_pos g.1, if_neg (by omega), if_pos g.2]
    simp [cntP]
  · rw [if_neg g]
    apply cntP_false
    intro q hq
    unfold stPl at hq
    split at hq
    · simp only [List.mem_singleton] at hq; subst hq; rfl
    · split at hq
      · exact opPl_false q hq
      · split at hq
        · rename_i g1
          split at hq
          · simp only [List.mem_cons, List.not_mem_nil, or_false] at hq
            rcases hq with rfl | rfl <;> rfl
          · split at hq
            · rename_i g2; exact absurd ⟨g1, g2⟩ g
            · simp only [List.mem_cons, List.mem_append] at hq
              rcases hq with rfl | hq | hq
              · rfl
              · exact opPl_false q hq
              · exact opPl_false q hq
        · simp at hq
theorem pasI_cnt {g : Nat → GOper} (t : Nat) : ∀ {n : Nat}, (∀ i, i < n → (g i).ok = true) → n ≤ 100 → pasI g t n = (cntP t (opsPl g n) : Int)
  | 0, _, _ => rfl
  | n + 1, h, hn => by
    have ih := pasI_cnt t (fun i hi => h i (by omega)) (by omega : n ≤ 100) (g := g)
    have hl := opsPl_len g n
    have hc := cntP_le t (opsPl g n)
    simp only [pasI, opsPl, cntP_append, pasB_cnt (h n (by omega))]
    split
    · rw [ih]; exact add_one (by omega)
    · rw [ih]; rfl
theorem pas_one {o : GOper} (t : Nat) : pasI (fun _ => o) t 1 = ((if pasB o t = true then 1 else 0 : Nat) : Int) := by
  simp only [pasI]
  split <;> rfl

/-- The same counts. -/
structure SameN (t : Nat) (x : TS) (y : Int × Int × Int) (a p : Nat) : Prop where
  a1 : x.c.1 t = (a : Int)
  p1 : x.c.2 t = (p : Int)
  a2 : y.2.2 = (a : Int)
  p2 : y.2.1 = (p : Int)
  s : y.1 = x.sets t
theorem same_st {t : Nat} {x : TS} {y : Int × Int × Int} {a p : Nat} (H : SameN t x y a p) {s : GStmt} (hs : s.ok = true) (ha : a + 3 ≤ 900000) (hp : p + 3 ≤ 900000) :
    SameN t (stTwo x s) (stOn t y s) (a + cntA t (stPl s)) (p + cntP t (stPl s)) := by
  have hl := stPl_len s
  have hca := cntA_le t (stPl s)
  have hcp := cntP_le t (stPl s)
  have hc := cE_pl t (stPl s) x.c a p H.a1 H.p1 (by omega) (by omega)
  refine ⟨?_, ?_, ?_, ?_, ?_⟩
  · show (stRun cE x.c s).1 t = _
    rw [stRun_pl]; exact hc.1
  · show (stRun cE x.c s).2 t = _
    rw [stRun_pl]; exact hc.2
  · show rAr .add .i64 y.2.2 (occS s t) = _
    rw [H.a2, occS_cnt]; exact add_small (by omega)
  · show (if setT s t = true then y.2.1 else if s.k = 1 ∧ s.r.k = 1 then rAr .add .i64 y.2.1 (pasI (fun _ => s.r.a) t 1) else y.2.1) = _
    rw [stPl_pas hs]
    by_cases g : setT s t = true
    · rw [if_pos g]
      have : ¬ (s.k = 1 ∧ s.r.k = 1) := fun h => by
        simp only [setT, twoB, Bool.and_eq_true, beq_iff_eq] at g
        omega
      rw [if_neg this]; simpa using H.p2
    · rw [if_neg g]
      by_cases g' : s.k = 1 ∧ s.r.k = 1
      · rw [if_pos g', if_pos g', H.p2, pas_one]
        exact add_small (by split <;> omega)
      · rw [if_neg g', if_neg g']; simpa using H.p2
  · show (if setT s t = true then rAr .add .i64 y.1 1 else y.1) = (if setB s = true then turn x.sets s.p.l.toNat (rAr .add .i64 (x.sets s.p.l.toNat) 1) else x.sets) t
    by_cases g : setB s = true
    · rw [if_pos g]
      have hk : s.k = 1 := by
        simp only [setB, twoB, Bool.and_eq_true, beq_iff_eq] at g
        exact g.1.1.1.1.1
      have hp0 := ((ok_stAll hs).2.2 hk).1
      unfold turn
      by_cases e : s.p.l = (t : Int)
      · have h1 : setT s t = true := by
          simp only [setB, Bool.and_eq_true, Bool.not_eq_true', decide_eq_true_eq, decide_eq_false_iff_not] at g
          simp only [setT, Bool.and_eq_true, beq_iff_eq, Bool.not_eq_true', beq_eq_false_iff_ne]
          rw [← e]
          exact ⟨⟨g.1.1.1, ⟨rfl, g.1.1.2⟩, g.1.2⟩, g.2⟩
        rw [if_pos h1, if_pos (by omega), H.s, e]; rfl
      · have h1 : ¬ setT s t = true := fun h => by
          simp only [setT, Bool.and_eq_true, beq_iff_eq] at h
          exact e h.1.2.1.1
        rw [if_neg h1, if_neg (by omega), H.s]
    · rw [if_neg g]
      have h1 : ¬ setT s t = true := fun h => by
        apply g
        simp only [setT, Bool.and_eq_true, beq_iff_eq, Bool.not_eq_true', beq_eq_false_iff_ne] at h
        simp only [setB, Bool.and_eq_true, Bool.not_eq_true', decide_eq_true_eq, decide_eq_false_iff_not]
        obtain ⟨⟨h1, ⟨h2, h3⟩, h4⟩, h5⟩ := h
        exact ⟨⟨⟨h1, h3⟩, h4⟩, by rw [h2]; exact h5⟩
      rw [if_neg h1, H.s]
theorem same_sts {t : Nat} {x : TS} {y : Int × Int × Int} {a p : Nat} (H : SameN t x y a p) {s : Nat → GStmt} : ∀ {n : Nat}, (∀ i, i < n → (s i).ok = true) → a + 3 * n ≤ 900000 → p + 3 * n ≤ 900000 →
    ∃ a' p', a' ≤ a + 3 * n ∧ p' ≤ p + 3 * n ∧ SameN t (stsTwo s n x) (stsOn s t n y) a' p'
  | 0, _, _, _ => ⟨a, p, by omega, by omega, H⟩
  | n + 1, hs, ha, hp => by
    obtain ⟨a', p', h1, h2, h3⟩ := same_sts H (n := n) (fun i hi => hs i (by omega)) (by omega) (by omega)
    have := same_st h3 (hs n (by omega)) (by omega) (by omega)
    have hl := stPl_len (s n)
    have hca := cntA_le t (stPl (s n))
    have hcp := cntP_le t (stPl (s n))
    exact ⟨_, _, by omega, by omega, this⟩
theorem same_bl {F : GFun} {b : Nat} (hv : validB F b = true) (hsn : F.sn b ≤ 24) {t : Nat} {x : TS} {y : Int × Int × Int} {a p : Nat} (H : SameN t x y a p) (ha : a + 81 ≤ 900000) (hp : p + 81 ≤ 900000) :
    ∃ a' p', a' ≤ a + 81 ∧ p' ≤ p + 81 ∧ SameN t (blTwo F b x) (blOn F t b y) a' p' := by
  simp only [validB, Bool.and_eq_true] at hv
  obtain ⟨a1, p1, h1, h2, h3⟩ := same_sts H (n := F.sn b) (s := F.s b) (fun i hi => allN_iff.1 hv.1 i hi) (by omega) (by omega)
  have hn := jok_n hv.2
  have hjl := jmPl_len (F.jk b) (F.jo b) (F.jd b) (F.jn b) (F.ja b)
  have hca := cntA_le t (jmPl (F.jk b) (F.jo b) (F.jd b) (F.jn b) (F.ja b))
  have hcp := cntP_le t (jmPl (F.jk b) (F.jo b) (F.jd b) (F.jn b) (F.ja b))
  have hc := cE_pl t (jmPl (F.jk b) (F.jo b) (F.jd b) (F.jn b) (F.ja b)) _ a1 p1 h3.a1 h3.p1 (by omega) (by omega)
  refine ⟨a1 + cntA t (jmPl (F.jk b) (F.jo b) (F.jd b) (F.jn b) (F.ja b)), p1 + cntP t (jmPl (F.jk b) (F.jo b) (F.jd b) (F.jn b) (F.ja b)), by omega, by omega, ?_⟩
  refine ⟨?_, ?_, ?_, ?_, h3.s⟩
  · show (jmRun cE _ _ _ _ _ _).1 t = _
    rw [jmRun_pl]; exact hc.1
  · show (jmRun cE _ _ _ _ _ _).2 t = _
    rw [jmRun_pl]; exact hc.2
  · show rAr .add .i64 (stsOn (F.s b) t (F.sn b) y).2.2 (occJ (F.jk b) (F.jo b) (F.jd b) (F.jn b) (F.ja b) t) = _
    rw [h3.a2, occJ_cnt _ _ _ _ _ _ (by omega)]
    exact add_small (by omega)
  · show (if F.jk b = 4 then rAr .add .i64 (stsOn (F.s b) t (F.sn b) y).2.1 (pasI (F.ja b) t (F.jn b)) else (stsOn (F.s b) t (F.sn b) y).2.1) = _
    by_cases g : F.jk b = 4
    · have hall : ∀ i, i < F.jn b → (F.ja b i).ok = true := fun i hi => by
        have h := hv.2
        rw [GFun.jump, jokB_eq] at h
        simp only [jokB, Bool.and_eq_true] at h
        exact allN_iff.1 h.2 i hi
      have e : cntP t (jmPl (F.jk b) (F.jo b) (F.jd b) (F.jn b) (F.ja b)) = cntP t (opsPl (F.ja b) (F.jn b)) := by
        unfold jmPl
        rw [if_neg (by omega), if_pos g]
        simp [cntP]
      rw [if_pos g, h3.p2, pasI_cnt t hall (by omega), e]
      exact add_small (by omega)
    · have e : cntP t (jmPl (F.jk b) (F.jo b) (F.jd b) (F.jn b) (F.ja b)) = 0 := by
        unfold jmPl
        by_cases g2 : F.jk b = 2
        · rw [if_pos g2]; exact cntP_false opPl_false
        · rw [if_neg g2, if_neg g]; rfl
      rw [if_neg g, e, h3.p2]; rfl
theorem same_all {F : GFun} (hv : allN F.bn (validB F) = true) (hs : ∀ b, b < F.bn → F.sn b ≤ 24) (hb : F.bn ≤ 24) (t : Nat) : ∀ b, b ≤ F.bn → ∃ a p, a ≤ 81 * b ∧ p ≤ 81 * b ∧ SameN t (allTwo F b) (allOn F t b) a p
  | 0, _ => ⟨0, 0, by omega, by omega, ⟨rfl, rfl, rfl, rfl, rfl⟩⟩
  | b + 1, h => by
    obtain ⟨a, p, h1, h2, h3⟩ := same_all hv hs hb t b (by omega)
    obtain ⟨a', p', h4, h5, h6⟩ := same_bl (allN_iff.1 hv b (by omega)) (hs b (by omega)) h3 (by omega) (by omega)
    exact ⟨a', p', by omega, by omega, h6⟩
theorem okR_eq {F : GFun} (hl : largeB F = false) (hm : rmadeB F = true) : okR F = twosB F := by
  have hv := rmade_valid hm
  simp only [largeB, Bool.or_eq_false_iff, decide_eq_false_iff_not, Bool.not_eq_false'] at hl
  have hs : ∀ b, b < F.bn → F.sn b ≤ 24 := fun b hb => of_decide_eq_true (allN_iff.1 hl.2 b hb)
  rw [okR, twosB, okTwo]
  refine allN_congr fun t ht => ?_
  obtain ⟨a, p, _, _, h⟩ := same_all hv hs (by omega) t F.bn (Nat.le_refl _)
  congr 2
  rw [onceB, h.s, h.p2, h.a2, h.a1, h.p1]
  simp only [Int.ofNat_eq_natCast]
  cases decide ((t : Int) ≤ F.pa) <;> by_cases h1 : (allTwo F F.bn).sets t = 1 <;> by_cases h2 : (p : Int) = 1 <;> by_cases h3 : (a : Int) = 2 <;> simp [h1, h2, h3]
/-- The reference finds the same error. -/
theorem rchk_eq (F : GFun) : rchkV F = fchkV F := by
  unfold rchkV fchkV
  cases hl : largeB F with
  | true => rfl
  | false =>
    rw [rmade_eq hl]
    cases hm : madeB F with
    | false => rfl
    | true => rw [okR_eq hl ((rmade_eq hl).trans hm)]

end Go.Proofs.Ytbimggeapaaliaa
