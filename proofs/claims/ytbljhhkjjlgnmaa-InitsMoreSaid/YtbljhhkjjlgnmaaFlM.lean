/- InitsMore, plain: more parameters never make fewer locals set, nor a function refused. No condition. -/
import Derived.Test.YtbljhhkjjlgnmaaIdG
namespace Go.Proofs.Ytbljhhkjjlgnmaa
open Go.RowKit
set_option linter.unusedVariables false
set_option linter.unusedSimpArgs false

/-- A function with another number of parameters. -/
def GFun.par (F : GFun) (p : Int) : GFun := { F with pa := p }
theorem par_set {F : GFun} {p : Int} (h : F.pa ≤ p) {n l : Nat} (hs : setM F n l = true) : setM (F.par p) n l = true := by
  have h2 : ∀ G : GFun, setM G n l = true ↔ ¬ Cl ((flowF G).Z l) ((flowF G).R l) n := fun G => by
    rw [← clB_iff]; unfold setM FlowG.unB; simp
  rw [h2] at hs ⊢
  refine fun hc => hs ?_
  clear hs h2
  induction hc with
  | zero h' =>
    rcases h' with ⟨a, b⟩ | h'
    · refine .zero (.inl ⟨a, ?_⟩)
      have b : (decide (1 ≤ l) && decide (Int.ofNat l ≤ p)) = false := b
      show (decide (1 ≤ l) && decide (Int.ofNat l ≤ F.pa)) = false
      rw [Bool.and_eq_false_iff, decide_eq_false_iff_not, decide_eq_false_iff_not] at b ⊢
      omega
    · exact .zero (.inr h')
  | step _ r ih => exact .step ih r
theorem dStep_mono : ∀ (L : List GDeed), (∀ d ∈ L, 0 ≤ d.l) → ∀ x y : (Nat → Bool) × Int, (∀ l, x.1 l = true → y.1 l = true) → (x.2 < 0 → y.2 < 0) → ((L.foldl dStep x).2 < 0 → (L.foldl dStep y).2 < 0)
  | [], _, x, y, _, h => h
  | d :: L, hL, x, y, h1, h2 => by
    rw [List.foldl_cons, List.foldl_cons]
    refine dStep_mono L (fun e he => hL e (List.mem_cons_of_mem _ he)) _ _ (fun l => ?_) ?_
    · simp only [dStep, Bool.or_eq_true, Bool.and_eq_true]
      rintro (⟨a, b⟩ | a)
      · exact .inl ⟨h1 l a, b⟩
      · exact .inr a
    · have hd := hL d List.mem_cons_self
      simp only [dStep]
      intro h
      by_cases c : (d.rd && !x.1 d.l.toNat && decide (x.2 < 0)) = true
      · rw [if_pos c] at h; omega
      · rw [if_neg c] at h
        have hy := h2 h
        split
        · rename_i g
          simp only [Bool.and_eq_true, Bool.not_eq_true', decide_eq_true_eq] at g c
          refine absurd ⟨⟨g.1.1, ?_⟩, h⟩ c
          cases e : x.1 d.l.toNat
          · rfl
          · rw [h1 _ e] at g; simp at g
        · exact hy
theorem par_init {F : GFun} {p : Int} (hO : F.Ok) (h : F.pa ≤ p) (hi : initI F = 0) : initI (F.par p) = 0 := by
  have e0 : initI F = if (firstI F).2.2 = 6 then 0 else 44 := rfl
  rw [e0] at hi
  rcases firstI_is F with ⟨k, e1, _⟩ | ⟨_, e2⟩
  · rw [e1] at hi; simp at hi
  · have : ∀ j, j < stN (F.par p).sn (F.par p).bn → badAt (F.par p) j < 0 := fun j hj =>
      dStep_mono _ (fun d hd => (ptD_in hO (num_pt (F := F) hj).1 d hd).1) (setM F j, -1) (setM (F.par p) j, -1) (fun l => par_set h) (fun _ => (by decide : (-1 : Int) < 0)) (e2 j hj)
    show (if (firstI (F.par p)).2.2 = 6 then (0 : Int) else 44) = 0
    rw [firstI_no this]; rfl

end Go.Proofs.Ytbljhhkjjlgnmaa
