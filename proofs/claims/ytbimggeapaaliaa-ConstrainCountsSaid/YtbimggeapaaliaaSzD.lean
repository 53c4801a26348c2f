/- Layer 7 of the reference: how often locals occur in a jump. No condition. -/
import Derived.Test.YtbimggeapaaliaaSzC
namespace Go.Proofs.Ytbimggeapaaliaa
open Go.RowKit
set_option linter.unusedVariables false
set_option linter.unusedSimpArgs false

def occJ (k : Int) (a : GOper) (d : GPlace) (n : Nat) (g : Nat → GOper) : Nat → Int := (jmRun cE (z16, z16) k a d n g).1
theorem bump_comm (f : Nat → Int) (a b : Int) : bump (bump f a) b = bump (bump f b) a := by
  funext j
  unfold bump
  by_cases h1 : Int.ofNat j = a <;> by_cases h2 : Int.ofNat j = b
  · simp only [if_pos h1, if_pos h2]
  · simp only [if_pos h1, if_neg h2]
  · simp only [if_neg h1, if_pos h2]
  · simp only [if_neg h1, if_neg h2]
theorem opsRun_cE (g : Nat → GOper) (may : Bool) (p : GPlace) (b : Bool) (x : (Nat → Int) × (Nat → Int)) : ∀ n, (opsRun cE may g n (cE x p b)).1 = bump (opsRun cE may g n x).1 p.l
  | 0 => rfl
  | n + 1 => by
    have ih := opsRun_cE g may p b x n
    simp only [opsRun, opRun]
    by_cases h : (g n).k = 1
    · simp only [if_pos h]; exact ih
    · simp only [if_neg h]
      show bump (opsRun cE may g n (cE x p b)).1 (g n).p.l = bump (bump (opsRun cE may g n x).1 (g n).p.l) p.l
      rw [ih, bump_comm]

theorem toNat16 {x : Int} (h : 0 ≤ x ∧ x < 16) : x.toNat < 16 := by omega
set_option maxRecDepth 100000 in
set_option maxHeartbeats 4000000 in
theorem occJC (k fn nx el ak an al af dl df : Int) (ad dd : Bool) (A : Option Addr) (n cap : Nat) (g : Nat → GOper) (w : World) (hn : n ≤ maxLen) (hX : XOk ⟨[], OneR A n cap 5 fun i => (g i).sc, []⟩ ⟨w, []⟩) (hok : (GJump.mk k ⟨ak, an, ⟨al, ad, af⟩⟩ fn nx el (argL n g) ⟨dl, dd, df⟩).ok = true) :
    Calls Try.prog 44 #[.agg #[.int .u8 k, .int .u8 ak, .int .i64 an, .int .i64 al, .bool ad, .int .u8 af, .int .i64 fn, .int .i64 nx, .int .i64 el, .slice A n cap, .int .i64 dl, .bool dd, .int .u8 df]] w (Ret w (arrI (occJ k ⟨ak, an, ⟨al, ad, af⟩⟩ ⟨dl, dd, df⟩ n g))) := by
  unfold maxLen at hn
  rw [jokB_eq] at hok
  obtain ⟨y, hy⟩ : ∃ y, y = occJ k ⟨ak, an, ⟨al, ad, af⟩⟩ ⟨dl, dd, df⟩ n g := ⟨_, rfl⟩
  rw [← hy]
  obtain ⟨acc, hacc⟩ : ∃ acc : Nat → Nat → Int, acc = fun i => (opsRun cE true g i (z16, z16)).1 := ⟨_, rfl⟩
  have a0 : acc 0 = z16 := by rw [hacc]; rfl
  have a1 : ∀ i, (g i).k ≠ 1 → acc (i + 1) = bump (acc i) (g i).p.l := fun i h => by rw [hacc]; simp only [opsRun, opRun, if_neg h]; rfl
  have a2 : ∀ i, (g i).k = 1 → acc (i + 1) = acc i := fun i h => by rw [hacc]; simp only [opsRun, opRun, if_pos h]
  have hg : ∀ i, i < n → (g i).ok = true := fun i hi => by
    have : (allN n fun i => (g i).ok) = true := by
      simp only [jokB, Bool.and_eq_true] at hok
      exact hok.2
    exact allN_iff.1 this i hi
  have g2 : ∀ i, i < n → decide ((g i).k = 2) = true → 0 ≤ (g i).p.l ∧ (g i).p.l < 16 := fun i hi h => oper_in (hg i hi) (by have := of_decide_eq_true h; omega)
  have g3 : ∀ i, i < n → decide ((g i).k = 3) = true → 0 ≤ (g i).p.l ∧ (g i).p.l < 16 := fun i hi h => oper_in (hg i hi) (by have := of_decide_eq_true h; omega)
  have g1 : ∀ i, i < n → decide ((g i).k = 2) = false → decide ((g i).k = 3) = false → (g i).k = 1 := fun i hi h h' => by
    have h1 := hg i hi
    have h := of_decide_eq_false h
    have h' := of_decide_eq_false h'
    simp only [GOper.ok, Bool.or_eq_true, Bool.and_eq_true, beq_iff_eq] at h1
    grind
  have d4 : decide (k = 4) = true → 0 ≤ dl ∧ dl < 16 := fun h => by
    have h := of_decide_eq_true h
    subst h
    simp only [jokB, Bool.and_eq_true] at hok
    have h1 := hok.1.2
    simp only [show ((4 : Int) == 4) = true from rfl, Bool.not_true, Bool.false_or] at h1
    exact place_in h1
  have y4 : k = 4 → y = bump (acc n) dl := fun h => by
    rw [hy, occJ, jmRun, if_neg (by omega), if_pos h, hacc]
    exact opsRun_cE g true _ _ _ n
  have n4 : k ≠ 4 → n = 0 := fun h => by
    have h' : (k == 4) = false := by simp [h]
    simp only [jokB, h', Bool.and_eq_true, Bool.not_eq_true'] at hok
    grind
  have y1 : k ≠ 4 → k ≠ 2 → y = z16 := fun h h' => by
    rw [hy, occJ, jmRun, if_neg h', if_neg h]
  have k2 : k = 2 → (GOper.mk ak an ⟨al, ad, af⟩).ok = true := fun h => by
    subst h
    simp only [jokB] at hok
    grind
  have va : k = 2 → ak = 1 ∨ ak = 2 ∨ ak = 3 := fun h => by
    have := k2 h
    simp only [GOper.ok, Bool.or_eq_true, Bool.and_eq_true, beq_iff_eq] at this
    grind
  have da2 : k = 2 → decide (ak = 2) = true → 0 ≤ al ∧ al < 16 := fun h h' => oper_in (k2 h) (by have := of_decide_eq_true h'; show ak ≠ 1; omega)
  have da3 : k = 2 → decide (ak = 3) = true → 0 ≤ al ∧ al < 16 := fun h h' => oper_in (k2 h) (by have := of_decide_eq_true h'; show ak ≠ 1; omega)
  have ya1 : k = 2 → ak = 1 → y = z16 := fun h h' => by
    rw [hy, occJ, jmRun, if_pos h, opRun, if_pos h']
  have ya2 : k = 2 → ak ≠ 1 → y = bump z16 al := fun h h' => by
    rw [hy, occJ, jmRun, if_pos h, opRun, if_neg h']; rfl
  clear hok hy hacc hg k2
  have tb : ∀ (f : Nat → Int) (l : Int), 0 ≤ l → turn f l.toNat (rAr .add .i64 (f l.toNat) 1) = bump f l := fun f l h => turn_bump h rfl
  have t0 : ∀ l : Int, 0 ≤ l → turn (fun _ => 0) l.toNat 1 = bump z16 l := fun l h => turn_bump (f := fun _ => 0) h (by decide)
  refine go_start (args := [.pt (.agg [.int .u8 k, .int .u8 ak, .int .i64 an, .int .i64 al, .bool ad, .int .u8 af, .int .i64 fn, .int .i64 nx, .int .i64 el, .xs 0 0, .int .i64 dl, .bool dd, .int .u8 df])]) (c := (OneR A n cap 5 fun i => (g i).sc)) Try.func44 rfl hX rfl rfl ?_
  obtain ⟨nd, hnd⟩ : ∃ f : Bool → Bool → Bool, f = and := ⟨_, rfl⟩
  obtain ⟨nt, hnt⟩ : ∃ f : Bool → Bool, f = not := ⟨_, rfl⟩
  obtain ⟨ar, har⟩ : ∃ f : BinOp → IntKind → Int → Int → Int, f = rAr := ⟨_, rfl⟩
  obtain ⟨cm, hcm⟩ : ∃ f : BinOp → Int → Int → Bool, f = rCm := ⟨_, rfl⟩
  obtain ⟨mx, hmx⟩ : ∃ f : Int → Int → Int, f = rMx := ⟨_, rfl⟩
  obtain ⟨mn, hmn⟩ : ∃ f : Int → Int → Int, f = rMn := ⟨_, rfl⟩
  have ar01 : ar .add .i64 0 1 = 1 := by rw [har]; decide
  have ar12 : ar .add .i64 1 1 = 2 := by rw [har]; decide
  obtain ⟨zpl, hzpl⟩ : ∃ f : Nat → Nat → Nat, f = fun x y => x + y := ⟨_, rfl⟩
  obtain ⟨zjn, hzjn⟩ : ∃ f : Nat → (Nat → List SC) → (Nat → List SC) → Nat → List SC, f = rJn := ⟨_, rfl⟩
  obtain ⟨zup, hzup⟩ : ∃ f : (Nat → List SC) → Nat → Nat → List SC → Nat → List SC, f = rUp := ⟨_, rfl⟩
  obtain ⟨zmi, hzmi⟩ : ∃ f : Nat → Nat → Nat, f = fun x y => x - y := ⟨_, rfl⟩
  obtain ⟨zdp, hzdp⟩ : ∃ f : Nat → (Nat → List SC) → Nat → List SC, f = rDp := ⟨_, rfl⟩
  have hT := T0_ok hnd hnt har hcm hmx hmn hzpl hzjn hzup hzmi hzdp
  by_cases q : k = 2
  · subst q
    repeat' (first
      | ((with_reducible apply go_ev hT 400); (· (cbv; try rfl)); (fail_if_success with_reducible apply stuck_id); (try simp only [ar01, ar12]))
      | ((with_reducible refine go_brt ?_ ?_); (· first | rfl | assumption | (rw [hcm]; decide)))
      | ((with_reducible refine go_brf ?_ ?_); (· first | rfl | assumption | (rw [hcm]; decide)))
      | ((with_reducible refine go_brnt hnt ?_ ?_); (· first | rfl | assumption))
      | ((with_reducible refine go_brnf hnt ?_ ?_); (· first | rfl | assumption))
      | (with_reducible refine go_brn hnt (fun h => ?_) (fun h => ?_))
      | (with_reducible refine go_brl hcm (fun hlt => ?_) (fun hge => ?_))
      | (with_reducible refine go_br (fun h => ?_) (fun h => ?_))
      | ((with_reducible apply go_ret_val hT); (· (cbv; try rfl)); (· (cbv; try rfl)))
      | ((with_reducible apply go_fin_val hT); (· (cbv; try rfl)); (· (cbv; try rfl)))
      | ((with_reducible apply go_draw); (· rfl); (· kernel_rfl); (· kernel_rfl))
      | ((with_reducible apply go_drawE); (· kernel_rfl))
      | (with_reducible refine go_fork ?_)
      | (with_reducible refine fork_cons ?_ ?_)
      | (with_reducible exact fork_nil)
      | ((with_reducible refine go_need ?_ ?_ ?_); (· first | omega | (simp only [Int.ofNat_eq_natCast]; omega)); (· first | omega | (simp only [Int.ofNat_eq_natCast]; omega)))
      | ((with_reducible refine go_ob ?_ ?_); (· first | trivial | (refine ⟨trivial, ?_⟩; omega) | (rw [hzpl]; refine ⟨trivial, ?_⟩; show _ + _ ≤ 1073741824; omega) | (rw [hzpl]; show _ + _ ≤ 1073741824; omega)))
      | ((with_reducible apply go_ret_rows hT); (· (cbv; try rfl)); (· (cbv; try rfl)); (· (cbv; (try simp only [true_and, and_true]); (try ((repeat' apply And.intro) <;> (first | trivial | rfl | decide ))))); (· (cbv; (try simp only [true_and, and_true]); (try ((repeat' apply And.intro) <;> (first | trivial | rfl | exact RowLe.rfl' _ ))))); (· rfl))
      | ((with_reducible apply go_fin_rows hT); (· (cbv; try rfl)); (· (cbv; try rfl)); (· (cbv; (try simp only [true_and, and_true]); (try ((repeat' apply And.intro) <;> (first | trivial | rfl | decide ))))); (· (cbv; (try simp only [true_and, and_true]); (try ((repeat' apply And.intro) <;> (first | trivial | rfl | exact RowLe.rfl' _ ))))); (· rfl))
      | ((with_reducible apply go_inline (f := 59) (hf := Try.func59) (hr := Try.results59) (hcall := Try.call59)); (· rfl); (· (cbv; try rfl)))
      | ((with_reducible apply go_inline (f := 58) (hf := Try.func58) (hr := Try.results58) (hcall := Try.call58)); (· rfl); (· (cbv; try rfl)))
      | (with_reducible apply go_rounds 4)
      | (((with_reducible apply go_need); (· exact (da2 rfl (by assumption)).1); (· have q := (da2 rfl (by assumption)).2; omega)))
      | (((with_reducible apply go_need); (· exact (da3 rfl (by assumption)).1); (· have q := (da3 rfl (by assumption)).2; omega)))
      | (((with_reducible apply go_getC (f := fun _ => 0)); (· exact off2 _); (· first | (have q := da2 rfl (by assumption); omega) | (have q := da3 rfl (by assumption); omega))))
      | (((with_reducible apply go_putC (f := fun _ => 0)); (· exact off2 _); (· first | (have q := da2 rfl (by assumption); omega) | (have q := da3 rfl (by assumption); omega)); (intro g hg)))
      )
    all_goals (subst har)
    all_goals (first | show arrI g = arrI y | show arrI z16 = arrI y)
    all_goals
      refine congrArg arrI ?_
      first
        | (rw [hg, ya2 rfl (by have := of_decide_eq_true (show decide (ak = 2) = true by assumption); omega)]; exact t0 _ (da2 rfl (by assumption)).1)
        | (rw [hg, ya2 rfl (by have := of_decide_eq_true (show decide (ak = 3) = true by assumption); omega)]; exact t0 _ (da3 rfl (by assumption)).1)
        | (rw [ya1 rfl (by have h1 := of_decide_eq_false (show decide (ak = 2) = false by assumption); have h2 := of_decide_eq_false (show decide (ak = 3) = false by assumption); have := va rfl; omega)])
  have q2 : decide (k = 2) = false := by simpa using q
  repeat' (first
    | ((with_reducible apply go_ev hT 400); (· (cbv; try rfl)); (fail_if_success with_reducible apply stuck_id))
    | ((with_reducible refine go_brt ?_ ?_); (· first | rfl | assumption | (rw [hcm]; decide)))
    | ((with_reducible refine go_brf ?_ ?_); (· first | rfl | assumption | (rw [hcm]; decide)))
    | ((with_reducible refine go_brnt hnt ?_ ?_); (· first | rfl | assumption))
    | ((with_reducible refine go_brnf hnt ?_ ?_); (· first | rfl | assumption))
    | (with_reducible refine go_brn hnt (fun h => ?_) (fun h => ?_))
    | (with_reducible refine go_brl hcm (fun hlt => ?_) (fun hge => ?_))
    | (with_reducible refine go_br (fun h => ?_) (fun h => ?_))
    | ((with_reducible apply go_ret_val hT); (· (cbv; try rfl)); (· (cbv; try rfl)))
    | ((with_reducible apply go_fin_val hT); (· (cbv; try rfl)); (· (cbv; try rfl)))
    | ((with_reducible apply go_draw); (· rfl); (· kernel_rfl); (· kernel_rfl))
    | ((with_reducible apply go_drawE); (· kernel_rfl))
    | (with_reducible refine go_fork ?_)
    | (with_reducible refine fork_cons ?_ ?_)
    | (with_reducible exact fork_nil)
    | ((with_reducible refine go_need ?_ ?_ ?_); (· first | omega | (simp only [Int.ofNat_eq_natCast]; omega)); (· first | omega | (simp only [Int.ofNat_eq_natCast]; omega)))
    | ((with_reducible refine go_ob ?_ ?_); (· first | trivial | (refine ⟨trivial, ?_⟩; omega) | (rw [hzpl]; refine ⟨trivial, ?_⟩; show _ + _ ≤ 1073741824; omega) | (rw [hzpl]; show _ + _ ≤ 1073741824; omega)))
    | ((with_reducible apply go_ret_rows hT); (· (cbv; try rfl)); (· (cbv; try rfl)); (· (cbv; (try simp only [true_and, and_true]); (try ((repeat' apply And.intro) <;> (first | trivial | rfl | decide  | ((rw [a0]; rfl)) | ((rw [a2 i (g1 i (by assumption) (by assumption) (by assumption))]; done)) | ((rw [hg', a1 i (by have h1 := of_decide_eq_true (show decide ((g i).k = 2) = true by assumption); omega), har, tb _ _ (g2 i (by assumption) (by assumption)).1]; done)) | ((rw [hg', a1 i (by have h1 := of_decide_eq_true (show decide ((g i).k = 3) = true by assumption); omega), har, tb _ _ (g3 i (by assumption) (by assumption)).1]; done))))))); (· (cbv; (try simp only [true_and, and_true]); (try ((repeat' apply And.intro) <;> (first | trivial | rfl | exact RowLe.rfl' _  | ((rw [a0]; rfl)) | ((rw [a2 i (g1 i (by assumption) (by assumption) (by assumption))]; done)) | ((rw [hg', a1 i (by have h1 := of_decide_eq_true (show decide ((g i).k = 2) = true by assumption); omega), har, tb _ _ (g2 i (by assumption) (by assumption)).1]; done)) | ((rw [hg', a1 i (by have h1 := of_decide_eq_true (show decide ((g i).k = 3) = true by assumption); omega), har, tb _ _ (g3 i (by assumption) (by assumption)).1]; done))))))); (· rfl))
    | ((with_reducible apply go_fin_rows hT); (· (cbv; try rfl)); (· (cbv; try rfl)); (· (cbv; (try simp only [true_and, and_true]); (try ((repeat' apply And.intro) <;> (first | trivial | rfl | decide  | ((rw [a0]; rfl)) | ((rw [a2 i (g1 i (by assumption) (by assumption) (by assumption))]; done)) | ((rw [hg', a1 i (by have h1 := of_decide_eq_true (show decide ((g i).k = 2) = true by assumption); omega), har, tb _ _ (g2 i (by assumption) (by assumption)).1]; done)) | ((rw [hg', a1 i (by have h1 := of_decide_eq_true (show decide ((g i).k = 3) = true by assumption); omega), har, tb _ _ (g3 i (by assumption) (by assumption)).1]; done))))))); (· (cbv; (try simp only [true_and, and_true]); (try ((repeat' apply And.intro) <;> (first | trivial | rfl | exact RowLe.rfl' _  | ((rw [a0]; rfl)) | ((rw [a2 i (g1 i (by assumption) (by assumption) (by assumption))]; done)) | ((rw [hg', a1 i (by have h1 := of_decide_eq_true (show decide ((g i).k = 2) = true by assumption); omega), har, tb _ _ (g2 i (by assumption) (by assumption)).1]; done)) | ((rw [hg', a1 i (by have h1 := of_decide_eq_true (show decide ((g i).k = 3) = true by assumption); omega), har, tb _ _ (g3 i (by assumption) (by assumption)).1]; done))))))); (· rfl))
    | ((with_reducible apply go_inline (f := 59) (hf := Try.func59) (hr := Try.results59) (hcall := Try.call59)); (· rfl); (· (cbv; try rfl)))
    | ((with_reducible apply go_inline (f := 58) (hf := Try.func58) (hr := Try.results58) (hcall := Try.call58)); (· rfl); (· (cbv; try rfl)))
    | ((with_reducible refine go_loopk (σ := {i : Nat // i ≤ n}) [8, 9, 10, 11, 12, 13, 14, 15, 16, 17, 18, 19, 20, 21, 22, 23, 24, 25, 26, 27, 28] (fun x => [(5, .pt (.one (.int .i64 (.ofNat x.1))))]) (fun x => [(2, arrC (acc x.1))]) (fun x => []) (fun x => n - x.1) ⟨0, by omega⟩ ?_ ?_ ?_ ?_); (· (refine le_mk ?_ ?_ ?_ ?_ <;> (cbv; (try simp only [true_and, and_true]); (try ((repeat' apply And.intro) <;> (first | trivial | rfl | exact RowLe.rfl' _ | (rw [wrap_nat har _ (by omega)]) | ((rw [a0]; rfl)) | ((rw [a2 i (g1 i (by assumption) (by assumption) (by assumption))]; done)) | ((rw [hg', a1 i (by have h1 := of_decide_eq_true (show decide ((g i).k = 2) = true by assumption); omega), har, tb _ _ (g2 i (by assumption) (by assumption)).1]; done)) | ((rw [hg', a1 i (by have h1 := of_decide_eq_true (show decide ((g i).k = 3) = true by assumption); omega), har, tb _ _ (g3 i (by assumption) (by assumption)).1]; done)))))))); (· (cbv; try rfl)); (· simp); (rintro ⟨i, hi⟩ mm hmm))
    | ((with_reducible refine go_stop ⟨i + 1, by omega⟩ ?_ ?_ ?_ ?_); (· exact Nat.lt_of_lt_of_eq (show n - (i + 1) < n - i from by omega) (Eq.symm (by assumption))); (· (refine le_mk ?_ ?_ ?_ ?_ <;> (cbv; (try simp only [true_and, and_true]); (try ((repeat' apply And.intro) <;> (first | trivial | rfl | exact RowLe.rfl' _ | (rw [wrap_nat har _ (by omega)]) | ((rw [a0]; rfl)) | ((rw [a2 i (g1 i (by assumption) (by assumption) (by assumption))]; done)) | ((rw [hg', a1 i (by have h1 := of_decide_eq_true (show decide ((g i).k = 2) = true by assumption); omega), har, tb _ _ (g2 i (by assumption) (by assumption)).1]; done)) | ((rw [hg', a1 i (by have h1 := of_decide_eq_true (show decide ((g i).k = 3) = true by assumption); omega), har, tb _ _ (g3 i (by assumption) (by assumption)).1]; done)))))))); (· (cbv; try rfl)); (· simp))
    | (((with_reducible apply go_need); (· first | exact (g2 i (by assumption) (by assumption)).1 | exact (g3 i (by assumption) (by assumption)).1 | exact (d4 (by assumption)).1); (· first | exact (g2 i (by assumption) (by assumption)).2 | exact (g3 i (by assumption) (by assumption)).2 | exact (d4 (by assumption)).2)))
    | (((with_reducible apply go_getC); (· exact off2 _); (· first | exact toNat16 (g2 i (by assumption) (by assumption)) | exact toNat16 (g3 i (by assumption) (by assumption)) | exact toNat16 (d4 (by assumption)))))
    | (((with_reducible apply go_putC); (· exact off2 _); (· first | exact toNat16 (g2 i (by assumption) (by assumption)) | exact toNat16 (g3 i (by assumption) (by assumption)) | exact toNat16 (d4 (by assumption))); (intro g' hg')))
    )
  all_goals (have hin : i = n := by omega)
  all_goals subst hin
  all_goals (first | show arrI g' = arrI y | show arrI (acc i) = arrI y)
  all_goals (refine congrArg arrI ?_)
  · rw [y4 (of_decide_eq_true (by assumption)), hg', har, tb _ _ (d4 (by assumption)).1]
  · have h4 : k ≠ 4 := of_decide_eq_false (by assumption)
    rw [y1 h4 q, n4 h4, a0]

end Go.Proofs.Ytbimggeapaaliaa
