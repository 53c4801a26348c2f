/- Layers 15 and 19 of the reference: the statement of a point by its number; the points of loans. No condition. -/
import Derived.Test.YtbimggeapaaliaaSwE
namespace Go.Proofs.Ytbimggeapaaliaa
open Go.RowKit
set_option linter.unusedVariables false
set_option linter.unusedSimpArgs false

/-- Block and index of the point with a number. -/
def pbN (F : GFun) (n : Nat) : Nat := ((allPts F.sn F.bn).getD n (0, 0)).1
def piN (F : GFun) (n : Nat) : Nat := ((allPts F.sn F.bn).getD n (0, 0)).2
theorem allPts_num (sn : Nat → Nat) : ∀ bn n, n < stN sn bn → n = stN sn ((allPts sn bn).getD n (0, 0)).1 + ((allPts sn bn).getD n (0, 0)).2
  | 0, n, h => by simp [stN] at h
  | bn + 1, n, h => by
    have hl := allPts_len sn bn
    simp only [stN] at h
    by_cases g : n < stN sn bn
    · have := allPts_num sn bn n g
      have e : (allPts sn (bn + 1)).getD n (0, 0) = (allPts sn bn).getD n (0, 0) := by
        simp only [allPts, List.getD]
        rw [List.getElem?_append_left (by omega)]
      rw [e]; exact this
    · have e : (allPts sn (bn + 1)).getD n (0, 0) = (bn, n - stN sn bn) := by
        simp only [allPts, List.getD]
        rw [List.getElem?_append_right (by omega), hl]
        simp only [blkPts, List.getElem?_map]
        rw [List.getElem?_range (by omega)]
        rfl
      rw [e]; simp only; omega
theorem num_pt {F : GFun} {n : Nat} (h : n < stN F.sn F.bn) : pbN F n < F.bn ∧ piN F n ≤ F.sn (pbN F n) ∧ n = stN F.sn (pbN F n) + piN F n := by
  have hl : n < (allPts F.sn F.bn).length := by rw [allPts_len]; exact h
  have hm := allPts_mem F.sn F.bn ((allPts F.sn F.bn).getD n (0, 0)) (by
    simp only [List.getD, List.getElem?_eq_getElem hl, Option.getD_some]
    exact List.getElem_mem hl)
  exact ⟨hm.1, hm.2, allPts_num F.sn F.bn n h⟩
/-- The statement of a point, and whether there is one. -/
def isAt (F : GFun) (n : Nat) : Bool := decide (piN F n < F.sn (pbN F n))
def stAt (F : GFun) (n : Nat) : GStmt := if piN F n < F.sn (pbN F n) then F.s (pbN F n) (piN F n) else .zero
theorem stmtN (F : GFun) (w : World) (hF : F.At w) (hS : F.Sm) (n : Nat) (hn : n < stN F.sn F.bn) :
    Calls Try.prog 11 #[F.val, .int .i64 (.ofNat n)] w (Ret w (.tuple #[(stAt F n).val, .bool (isAt F n)])) := by
  obtain ⟨h1, h2, h3⟩ := num_pt hn
  by_cases g : piN F n < F.sn (pbN F n)
  · have := stmtC F w hF hS (pbN F n) (piN F n) h1 g
    rw [← h3] at this
    simp only [stAt, isAt, if_pos g, decide_eq_true g]
    exact this
  · have e : piN F n = F.sn (pbN F n) := by omega
    have := stmtC_end F w hF hS (pbN F n) h1
    rw [← e, ← h3] at this
    simp only [stAt, isAt, if_neg g, decide_eq_false g]
    exact this

/-- The points with a borrow, among the first n. -/
def loanPts (F : GFun) : Nat → List Nat
  | 0 => []
  | n + 1 => loanPts F n ++ if isAt F n = true ∧ (stAt F n).k = 1 ∧ (stAt F n).r.k = 4 then [n] else []
theorem loanPts_len (F : GFun) : ∀ n, (loanPts F n).length ≤ n
  | 0 => Nat.le_refl _
  | n + 1 => by
    have := loanPts_len F n
    simp only [loanPts, List.length_append]
    split <;> simp <;> omega

set_option maxRecDepth 100000 in
set_option maxHeartbeats 4000000 in
theorem loanPtsC (F : GFun) (w : World) (hF : F.At w) (hS : F.Sm) :
    Calls Try.prog 9 #[F.val] w (RetR w (funX F) (.pt (.one (.rs 0))) [natR (loanPts F (stN F.sn F.bn))]) := by
  have h1 (wc : World) (hk : KB ⟨w, []⟩ wc) := sizeC F wc (hF.later hk) hS
  have h2 (wc : World) (hk : KB ⟨w, []⟩ wc) := stmtN F wc (hF.later hk) hS
  have hN9 : stN F.sn F.bn ≤ 930 := by
    have := stN_le hS.s F.bn (Nat.le_refl _)
    have := hS.b
    omega
  obtain ⟨N, hN⟩ : ∃ N, N = stN F.sn F.bn := ⟨_, rfl⟩
  obtain ⟨X, hXX⟩ : ∃ f : Nat → List Nat, f = loanPts F := ⟨_, rfl⟩
  obtain ⟨ia, hia⟩ : ∃ f : Nat → Bool, f = isAt F := ⟨_, rfl⟩
  obtain ⟨sa, hsa⟩ : ∃ f : Nat → GStmt, f = stAt F := ⟨_, rfl⟩
  obtain ⟨ln_, hln⟩ : ∃ f : List Nat → Nat, f = List.length := ⟨_, rfl⟩
  obtain ⟨gt_, hgt⟩ : ∃ f : List Nat → Nat → Nat, f = fun L j => L.getD j 0 := ⟨_, rfl⟩
  have hRc : ∀ L, natR L = ⟨ln_ L, 1, fun j => [.int .i64 (.ofNat (gt_ L j))]⟩ := fun L => by rw [natR, hln, hgt]
  rw [← hN, ← hXX, hRc]
  rw [← hN] at hN9
  simp only [← hN, ← hia, ← hsa] at h1 h2
  have x0 : X 0 = [] := by rw [hXX]; rfl
  have x1 : ∀ n, ia n = true → (sa n).k = 1 → (sa n).r.k = 4 → X (n + 1) = X n ++ [n] := fun n g1 g2 g3 => by rw [hXX, hia, hsa] at *; simp only [loanPts]; rw [if_pos ⟨g1, g2, g3⟩]
  have x2 : ∀ n, ¬ (ia n = true ∧ (sa n).k = 1 ∧ (sa n).r.k = 4) → X (n + 1) = X n := fun n g => by rw [hXX, hia, hsa] at *; simp only [loanPts]; rw [if_neg g]; simp
  have xl : ∀ n, ln_ (X n) ≤ n := fun n => by rw [hln, hXX]; exact loanPts_len F n
  have hgx : ∀ n j, j < ln_ (X n) → ∀ b, gt_ (X n ++ b) j = gt_ (X n) j := fun n j hj b => by
    rw [hgt]; rw [hln] at hj
    simp [List.getD, List.getElem?_append_left hj]
  have hgy : ∀ n, gt_ (X n ++ [n]) (ln_ (X n)) = n := fun n => by
    rw [hgt, hln]
    simp [List.getD]
  clear hN hXX hia hsa hRc hS
  obtain ⟨pa, un, lA, ln, lc, lk, lt, bA, bn, bc, sA, sn, sc, s, jA, jn, jc, ja, jk, jo, jf, jx, je, jd⟩ := F
  obtain ⟨hX, hl, hb, hs, hj⟩ := hF
  simp only at hl hb hs hj
  refine go_start (args := [.pt (.agg (GFun.dat _))]) (c := (funX _)) Try.func9 rfl hX rfl rfl ?_
  obtain ⟨nd, hnd⟩ : ∃ f : Bool → Bool → Bool, f = and := ⟨_, rfl⟩
  obtain ⟨nt, hnt⟩ : ∃ f : Bool → Bool, f = not := ⟨_, rfl⟩
  obtain ⟨ar, har⟩ : ∃ f : BinOp → IntKind → Int → Int → Int, f = rAr := ⟨_, rfl⟩
  obtain ⟨cm, hcm⟩ : ∃ f : BinOp → Int → Int → Bool, f = rCm := ⟨_, rfl⟩
  obtain ⟨mx, hmx⟩ : ∃ f : Int → Int → Int, f = rMx := ⟨_, rfl⟩
  obtain ⟨mn, hmn⟩ : ∃ f : Int → Int → Int, f = rMn := ⟨_, rfl⟩
  have ar01 : ar .add .i64 0 1 = 1 := by rw [har]; decide
  have ar12 : ar .add .i64 1 1 = 2 := by rw [har]; decide
  obtain ⟨zpl, hzpl⟩ : ∃ f : Nat → Nat → Nat, f = fun x y => x + y := ⟨_, rfl⟩
  obtain ⟨zjn, hzjn⟩ : ∃ f : Nat → (Nat → List SC) → (Nat → List SC) → Nat → List SC, f = rJn := ⟨_, rfl⟩
  obtain ⟨zup, hzup⟩ : ∃ f : (Nat → List SC) → Nat → Nat → List SC → Nat → List SC, f = rUp := ⟨_, rfl⟩
  obtain ⟨zmi, hzmi⟩ : ∃ f : Nat → Nat → Nat, f = fun x y => x - y := ⟨_, rfl⟩
  obtain ⟨zdp, hzdp⟩ : ∃ f : Nat → (Nat → List SC) → Nat → List SC, f = rDp := ⟨_, rfl⟩
  have hT := T0_ok hnd hnt har hcm hmx hmn hzpl hzjn hzup hzmi hzdp
  have hj1 : ∀ n, ia n = true → (sa n).k = 1 → (sa n).r.k = 4 → RowLe ⟨zpl (ln_ (X n)) 1, 1, zjn (ln_ (X n)) (fun j => [.int .i64 (.ofNat (gt_ (X n) j))]) (fun j => cutL [.int .i64 (.ofNat n)] (0 + j * 1) 1)⟩ ⟨ln_ (X (n + 1)), 1, fun j => [.int .i64 (.ofNat (gt_ (X (n + 1)) j))]⟩ := fun n g1 g2 g3 => by
    rw [x1 n g1 g2 g3]
    refine rowLe_snoc hzpl hzjn (by rw [hln]; simp) (fun j hj => ?_) ?_
    · show leCL [.int .i64 (.ofNat (gt_ (X n) j))] [.int .i64 (.ofNat (gt_ (X n ++ [n]) j))]
      rw [hgx n j hj]; exact leCL_rfl _
    · show leCL [.int .i64 (.ofNat n)] [.int .i64 (.ofNat (gt_ (X n ++ [n]) (ln_ (X n))))]
      rw [hgy]; exact leCL_rfl _
  repeat' (first
    | ((with_reducible apply go_ev hT 400); (· (cbv; try rfl)); (fail_if_success with_reducible apply stuck_id))
    | ((with_reducible refine go_brt ?_ ?_); (· first | rfl | assumption | (rw [hcm]; decide)))
    | ((with_reducible refine go_brf ?_ ?_); (· first | rfl | assumption | (rw [hcm]; decide)))
    | ((with_reducible refine go_brnt hnt ?_ ?_); (· first | rfl | assumption))
    | ((with_reducible refine go_brnf hnt ?_ ?_); (· first | rfl | assumption))
    | (with_reducible refine go_brn hnt (fun h => ?_) (fun h => ?_))
    | (with_reducible refine go_brl hcm (fun hlt => ?_) (fun hge => ?_))
    | (with_reducible refine go_br (fun h => ?_) (fun h => ?_))
    | ((with_reducible apply go_ret_val hT); (· (cbv; try rfl)); (· (cbv; try rfl)))
    | ((with_reducible apply go_fin_val hT); (· (cbv; try rfl)); (· (cbv; try rfl)))
    | ((with_reducible apply go_draw); (· rfl); (· kernel_rfl); (· kernel_rfl))
    | ((with_reducible apply go_drawE); (· kernel_rfl))
    | (with_reducible refine go_fork ?_)
    | (with_reducible refine fork_cons ?_ ?_)
    | (with_reducible exact fork_nil)
    | ((with_reducible refine go_need ?_ ?_ ?_); (· first | omega | (simp only [Int.ofNat_eq_natCast]; omega)); (· first | omega | (simp only [Int.ofNat_eq_natCast]; omega)))
    | ((with_reducible refine go_ob ?_ ?_); (· first | trivial | (refine ⟨trivial, ?_⟩; omega) | (rw [hzpl]; refine ⟨trivial, ?_⟩; show _ + _ ≤ 1073741824; omega) | (rw [hzpl]; show _ + _ ≤ 1073741824; omega) | ((rw [hzpl]; exact Nat.le_trans (Nat.add_le_add_right (xl n) 1) (show n + 1 ≤ 1073741824 from by omega)))))
    | ((with_reducible apply go_ret_rows hT); (· (cbv; try rfl)); (· (cbv; try rfl)); (· (cbv; (try simp only [true_and, and_true]); (try ((repeat' apply And.intro) <;> (first | trivial | rfl | decide  | ((refine rowLe_of (by rw [x0, hln]; rfl) (fun j hj => absurd hj (Nat.not_lt_zero _)))) | ((exact hj1 n (by assumption) (of_decide_eq_true (by assumption)) (of_decide_eq_true (by assumption)))) | ((rw [x2 n (fun g => Bool.noConfusion (g.1.symm.trans (by assumption)))]; exact RowLe.rfl' _)) | ((rw [x2 n (fun g => of_decide_eq_false (by assumption) g.2.1)]; exact RowLe.rfl' _)) | ((rw [x2 n (fun g => of_decide_eq_false (by assumption) g.2.2)]; exact RowLe.rfl' _)) | ((have haN : n = N := (by omega); subst haN; exact RowLe.rfl' _))))))); (· (cbv; (try simp only [true_and, and_true]); (try ((repeat' apply And.intro) <;> (first | trivial | rfl | exact RowLe.rfl' _  | ((refine rowLe_of (by rw [x0, hln]; rfl) (fun j hj => absurd hj (Nat.not_lt_zero _)))) | ((exact hj1 n (by assumption) (of_decide_eq_true (by assumption)) (of_decide_eq_true (by assumption)))) | ((rw [x2 n (fun g => Bool.noConfusion (g.1.symm.trans (by assumption)))]; exact RowLe.rfl' _)) | ((rw [x2 n (fun g => of_decide_eq_false (by assumption) g.2.1)]; exact RowLe.rfl' _)) | ((rw [x2 n (fun g => of_decide_eq_false (by assumption) g.2.2)]; exact RowLe.rfl' _)) | ((have haN : n = N := (by omega); subst haN; exact RowLe.rfl' _))))))); (· rfl))
    | ((with_reducible apply go_fin_rows hT); (· (cbv; try rfl)); (· (cbv; try rfl)); (· (cbv; (try simp only [true_and, and_true]); (try ((repeat' apply And.intro) <;> (first | trivial | rfl | decide  | ((refine rowLe_of (by rw [x0, hln]; rfl) (fun j hj => absurd hj (Nat.not_lt_zero _)))) | ((exact hj1 n (by assumption) (of_decide_eq_true (by assumption)) (of_decide_eq_true (by assumption)))) | ((rw [x2 n (fun g => Bool.noConfusion (g.1.symm.trans (by assumption)))]; exact RowLe.rfl' _)) | ((rw [x2 n (fun g => of_decide_eq_false (by assumption) g.2.1)]; exact RowLe.rfl' _)) | ((rw [x2 n (fun g => of_decide_eq_false (by assumption) g.2.2)]; exact RowLe.rfl' _)) | ((have haN : n = N := (by omega); subst haN; exact RowLe.rfl' _))))))); (· (cbv; (try simp only [true_and, and_true]); (try ((repeat' apply And.intro) <;> (first | trivial | rfl | exact RowLe.rfl' _  | ((refine rowLe_of (by rw [x0, hln]; rfl) (fun j hj => absurd hj (Nat.not_lt_zero _)))) | ((exact hj1 n (by assumption) (of_decide_eq_true (by assumption)) (of_decide_eq_true (by assumption)))) | ((rw [x2 n (fun g => Bool.noConfusion (g.1.symm.trans (by assumption)))]; exact RowLe.rfl' _)) | ((rw [x2 n (fun g => of_decide_eq_false (by assumption) g.2.1)]; exact RowLe.rfl' _)) | ((rw [x2 n (fun g => of_decide_eq_false (by assumption) g.2.2)]; exact RowLe.rfl' _)) | ((have haN : n = N := (by omega); subst haN; exact RowLe.rfl' _))))))); (· rfl))
    | ((with_reducible apply go_call (f := 10) (hf := Try.call10)); (· (cbv; try rfl)); (· intro wc hbc hxc; exact h1 wc hbc))
    | ((with_reducible apply go_callq (f := 10) (hf := Try.call10)); (· (cbv; try rfl)); (· intro wc hbc hxc; exact h1 wc hbc))
    | ((with_reducible apply go_call (f := 11) (hf := Try.call11)); (· (cbv; try rfl)); (· intro wc hbc hxc; exact h2 wc hbc n (by assumption)))
    | ((with_reducible apply go_callq (f := 11) (hf := Try.call11)); (· (cbv; try rfl)); (· intro wc hbc hxc; exact h2 wc hbc n (by assumption)))
    | ((with_reducible apply go_row 3 1); (· (cbv; try rfl)))
    | ((with_reducible refine go_loopk (σ := {n : Nat // n ≤ N}) [5, 6, 7, 8, 9, 10, 11, 12, 13, 14, 15, 16, 17, 18, 19, 20, 21, 22, 23, 24, 25, 26, 27, 28, 29, 30, 31, 32, 33, 34] (fun x => [(4, .pt (.one (.int .i64 (.ofNat x.1))))]) (fun x => []) (fun x => [(0, ⟨ln_ (X x.1), 1, fun j => [.int .i64 (.ofNat (gt_ (X x.1) j))]⟩)]) (fun x => N - x.1) ⟨0, by omega⟩ ?_ ?_ ?_ ?_); (· (refine le_mk ?_ ?_ ?_ ?_ <;> (cbv; (try simp only [true_and, and_true]); (try ((repeat' apply And.intro) <;> (first | trivial | rfl | exact RowLe.rfl' _ | (rw [wrap_nat har _ (by omega)]) | ((refine rowLe_of (by rw [x0, hln]; rfl) (fun j hj => absurd hj (Nat.not_lt_zero _)))) | ((exact hj1 n (by assumption) (of_decide_eq_true (by assumption)) (of_decide_eq_true (by assumption)))) | ((rw [x2 n (fun g => Bool.noConfusion (g.1.symm.trans (by assumption)))]; exact RowLe.rfl' _)) | ((rw [x2 n (fun g => of_decide_eq_false (by assumption) g.2.1)]; exact RowLe.rfl' _)) | ((rw [x2 n (fun g => of_decide_eq_false (by assumption) g.2.2)]; exact RowLe.rfl' _)) | ((have haN : n = N := (by omega); subst haN; exact RowLe.rfl' _)))))))); (· (cbv; try rfl)); (· simp); (rintro ⟨n, hn⟩ mm hmm))
    | ((with_reducible refine go_stop ⟨n + 1, by omega⟩ ?_ ?_ ?_ ?_); (· exact Nat.lt_of_lt_of_eq (show N - (n + 1) < N - n from by omega) (Eq.symm (by assumption))); (· (refine le_mk ?_ ?_ ?_ ?_ <;> (cbv; (try simp only [true_and, and_true]); (try ((repeat' apply And.intro) <;> (first | trivial | rfl | exact RowLe.rfl' _ | (rw [wrap_nat har _ (by omega)]) | ((refine rowLe_of (by rw [x0, hln]; rfl) (fun j hj => absurd hj (Nat.not_lt_zero _)))) | ((exact hj1 n (by assumption) (of_decide_eq_true (by assumption)) (of_decide_eq_true (by assumption)))) | ((rw [x2 n (fun g => Bool.noConfusion (g.1.symm.trans (by assumption)))]; exact RowLe.rfl' _)) | ((rw [x2 n (fun g => of_decide_eq_false (by assumption) g.2.1)]; exact RowLe.rfl' _)) | ((rw [x2 n (fun g => of_decide_eq_false (by assumption) g.2.2)]; exact RowLe.rfl' _)) | ((have haN : n = N := (by omega); subst haN; exact RowLe.rfl' _)))))))); (· (cbv; try rfl)); (· simp))
    )
  all_goals trace_state

end Go.Proofs.Ytbimggeapaaliaa
