/- How large a function is (layers 14 and 15 of the reference); what a row gives, seen from elsewhere. No condition. -/
import Derived.Test.YtbimggeapaaliaaSvB
import Derived.Test.YtbimggeapaaliaaSxN
namespace Go.Proofs.Ytbimggeapaaliaa
open Go.RowKit
set_option linter.unusedVariables false
set_option linter.unusedSimpArgs false

def gsumI (sn : Nat → Nat) : Nat → Int
  | 0 => 0
  | i + 1 => rAr .add .i64 (gsumI sn i) (rAr .add .i64 (.ofNat (sn i)) 1)
def greatB (F : GFun) : Bool := decide (120 < gsumI F.sn (min F.bn 31)) || decide (30 < F.bn) || decide (30 < F.ln)
def gfB (F : GFun) : Bool := decide (30 < F.ln) || decide (30 < F.bn) || !(allN F.bn fun b => decide (F.sn b ≤ 30) && decide (F.jn b ≤ 12))
theorem gf_small {F : GFun} (h : gfB F = false) : F.Sm := by
  simp only [gfB, Bool.or_eq_false_iff, decide_eq_false_iff_not, Bool.not_eq_false'] at h
  have h1 := allN_iff.1 h.2
  simp only [Bool.and_eq_true, decide_eq_true_eq] at h1
  exact ⟨fun b hb => (h1 b hb).1, by omega, by omega, fun b hb => (h1 b hb).2⟩

theorem gtr_f {cm : BinOp → Int → Int → Bool} (hcm : cm = rCm) {x m : Nat} (h : cm .gtr (.ofNat x) (@OfNat.ofNat Int m _) = false) : decide (x ≤ m) = true := gtr_lit (hcm ▸ h)
theorem gtr_t {cm : BinOp → Int → Int → Bool} (hcm : cm = rCm) {x m : Nat} (h : cm .gtr (.ofNat x) (@OfNat.ofNat Int m _) = true) : decide (x ≤ m) = false := gtr_lit (hcm ▸ h)
set_option maxRecDepth 100000 in
set_option maxHeartbeats 4000000 in
theorem greatC (F : GFun) (w : World) (hF : F.At w) :
    Calls Try.prog 20 #[F.val] w (Ret w (.bool (greatB F))) := by
  obtain ⟨z0, hz0⟩ : ∃ z, z = greatB F := ⟨_, rfl⟩
  obtain ⟨g, hg⟩ : ∃ g, g = gsumI F.sn := ⟨_, rfl⟩
  rw [← hz0]
  rw [greatB, ← hg] at hz0
  have g0 : g 0 = 0 := by rw [hg]; rfl
  have g1 : ∀ i, g (i + 1) = rAr .add .i64 (g i) (rAr .add .i64 (.ofNat (F.sn i)) 1) := fun i => by rw [hg]; rfl
  clear hg
  obtain ⟨pa, un, lA, ln, lc, lk, lt, bA, bn, bc, sA, sn, sc, s, jA, jn, jc, ja, jk, jo, jf, jx, je, jd⟩ := F
  obtain ⟨hX, hl, hb, hs, hj⟩ := hF
  simp only at hl hb hs hj
  simp only at hz0 g1
  refine go_start (args := [.pt (.agg (GFun.dat _))]) (c := (funX _)) Try.func20 rfl hX rfl rfl ?_
  obtain ⟨nd, hnd⟩ : ∃ f : Bool → Bool → Bool, f = and := ⟨_, rfl⟩
  obtain ⟨nt, hnt⟩ : ∃ f : Bool → Bool, f = not := ⟨_, rfl⟩
  obtain ⟨ar, har⟩ : ∃ f : BinOp → IntKind → Int → Int → Int, f = rAr := ⟨_, rfl⟩
  obtain ⟨cm, hcm⟩ : ∃ f : BinOp → Int → Int → Bool, f = rCm := ⟨_, rfl⟩
  obtain ⟨mx, hmx⟩ : ∃ f : Int → Int → Int, f = rMx := ⟨_, rfl⟩
  obtain ⟨mn, hmn⟩ : ∃ f : Int → Int → Int, f = rMn := ⟨_, rfl⟩
  have ar01 : ar .add .i64 0 1 = 1 := by rw [har]; decide
  have ar12 : ar .add .i64 1 1 = 2 := by rw [har]; decide
  obtain ⟨zpl, hzpl⟩ : ∃ f : Nat → Nat → Nat, f = fun x y => x + y := ⟨_, rfl⟩
  obtain ⟨zjn, hzjn⟩ : ∃ f : Nat → (Nat → List SC) → (Nat → List SC) → Nat → List SC, f = rJn := ⟨_, rfl⟩
  obtain ⟨zup, hzup⟩ : ∃ f : (Nat → List SC) → Nat → Nat → List SC → Nat → List SC, f = rUp := ⟨_, rfl⟩
  obtain ⟨zmi, hzmi⟩ : ∃ f : Nat → Nat → Nat, f = fun x y => x - y := ⟨_, rfl⟩
  obtain ⟨zdp, hzdp⟩ : ∃ f : Nat → (Nat → List SC) → Nat → List SC, f = rDp := ⟨_, rfl⟩
  have hT := T0_ok hnd hnt har hcm hmx hmn hzpl hzjn hzup hzmi hzdp
  have h30 : ∀ t : Nat, cm .leq (.ofNat t) 30 = true → t ≤ 30 := fun t h => by
    rw [hcm] at h
    have := of_decide_eq_true (show decide ((t : Int) ≤ 30) = true from h)
    omega
  have n30 : ∀ t : Nat, cm .leq (.ofNat t) 30 = false → 30 < t := fun t h => by
    rw [hcm] at h
    have := of_decide_eq_false (show decide ((t : Int) ≤ 30) = false from h)
    omega
  repeat' (first
    | ((with_reducible apply go_ev hT 400); (· (cbv; try rfl)); (fail_if_success with_reducible apply stuck_id))
    | ((with_reducible refine go_brt ?_ ?_); (· first | rfl | assumption | (rw [hcm]; decide)))
    | ((with_reducible refine go_brf ?_ ?_); (· first | rfl | assumption | (rw [hcm]; decide)))
    | ((with_reducible refine go_brnt hnt ?_ ?_); (· first | rfl | assumption))
    | ((with_reducible refine go_brnf hnt ?_ ?_); (· first | rfl | assumption))
    | (with_reducible refine go_brn hnt (fun h => ?_) (fun h => ?_))
    | (with_reducible refine go_brl hcm (fun hlt => ?_) (fun hge => ?_))
    | (with_reducible refine go_br (fun h => ?_) (fun h => ?_))
    | ((with_reducible apply go_ret_val hT); (· (cbv; try rfl)); (· (cbv; try rfl)))
    | ((with_reducible apply go_fin_val hT); (· (cbv; try rfl)); (· (cbv; try rfl)))
    | ((with_reducible apply go_draw); (· rfl); (· kernel_rfl); (· kernel_rfl))
    | ((with_reducible apply go_drawE); (· kernel_rfl))
    | (with_reducible refine go_fork ?_)
    | (with_reducible refine fork_cons ?_ ?_)
    | (with_reducible exact fork_nil)
    | ((with_reducible refine go_need ?_ ?_ ?_); (· first | omega | (simp only [Int.ofNat_eq_natCast]; omega)); (· first | omega | (simp only [Int.ofNat_eq_natCast]; omega)))
    | ((with_reducible refine go_ob ?_ ?_); (· first | trivial | (refine ⟨trivial, ?_⟩; omega) | (rw [hzpl]; refine ⟨trivial, ?_⟩; show _ + _ ≤ 1073741824; omega) | (rw [hzpl]; show _ + _ ≤ 1073741824; omega)))
    | ((with_reducible apply go_ret_rows hT); (· (cbv; try rfl)); (· (cbv; try rfl)); (· (cbv; (try simp only [true_and, and_true]); (try ((repeat' apply And.intro) <;> (first | trivial | rfl | decide  | ((rw [g0]; done)) | ((rw [g1, har]; done))))))); (· (cbv; (try simp only [true_and, and_true]); (try ((repeat' apply And.intro) <;> (first | trivial | rfl | exact RowLe.rfl' _  | ((rw [g0]; done)) | ((rw [g1, har]; done))))))); (· rfl))
    | ((with_reducible apply go_fin_rows hT); (· (cbv; try rfl)); (· (cbv; try rfl)); (· (cbv; (try simp only [true_and, and_true]); (try ((repeat' apply And.intro) <;> (first | trivial | rfl | decide  | ((rw [g0]; done)) | ((rw [g1, har]; done))))))); (· (cbv; (try simp only [true_and, and_true]); (try ((repeat' apply And.intro) <;> (first | trivial | rfl | exact RowLe.rfl' _  | ((rw [g0]; done)) | ((rw [g1, har]; done))))))); (· rfl))
    | ((with_reducible refine go_loopk (σ := {i : Nat // i ≤ bn ∧ i ≤ 31}) [5, 6, 7, 8, 9, 10, 11, 12, 13, 14, 15, 16, 17, 18, 19, 20, 21, 22, 23, 24, 25] (fun x => [(3, .pt (.one (.int .i64 (g x.1)))), (4, .pt (.one (.int .i64 (.ofNat x.1))))]) (fun x => []) (fun x => []) (fun x => bn - x.1) ⟨0, by omega, by omega⟩ ?_ ?_ ?_ ?_); (· (refine le_mk ?_ ?_ ?_ ?_ <;> (cbv; (try simp only [true_and, and_true]); (try ((repeat' apply And.intro) <;> (first | trivial | rfl | exact RowLe.rfl' _ | (rw [wrap_nat har _ (by omega)]) | ((rw [g0]; done)) | ((rw [g1, har]; done)))))))); (· (cbv; try rfl)); (· simp); (rintro ⟨i, hi, hi31⟩ mm hmm))
    | ((with_reducible refine go_stop ⟨i + 1, by omega, by have := h30 i (by assumption); omega⟩ ?_ ?_ ?_ ?_); (· exact Nat.lt_of_lt_of_eq (show bn - (i + 1) < bn - i from by omega) (Eq.symm (by assumption))); (· (refine le_mk ?_ ?_ ?_ ?_ <;> (cbv; (try simp only [true_and, and_true]); (try ((repeat' apply And.intro) <;> (first | trivial | rfl | exact RowLe.rfl' _ | (rw [wrap_nat har _ (by omega)]) | ((rw [g0]; done)) | ((rw [g1, har]; done)))))))); (· (cbv; try rfl)); (· simp))
    )
  all_goals (refine bool_eq ?_)
  all_goals (have hm : min bn 31 = i := by first | omega | (have := n30 i (by assumption); omega))
  all_goals (rw [hz0, hm]; clear hX hT hz0 h30 n30; subst hcm)
  all_goals simp only [rCm] at *
  all_goals simp only [decide_eq_true_eq, decide_eq_false_iff_not, Int.ofNat_eq_natCast] at *
  all_goals grind

set_option maxRecDepth 100000 in
set_option maxHeartbeats 4000000 in
theorem gfC (F : GFun) (w : World) (hF : F.At w) :
    Calls Try.prog 21 #[F.val] w (Ret w (.bool (gfB F))) := by
  obtain ⟨z0, hz0⟩ : ∃ z, z = gfB F := ⟨_, rfl⟩
  rw [← hz0]
  unfold gfB at hz0
  obtain ⟨pa, un, lA, ln, lc, lk, lt, bA, bn, bc, sA, sn, sc, s, jA, jn, jc, ja, jk, jo, jf, jx, je, jd⟩ := F
  obtain ⟨hX, hl, hb, hs, hj⟩ := hF
  simp only at hl hb hs hj
  simp only at hz0
  obtain ⟨ga, hga⟩ : ∃ b, b = allN bn fun b => decide (sn b ≤ 30) && decide (jn b ≤ 12) := ⟨_, rfl⟩
  rw [← hga] at hz0
  have h1 : ∀ b, b < bn → decide (sn b ≤ 30) = false ∨ decide (jn b ≤ 12) = false → ga = false := fun b hb h => hga.trans (allN_false hb (by rcases h with h | h <;> rw [h] <;> simp))
  have h2 : (∀ b, b < bn → decide (sn b ≤ 30) = true ∧ decide (jn b ≤ 12) = true) → ga = true := fun h => hga.trans (allN_iff.2 fun b hb => by rw [(h b hb).1, (h b hb).2]; rfl)
  clear hga
  refine go_start (args := [.pt (.agg (GFun.dat _))]) (c := (funX _)) Try.func21 rfl hX rfl rfl ?_
  obtain ⟨nd, hnd⟩ : ∃ f : Bool → Bool → Bool, f = and := ⟨_, rfl⟩
  obtain ⟨nt, hnt⟩ : ∃ f : Bool → Bool, f = not := ⟨_, rfl⟩
  obtain ⟨ar, har⟩ : ∃ f : BinOp → IntKind → Int → Int → Int, f = rAr := ⟨_, rfl⟩
  obtain ⟨cm, hcm⟩ : ∃ f : BinOp → Int → Int → Bool, f = rCm := ⟨_, rfl⟩
  obtain ⟨mx, hmx⟩ : ∃ f : Int → Int → Int, f = rMx := ⟨_, rfl⟩
  obtain ⟨mn, hmn⟩ : ∃ f : Int → Int → Int, f = rMn := ⟨_, rfl⟩
  have ar01 : ar .add .i64 0 1 = 1 := by rw [har]; decide
  have ar12 : ar .add .i64 1 1 = 2 := by rw [har]; decide
  obtain ⟨zpl, hzpl⟩ : ∃ f : Nat → Nat → Nat, f = fun x y => x + y := ⟨_, rfl⟩
  obtain ⟨zjn, hzjn⟩ : ∃ f : Nat → (Nat → List SC) → (Nat → List SC) → Nat → List SC, f = rJn := ⟨_, rfl⟩
  obtain ⟨zup, hzup⟩ : ∃ f : (Nat → List SC) → Nat → Nat → List SC → Nat → List SC, f = rUp := ⟨_, rfl⟩
  obtain ⟨zmi, hzmi⟩ : ∃ f : Nat → Nat → Nat, f = fun x y => x - y := ⟨_, rfl⟩
  obtain ⟨zdp, hzdp⟩ : ∃ f : Nat → (Nat → List SC) → Nat → List SC, f = rDp := ⟨_, rfl⟩
  have hT := T0_ok hnd hnt har hcm hmx hmn hzpl hzjn hzup hzmi hzdp
  repeat' (first
    | ((with_reducible apply go_ev hT 400); (· (cbv; try rfl)); (fail_if_success with_reducible apply stuck_id))
    | ((with_reducible refine go_brt ?_ ?_); (· first | rfl | assumption | (rw [hcm]; decide)))
    | ((with_reducible refine go_brf ?_ ?_); (· first | rfl | assumption | (rw [hcm]; decide)))
    | ((with_reducible refine go_brnt hnt ?_ ?_); (· first | rfl | assumption))
    | ((with_reducible refine go_brnf hnt ?_ ?_); (· first | rfl | assumption))
    | (with_reducible refine go_brn hnt (fun h => ?_) (fun h => ?_))
    | (with_reducible refine go_brl hcm (fun hlt => ?_) (fun hge => ?_))
    | (with_reducible refine go_br (fun h => ?_) (fun h => ?_))
    | ((with_reducible apply go_ret_val hT); (· (cbv; try rfl)); (· (cbv; try rfl)))
    | ((with_reducible apply go_fin_val hT); (· (cbv; try rfl)); (· (cbv; try rfl)))
    | ((with_reducible apply go_draw); (· rfl); (· kernel_rfl); (· kernel_rfl))
    | ((with_reducible apply go_drawE); (· kernel_rfl))
    | (with_reducible refine go_fork ?_)
    | (with_reducible refine fork_cons ?_ ?_)
    | (with_reducible exact fork_nil)
    | ((with_reducible refine go_need ?_ ?_ ?_); (· first | omega | (simp only [Int.ofNat_eq_natCast]; omega)); (· first | omega | (simp only [Int.ofNat_eq_natCast]; omega)))
    | ((with_reducible refine go_ob ?_ ?_); (· first | trivial | (refine ⟨trivial, ?_⟩; omega) | (rw [hzpl]; refine ⟨trivial, ?_⟩; show _ + _ ≤ 1073741824; omega) | (rw [hzpl]; show _ + _ ≤ 1073741824; omega)))
    | ((with_reducible apply go_ret_rows hT); (· (cbv; try rfl)); (· (cbv; try rfl)); (· (cbv; (try simp only [true_and, and_true]); (try ((repeat' apply And.intro) <;> (first | trivial | rfl | decide ))))); (· (cbv; (try simp only [true_and, and_true]); (try ((repeat' apply And.intro) <;> (first | trivial | rfl | exact RowLe.rfl' _ ))))); (· rfl))
    | ((with_reducible apply go_fin_rows hT); (· (cbv; try rfl)); (· (cbv; try rfl)); (· (cbv; (try simp only [true_and, and_true]); (try ((repeat' apply And.intro) <;> (first | trivial | rfl | decide ))))); (· (cbv; (try simp only [true_and, and_true]); (try ((repeat' apply And.intro) <;> (first | trivial | rfl | exact RowLe.rfl' _ ))))); (· rfl))
    | ((with_reducible apply go_inline (f := 30) (hf := Try.func30) (hr := Try.results30) (hcall := Try.call30)); (· rfl); (· (cbv; try rfl)))
    | ((with_reducible refine go_loopk (σ := {b : Nat // b ≤ bn ∧ ∀ j, j < b → decide (sn j ≤ 30) = true ∧ decide (jn j ≤ 12) = true}) [2, 14, 15, 16, 17, 18, 19, 20, 21, 22, 23, 24, 25, 26, 27, 28, 29, 30, 31, 32, 33, 34, 35, 36, 37] (fun x => [(3, .pt (.one (.int .i64 (.ofNat x.1))))]) (fun x => []) (fun x => []) (fun x => bn - x.1) ⟨0, by omega, fun j hj => by omega⟩ ?_ ?_ ?_ ?_); (· (refine le_mk ?_ ?_ ?_ ?_ <;> (cbv; (try simp only [true_and, and_true]); (try ((repeat' apply And.intro) <;> (first | trivial | rfl | exact RowLe.rfl' _ | (rw [wrap_nat har _ (by omega)]))))))); (· (cbv; try rfl)); (· simp); (rintro ⟨b, hb1, hok⟩ mm hmm))
    | ((with_reducible refine go_stop ⟨b + 1, by omega, all_succ hok (show decide (sn b ≤ 30) = true ∧ decide (jn b ≤ 12) = true from ⟨gtr_f hcm (by assumption), gtr_f hcm (by assumption)⟩)⟩ ?_ ?_ ?_ ?_); (· exact Nat.lt_of_lt_of_eq (show bn - (b + 1) < bn - b from by omega) (Eq.symm (by assumption))); (· (refine le_mk ?_ ?_ ?_ ?_ <;> (cbv; (try simp only [true_and, and_true]); (try ((repeat' apply And.intro) <;> (first | trivial | rfl | exact RowLe.rfl' _ | (rw [wrap_nat har _ (by omega)]))))))); (· (cbv; try rfl)); (· simp))
    )
  all_goals (refine bool_eq ?_)
  all_goals
    try have e1 := h1 b (by assumption) (.inl (gtr_t hcm (by assumption)))
    try have e2 := h1 b (by assumption) (.inr (gtr_t hcm (by assumption)))
    try have e3 := h2 (fun j hj => hok j (by omega))
    try clear hmm hok
    clear hX hT h1 h2
    subst hcm
    simp only [rCm] at *
    subst_vars
    simp only [decide_eq_true_eq, decide_eq_false_iff_not, Int.ofNat_eq_natCast] at *
    grind

end Go.Proofs.Ytbimggeapaaliaa
