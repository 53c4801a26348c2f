/- Layer 11, what its laws ask first. No condition. -/
import Derived.Test.YtanocepbagbbkaaGrG
namespace Go.Proofs.Ytanocepbagbbkaa
open Go.RowKit
set_option linter.unusedVariables false
set_option linter.unusedSimpArgs false

set_option maxRecDepth 100000 in
set_option maxHeartbeats 4000000 in
theorem great7C (F : GFun) (w : World) (hF : F.At w) :
    Calls Try.prog 9 #[F.val] w (Ret w (.bool (gfB F))) := by
  obtain ⟨z0, hz0⟩ : ∃ z, z = gfB F := ⟨_, rfl⟩
  rw [← hz0]
  unfold gfB at hz0
  obtain ⟨pa, un, lA, ln, lc, lk, lt, bA, bn, bc, sA, sn, sc, s, jA, jn, jc, ja, jk, jo, jf, jx, je, jd⟩ := F
  obtain ⟨hX, hl, hb, hs, hj⟩ := hF
  simp only at hl hb hs hj
  simp only at hz0
  obtain ⟨ga, hga⟩ : ∃ b, b = allN bn fun b => decide (sn b ≤ 30) && decide (jn b ≤ 12) := ⟨_, rfl⟩
  rw [← hga] at hz0
  have h1 : ∀ b, b < bn → decide (sn b ≤ 30) = false ∨ decide (jn b ≤ 12) = false → ga = false := fun b hb h => hga.trans (allN_false hb (by rcases h with h | h <;> rw [h] <;> simp))
  have h2 : (∀ b, b < bn → decide (sn b ≤ 30) = true ∧ decide (jn b ≤ 12) = true) → ga = true := fun h => hga.trans (allN_iff.2 fun b hb => by rw [(h b hb).1, (h b hb).2]; rfl)
  clear hga
  refine go_start (args := [.pt (.agg (GFun.dat _))]) (c := (funX _)) Try.func9 rfl hX rfl rfl ?_
  obtain ⟨nd, hnd⟩ : ∃ f : Bool → Bool → Bool, f = and := ⟨_, rfl⟩
  obtain ⟨nt, hnt⟩ : ∃ f : Bool → Bool, f = not := ⟨_, rfl⟩
  obtain ⟨ar, har⟩ : ∃ f : BinOp → IntKind → Int → Int → Int, f = rAr := ⟨_, rfl⟩
  obtain ⟨cm, hcm⟩ : ∃ f : BinOp → Int → Int → Bool, f = rCm := ⟨_, rfl⟩
  obtain ⟨mx, hmx⟩ : ∃ f : Int → Int → Int, f = rMx := ⟨_, rfl⟩
  obtain ⟨mn, hmn⟩ : ∃ f : Int → Int → Int, f = rMn := ⟨_, rfl⟩
  have ar01 : ar .add .i64 0 1 = 1 := by rw [har]; decide
  have ar12 : ar .add .i64 1 1 = 2 := by rw [har]; decide
  obtain ⟨zpl, hzpl⟩ : ∃ f : Nat → Nat → Nat, f = fun x y => x + y := ⟨_, rfl⟩
  obtain ⟨zjn, hzjn⟩ : ∃ f : Nat → (Nat → List SC) → (Nat → List SC) → Nat → List SC, f = rJn := ⟨_, rfl⟩
  obtain ⟨zup, hzup⟩ : ∃ f : (Nat → List SC) → Nat → Nat → List SC → Nat → List SC, f = rUp := ⟨_, rfl⟩
  obtain ⟨zmi, hzmi⟩ : ∃ f : Nat → Nat → Nat, f = fun x y => x - y := ⟨_, rfl⟩
  obtain ⟨zdp, hzdp⟩ : ∃ f : Nat → (Nat → List SC) → Nat → List SC, f = rDp := ⟨_, rfl⟩
  have hT := T0_ok hnd hnt har hcm hmx hmn hzpl hzjn hzup hzmi hzdp
  repeat' (first
    | ((with_reducible apply go_ev hT 400); (· (cbv; try rfl)); (fail_if_success with_reducible apply stuck_id))
    | ((with_reducible refine go_brt ?_ ?_); (· first | rfl | assumption | (rw [hcm]; decide)))
    | ((with_reducible refine go_brf ?_ ?_); (· first | rfl | assumption | (rw [hcm]; decide)))
    | ((with_reducible refine go_brnt hnt ?_ ?_); (· first | rfl | assumption))
    | ((with_reducible refine go_brnf hnt ?_ ?_); (· first | rfl | assumption))
    | (with_reducible refine go_brn hnt (fun h => ?_) (fun h => ?_))
    | (with_reducible refine go_brl hcm (fun hlt => ?_) (fun hge => ?_))
    | (with_reducible refine go_br (fun h => ?_) (fun h => ?_))
    | ((with_reducible apply go_ret_val hT); (· (cbv; try rfl)); (· (cbv; try rfl)))
    | ((with_reducible apply go_fin_val hT); (· (cbv; try rfl)); (· (cbv; try rfl)))
    | ((with_reducible apply go_draw); (· rfl); (· kernel_rfl); (· kernel_rfl))
    | ((with_reducible apply go_drawE); (· kernel_rfl))
    | (with_reducible refine go_fork ?_)
    | (with_reducible refine fork_cons ?_ ?_)
    | (with_reducible exact fork_nil)
    | ((with_reducible refine go_need ?_ ?_ ?_); (· first | omega | (simp only [Int.ofNat_eq_natCast]; omega)); (· first | omega | (simp only [Int.ofNat_eq_natCast]; omega)))
    | ((with_reducible refine go_ob ?_ ?_); (· first | trivial | (refine ⟨trivial, ?_⟩; omega) | (rw [hzpl]; refine ⟨trivial, ?_⟩; show _ + _ ≤ 1073741824; omega) | (rw [hzpl]; show _ + _ ≤ 1073741824; omega)))
    | ((with_reducible apply go_ret_rows hT); (· (cbv; try rfl)); (· (cbv; try rfl)); (· (cbv; (try simp only [true_and, and_true]); (try ((repeat' apply And.intro) <;> (first | trivial | rfl | decide ))))); (· (cbv; (try simp only [true_and, and_true]); (try ((repeat' apply And.intro) <;> (first | trivial | rfl | exact RowLe.rfl' _ ))))); (· rfl))
    | ((with_reducible apply go_fin_rows hT); (· (cbv; try rfl)); (· (cbv; try rfl)); (· (cbv; (try simp only [true_and, and_true]); (try ((repeat' apply And.intro) <;> (first | trivial | rfl | decide ))))); (· (cbv; (try simp only [true_and, and_true]); (try ((repeat' apply And.intro) <;> (first | trivial | rfl | exact RowLe.rfl' _ ))))); (· rfl))
    | ((with_reducible apply go_inline (f := 24) (hf := Try.func24) (hr := Try.results24) (hcall := Try.call24)); (· rfl); (· (cbv; try rfl)))
    | ((with_reducible refine go_loopk (σ := {b : Nat // b ≤ bn ∧ ∀ j, j < b → decide (sn j ≤ 30) = true ∧ decide (jn j ≤ 12) = true}) [2, 14, 15, 16, 17, 18, 19, 20, 21, 22, 23, 24, 25, 26, 27, 28, 29, 30, 31, 32, 33, 34, 35, 36, 37] (fun x => [(3, .pt (.one (.int .i64 (.ofNat x.1))))]) (fun x => []) (fun x => []) (fun x => bn - x.1) ⟨0, by omega, fun j hj => by omega⟩ ?_ ?_ ?_ ?_); (· (refine le_mk ?_ ?_ ?_ ?_ <;> (cbv; (try simp only [true_and, and_true]); (try ((repeat' apply And.intro) <;> (first | trivial | rfl | exact RowLe.rfl' _ | (rw [wrap_nat har _ (by omega)]))))))); (· (cbv; try rfl)); (· simp); (rintro ⟨b, hb1, hok⟩ mm hmm))
    | ((with_reducible refine go_stop ⟨b + 1, by omega, all_succ hok (show decide (sn b ≤ 30) = true ∧ decide (jn b ≤ 12) = true from ⟨gtr_f hcm (by assumption), gtr_f hcm (by assumption)⟩)⟩ ?_ ?_ ?_ ?_); (· exact Nat.lt_of_lt_of_eq (show bn - (b + 1) < bn - b from by omega) (Eq.symm (by assumption))); (· (refine le_mk ?_ ?_ ?_ ?_ <;> (cbv; (try simp only [true_and, and_true]); (try ((repeat' apply And.intro) <;> (first | trivial | rfl | exact RowLe.rfl' _ | (rw [wrap_nat har _ (by omega)]))))))); (· (cbv; try rfl)); (· simp))
    )
  all_goals (refine bool_eq ?_)
  all_goals
    try have e1 := h1 b (by assumption) (.inl (gtr_t hcm (by assumption)))
    try have e2 := h1 b (by assumption) (.inr (gtr_t hcm (by assumption)))
    try have e3 := h2 (fun j hj => hok j (by omega))
    try clear hmm hok
    clear hX hT h1 h2
    subst hcm
    simp only [rCm] at *
    subst_vars
    simp only [decide_eq_true_eq, decide_eq_false_iff_not, Int.ofNat_eq_natCast] at *
    grind

def szN (bn : Nat) (sn : Nat → Nat) : Nat → Nat
  | 0 => bn
  | i + 1 => szN bn sn i + sn i
theorem szN_st (bn : Nat) (sn : Nat → Nat) : ∀ i, i ≤ bn → szN bn sn i + i = bn + stN sn i
  | 0, _ => rfl
  | i + 1, h => by
    have := szN_st bn sn i (by omega)
    have e : stN sn (i + 1) = stN sn i + sn i + 1 := rfl
    simp only [szN]; omega
set_option maxRecDepth 100000 in
set_option maxHeartbeats 4000000 in
theorem sizeF (F : GFun) (w : World) (hF : F.At w) (hO : F.Ok) :
    Calls Try.prog 17 #[F.val] w (Ret w (.tuple #[.int .i64 (.ofNat (stN F.sn F.bn)), .int .i64 0])) := by
  have h1 (wc : World) (hk : KB ⟨w, []⟩ wc) := hO.chk wc (hF.later hk)
  have e := szN_st F.bn F.sn F.bn (Nat.le_refl _)
  have hp := hO.pts
  have hm : ∀ i, i ≤ F.bn → szN F.bn F.sn i ≤ 700 := fun i hi => by
    have h2 := szN_st F.bn F.sn i hi
    have h3 : stN F.sn i ≤ stN F.sn F.bn := by
      rcases Nat.lt_or_ge i F.bn with h | h
      · exact Nat.le_of_lt (stN_mono F.sn h)
      · rw [Nat.le_antisymm hi h]; exact Nat.le_refl _
    have h4 := hO.bn24
    omega
  have hs24 : ∀ i, i < F.bn → F.sn i ≤ 24 := fun i hi => hO.sn24 hi
  have hb24 := hO.bn24
  obtain ⟨sz, hsz⟩ : ∃ f : Nat → Nat, f = szN F.bn F.sn := ⟨_, rfl⟩
  have s0 : F.bn = sz 0 := by rw [hsz]; rfl
  have s1 : ∀ i, sz (i + 1) = sz i + F.sn i := fun i => by rw [hsz]; rfl
  have e2 : stN F.sn F.bn = sz F.bn := by rw [hsz]; omega
  rw [e2]
  rw [← hsz] at hm
  clear e e2 hsz hp hO
  obtain ⟨pa, un, lA, ln, lc, lk, lt, bA, bn, bc, sA, sn, sc, s, jA, jn, jc, ja, jk, jo, jf, jx, je, jd⟩ := F
  obtain ⟨hX, hl, hb, hs, hj⟩ := hF
  simp only at hl hb hs hj
  simp only at h1 hm hs24 s0 s1 hb24
  refine go_start (args := [.pt (.agg (GFun.dat ⟨pa, un, lA, ln, lc, lk, lt, bA, bn, bc, sA, sn, sc, s, jA, jn, jc, ja, jk, jo, jf, jx, je, jd⟩))]) (c := (funX ⟨pa, un, lA, ln, lc, lk, lt, bA, bn, bc, sA, sn, sc, s, jA, jn, jc, ja, jk, jo, jf, jx, je, jd⟩)) Try.func17 rfl hX rfl rfl ?_
  obtain ⟨nd, hnd⟩ : ∃ f : Bool → Bool → Bool, f = and := ⟨_, rfl⟩
  obtain ⟨nt, hnt⟩ : ∃ f : Bool → Bool, f = not := ⟨_, rfl⟩
  obtain ⟨ar, har⟩ : ∃ f : BinOp → IntKind → Int → Int → Int, f = rAr := ⟨_, rfl⟩
  obtain ⟨cm, hcm⟩ : ∃ f : BinOp → Int → Int → Bool, f = rCm := ⟨_, rfl⟩
  obtain ⟨mx, hmx⟩ : ∃ f : Int → Int → Int, f = rMx := ⟨_, rfl⟩
  obtain ⟨mn, hmn⟩ : ∃ f : Int → Int → Int, f = rMn := ⟨_, rfl⟩
  have ar01 : ar .add .i64 0 1 = 1 := by rw [har]; decide
  have ar12 : ar .add .i64 1 1 = 2 := by rw [har]; decide
  obtain ⟨zpl, hzpl⟩ : ∃ f : Nat → Nat → Nat, f = fun x y => x + y := ⟨_, rfl⟩
  obtain ⟨zjn, hzjn⟩ : ∃ f : Nat → (Nat → List SC) → (Nat → List SC) → Nat → List SC, f = rJn := ⟨_, rfl⟩
  obtain ⟨zup, hzup⟩ : ∃ f : (Nat → List SC) → Nat → Nat → List SC → Nat → List SC, f = rUp := ⟨_, rfl⟩
  obtain ⟨zmi, hzmi⟩ : ∃ f : Nat → Nat → Nat, f = fun x y => x - y := ⟨_, rfl⟩
  obtain ⟨zdp, hzdp⟩ : ∃ f : Nat → (Nat → List SC) → Nat → List SC, f = rDp := ⟨_, rfl⟩
  have hT := T0_ok hnd hnt har hcm hmx hmn hzpl hzjn hzup hzmi hzdp
  have ha : ∀ i, i < bn → ar .add .i64 (.ofNat (sz i)) (.ofNat (sn i)) = .ofNat (sz (i + 1)) := fun i hi => by
    have q1 := hm i (by omega)
    have q2 := hs24 i hi
    rw [add_nat har (by omega), s1]
  repeat' (first
    | ((with_reducible apply go_ev hT 400); (· (cbv; try rfl)); (fail_if_success with_reducible apply stuck_id))
    | ((with_reducible refine go_brt ?_ ?_); (· first | rfl | assumption | (rw [hcm]; decide)))
    | ((with_reducible refine go_brf ?_ ?_); (· first | rfl | assumption | (rw [hcm]; decide)))
    | ((with_reducible refine go_brnt hnt ?_ ?_); (· first | rfl | assumption))
    | ((with_reducible refine go_brnf hnt ?_ ?_); (· first | rfl | assumption))
    | (with_reducible refine go_brn hnt (fun h => ?_) (fun h => ?_))
    | (with_reducible refine go_brl hcm (fun hlt => ?_) (fun hge => ?_))
    | (with_reducible refine go_br (fun h => ?_) (fun h => ?_))
    | ((with_reducible apply go_ret_val hT); (· (cbv; try rfl)); (· (cbv; try rfl)))
    | ((with_reducible apply go_fin_val hT); (· (cbv; try rfl)); (· (cbv; try rfl)))
    | ((with_reducible apply go_draw); (· rfl); (· kernel_rfl); (· kernel_rfl))
    | ((with_reducible apply go_drawE); (· kernel_rfl))
    | (with_reducible refine go_fork ?_)
    | (with_reducible refine fork_cons ?_ ?_)
    | (with_reducible exact fork_nil)
    | ((with_reducible refine go_need ?_ ?_ ?_); (· first | omega | (simp only [Int.ofNat_eq_natCast]; omega)); (· first | omega | (simp only [Int.ofNat_eq_natCast]; omega)))
    | ((with_reducible refine go_ob ?_ ?_); (· first | trivial | (refine ⟨trivial, ?_⟩; omega) | (rw [hzpl]; refine ⟨trivial, ?_⟩; show _ + _ ≤ 1073741824; omega) | (rw [hzpl]; show _ + _ ≤ 1073741824; omega)))
    | ((with_reducible apply go_ret_rows hT); (· (cbv; try rfl)); (· (cbv; try rfl)); (· (cbv; (try simp only [true_and, and_true]); (try ((repeat' apply And.intro) <;> (first | trivial | rfl | decide  | ((rw [← s0]; done)) | ((rw [ha i (by assumption)]; done))))))); (· (cbv; (try simp only [true_and, and_true]); (try ((repeat' apply And.intro) <;> (first | trivial | rfl | exact RowLe.rfl' _  | ((rw [← s0]; done)) | ((rw [ha i (by assumption)]; done))))))); (· rfl))
    | ((with_reducible apply go_fin_rows hT); (· (cbv; try rfl)); (· (cbv; try rfl)); (· (cbv; (try simp only [true_and, and_true]); (try ((repeat' apply And.intro) <;> (first | trivial | rfl | decide  | ((rw [← s0]; done)) | ((rw [ha i (by assumption)]; done))))))); (· (cbv; (try simp only [true_and, and_true]); (try ((repeat' apply And.intro) <;> (first | trivial | rfl | exact RowLe.rfl' _  | ((rw [← s0]; done)) | ((rw [ha i (by assumption)]; done))))))); (· rfl))
    | ((with_reducible apply go_call (f := 29) (hf := Try.call29)); (· (cbv; try rfl)); (· intro wc hbc hxc; exact h1 wc hbc))
    | ((with_reducible apply go_callq (f := 29) (hf := Try.call29)); (· (cbv; try rfl)); (· intro wc hbc hxc; exact h1 wc hbc))
    | ((with_reducible refine go_loopk (σ := {i : Nat // i ≤ bn}) [7, 20, 21, 22, 23, 24, 25, 26, 27, 28] (fun x => [(5, .pt (.one (.int .i64 (.ofNat (sz x.1))))), (19, .pt (.one (.int .i64 (.ofNat x.1))))]) (fun x => []) (fun x => []) (fun x => bn - x.1) ⟨0, by omega⟩ ?_ ?_ ?_ ?_); (· (refine le_mk ?_ ?_ ?_ ?_ <;> (cbv; (try simp only [true_and, and_true]); (try ((repeat' apply And.intro) <;> (first | trivial | rfl | exact RowLe.rfl' _ | (rw [wrap_nat har _ (by omega)]) | ((rw [← s0]; done)) | ((rw [ha i (by assumption)]; done)))))))); (· (cbv; try rfl)); (· simp); (rintro ⟨i, hi⟩ mm hmm))
    | ((with_reducible refine go_stop ⟨i + 1, by omega⟩ ?_ ?_ ?_ ?_); (· exact Nat.lt_of_lt_of_eq (show bn - (i + 1) < bn - i from by omega) (Eq.symm (by assumption))); (· (refine le_mk ?_ ?_ ?_ ?_ <;> (cbv; (try simp only [true_and, and_true]); (try ((repeat' apply And.intro) <;> (first | trivial | rfl | exact RowLe.rfl' _ | (rw [wrap_nat har _ (by omega)]) | ((rw [← s0]; done)) | ((rw [ha i (by assumption)]; done)))))))); (· (cbv; try rfl)); (· simp))
    )
  all_goals (have e : i = bn := by omega)
  all_goals (subst e; rfl)

set_option maxRecDepth 100000 in
set_option maxHeartbeats 4000000 in
theorem inC (L : List (Nat × Nat)) (x y : Nat) (hL : L.length ≤ 1000000) (c : Nat → Nat → Row) (w : World) (v : Value) (hR : RowIs c w (ptR L) v) :
    Calls Try.prog 15 #[v, .agg #[.int .i64 (.ofNat x), .int .i64 (.ofNat y)]] w (Ret w (.bool (decide ((x, y) ∈ L)))) := by
  obtain ⟨a, cap, rfl, hX⟩ := hR.one (fun j _ => rfl)
  have hin : ∀ j, j < L.length → L.getD j (0, 0) = (x, y) → decide ((x, y) ∈ L) = true := fun j hj h => decide_eq_true (mem_of_getD hj h)
  have hno : (∀ j, j < L.length → L.getD j (0, 0) ≠ (x, y)) → decide ((x, y) ∈ L) = false := fun h => decide_eq_false (not_mem_getD h)
  obtain ⟨n, hn⟩ : ∃ n, n = L.length := ⟨_, rfl⟩
  obtain ⟨p1, hp1⟩ : ∃ f : Nat → Nat, f = fun j => (L.getD j (0, 0)).1 := ⟨_, rfl⟩
  obtain ⟨p2, hp2⟩ : ∃ f : Nat → Nat, f = fun j => (L.getD j (0, 0)).2 := ⟨_, rfl⟩
  obtain ⟨z, hz⟩ : ∃ z, z = decide ((x, y) ∈ L) := ⟨_, rfl⟩
  have hpt : ptR L = ⟨n, 2, fun j => [.int .i64 (.ofNat (p1 j)), .int .i64 (.ofNat (p2 j))]⟩ := by rw [ptR, hn, hp1, hp2]
  have hin : ∀ j, j < n → p1 j = x → p2 j = y → z = true := fun j hj h1 h2 => by rw [hz]; exact hin j (hn ▸ hj) (by rw [hp1] at h1; rw [hp2] at h2; exact Prod.ext h1 h2)
  have hno : (∀ j, j < n → ¬ (p1 j = x ∧ p2 j = y)) → z = false := fun h => by
    rw [hz]; refine hno fun j hj e => h j (hn ▸ hj) ?_
    rw [hp1, hp2]; simp only [e]; exact ⟨trivial, trivial⟩
  have hn9 : n ≤ 1000000 := by rw [hn]; exact hL
  rw [hpt] at hX ⊢
  rw [← hz]
  clear hpt hp1 hp2 hz hn hL hR
  refine go_start (args := [.pt (.one (.xs 0 0)), .pt (.agg [.int .i64 (.ofNat x), .int .i64 (.ofNat y)])]) (c := (OneR a n cap 2 fun j => [.int .i64 (.ofNat (p1 j)), .int .i64 (.ofNat (p2 j))])) Try.func15 rfl hX rfl rfl ?_
  obtain ⟨nd, hnd⟩ : ∃ f : Bool → Bool → Bool, f = and := ⟨_, rfl⟩
  obtain ⟨nt, hnt⟩ : ∃ f : Bool → Bool, f = not := ⟨_, rfl⟩
  obtain ⟨ar, har⟩ : ∃ f : BinOp → IntKind → Int → Int → Int, f = rAr := ⟨_, rfl⟩
  obtain ⟨cm, hcm⟩ : ∃ f : BinOp → Int → Int → Bool, f = rCm := ⟨_, rfl⟩
  obtain ⟨mx, hmx⟩ : ∃ f : Int → Int → Int, f = rMx := ⟨_, rfl⟩
  obtain ⟨mn, hmn⟩ : ∃ f : Int → Int → Int, f = rMn := ⟨_, rfl⟩
  have ar01 : ar .add .i64 0 1 = 1 := by rw [har]; decide
  have ar12 : ar .add .i64 1 1 = 2 := by rw [har]; decide
  obtain ⟨zpl, hzpl⟩ : ∃ f : Nat → Nat → Nat, f = fun x y => x + y := ⟨_, rfl⟩
  obtain ⟨zjn, hzjn⟩ : ∃ f : Nat → (Nat → List SC) → (Nat → List SC) → Nat → List SC, f = rJn := ⟨_, rfl⟩
  obtain ⟨zup, hzup⟩ : ∃ f : (Nat → List SC) → Nat → Nat → List SC → Nat → List SC, f = rUp := ⟨_, rfl⟩
  obtain ⟨zmi, hzmi⟩ : ∃ f : Nat → Nat → Nat, f = fun x y => x - y := ⟨_, rfl⟩
  obtain ⟨zdp, hzdp⟩ : ∃ f : Nat → (Nat → List SC) → Nat → List SC, f = rDp := ⟨_, rfl⟩
  have hT := T0_ok hnd hnt har hcm hmx hmn hzpl hzjn hzup hzmi hzdp
  have hne : ∀ i, nd (decide (Int.ofNat (p1 i) = Int.ofNat x)) (decide (Int.ofNat (p2 i) = Int.ofNat y)) = false → ¬ (p1 i = x ∧ p2 i = y) := fun i h g => by
    rw [hnd, g.1, g.2] at h; simp at h
  have heq : ∀ i, nd (decide (Int.ofNat (p1 i) = Int.ofNat x)) (decide (Int.ofNat (p2 i) = Int.ofNat y)) = true → p1 i = x ∧ p2 i = y := fun i h => by
    rw [hnd, Bool.and_eq_true] at h
    exact ⟨(Int.ofNat.inj (of_decide_eq_true h.1)), (Int.ofNat.inj (of_decide_eq_true h.2))⟩
  repeat' (first
    | ((with_reducible apply go_ev hT 400); (· (cbv; try rfl)); (fail_if_success with_reducible apply stuck_id))
    | ((with_reducible refine go_brt ?_ ?_); (· first | rfl | assumption | (rw [hcm]; decide)))
    | ((with_reducible refine go_brf ?_ ?_); (· first | rfl | assumption | (rw [hcm]; decide)))
    | ((with_reducible refine go_brnt hnt ?_ ?_); (· first | rfl | assumption))
    | ((with_reducible refine go_brnf hnt ?_ ?_); (· first | rfl | assumption))
    | (with_reducible refine go_brn hnt (fun h => ?_) (fun h => ?_))
    | (with_reducible refine go_brl hcm (fun hlt => ?_) (fun hge => ?_))
    | (with_reducible refine go_br (fun h => ?_) (fun h => ?_))
    | ((with_reducible apply go_ret_val hT); (· (cbv; try rfl)); (· (cbv; try rfl)))
    | ((with_reducible apply go_fin_val hT); (· (cbv; try rfl)); (· (cbv; try rfl)))
    | ((with_reducible apply go_draw); (· rfl); (· kernel_rfl); (· kernel_rfl))
    | ((with_reducible apply go_drawE); (· kernel_rfl))
    | (with_reducible refine go_fork ?_)
    | (with_reducible refine fork_cons ?_ ?_)
    | (with_reducible exact fork_nil)
    | ((with_reducible refine go_need ?_ ?_ ?_); (· first | omega | (simp only [Int.ofNat_eq_natCast]; omega)); (· first | omega | (simp only [Int.ofNat_eq_natCast]; omega)))
    | ((with_reducible refine go_ob ?_ ?_); (· first | trivial | (refine ⟨trivial, ?_⟩; omega) | (rw [hzpl]; refine ⟨trivial, ?_⟩; show _ + _ ≤ 1073741824; omega) | (rw [hzpl]; show _ + _ ≤ 1073741824; omega)))
    | ((with_reducible apply go_ret_rows hT); (· (cbv; try rfl)); (· (cbv; try rfl)); (· (cbv; (try simp only [true_and, and_true]); (try ((repeat' apply And.intro) <;> (first | trivial | rfl | decide ))))); (· (cbv; (try simp only [true_and, and_true]); (try ((repeat' apply And.intro) <;> (first | trivial | rfl | exact RowLe.rfl' _ ))))); (· rfl))
    | ((with_reducible apply go_fin_rows hT); (· (cbv; try rfl)); (· (cbv; try rfl)); (· (cbv; (try simp only [true_and, and_true]); (try ((repeat' apply And.intro) <;> (first | trivial | rfl | decide ))))); (· (cbv; (try simp only [true_and, and_true]); (try ((repeat' apply And.intro) <;> (first | trivial | rfl | exact RowLe.rfl' _ ))))); (· rfl))
    | ((with_reducible refine go_loopk (σ := {i : Nat // i ≤ n ∧ ∀ j, j < i → ¬ (p1 j = x ∧ p2 j = y)}) [4, 6, 7, 8, 9, 10, 11, 12, 13, 14, 15, 16, 17] (fun x => [(5, .pt (.one (.int .i64 (.ofNat x.1))))]) (fun x => []) (fun x => []) (fun x => n - x.1) ⟨0, by omega, fun j hj => by omega⟩ ?_ ?_ ?_ ?_); (· (refine le_mk ?_ ?_ ?_ ?_ <;> (cbv; (try simp only [true_and, and_true]); (try ((repeat' apply And.intro) <;> (first | trivial | rfl | exact RowLe.rfl' _ | (rw [wrap_nat har _ (by omega)]))))))); (· (cbv; try rfl)); (· simp); (rintro ⟨i, hi, hok⟩ mm hmm))
    | ((with_reducible refine go_stop ⟨i + 1, by omega, all_succ hok (hne i (by assumption))⟩ ?_ ?_ ?_ ?_); (· exact Nat.lt_of_lt_of_eq (show n - (i + 1) < n - i from by omega) (Eq.symm (by assumption))); (· (refine le_mk ?_ ?_ ?_ ?_ <;> (cbv; (try simp only [true_and, and_true]); (try ((repeat' apply And.intro) <;> (first | trivial | rfl | exact RowLe.rfl' _ | (rw [wrap_nat har _ (by omega)]))))))); (· (cbv; try rfl)); (· simp))
    )
  all_goals (refine bool_eq ?_)
  · have q := heq i (by assumption)
    exact (hin i hlt q.1 q.2).symm
  · exact (hno (fun j hj => hok j (by omega))).symm

end Go.Proofs.Ytanocepbagbbkaa
