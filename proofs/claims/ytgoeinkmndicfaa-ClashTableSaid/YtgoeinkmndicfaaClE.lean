/- Layer 23: Touches of the program. No condition. -/
import Derived.Test.YtgoeinkmndicfaaClD
namespace Go.Proofs.Ytgoeinkmndicfaa
open Go.RowKit
set_option linter.unusedVariables false
set_option linter.unusedSimpArgs false

/-- The accesses of a point. -/
def ptT (F : GFun) (b i : Nat) : List GTouch := if i < F.sn b then stT F (F.s b i) else jmT F b
set_option maxRecDepth 100000 in
set_option maxHeartbeats 4000000 in
theorem touchesC (F : GFun) (w : World) (hF : F.At w) (hO : F.Ok) (b i : Nat) (hbb : b < F.bn) :
    Calls Try.prog 20 #[F.val, .agg #[.int .i64 (.ofNat b), .int .i64 (.ofNat i)]] w (RetR w (funX F) (.pt (.one (.rs 0))) [touR (ptT F b i)]) := by
  have h1 (hi : i < F.sn b) (wc : World) (hk : KB ⟨w, []⟩ wc) := stTouch F wc (hF.later hk) (F.s b i) (hO.okS hbb hi) (st_in hO hbb hi)
  have h2 (wc : World) (hk : KB ⟨w, []⟩ wc) := jmTouch F wc (hF.later hk) hO b hbb
  have hs24 := hO.sn24 hbb
  by_cases hi : i < F.sn b
  · have h1 := h1 hi
    have e : ptT F b i = stT F (F.s b i) := by unfold ptT; rw [if_pos hi]
    rw [e]
    obtain ⟨R, hR⟩ : ∃ R, R = touR (stT F (F.s b i)) := ⟨_, rfl⟩
    rw [← hR] at h1 ⊢
    clear h2 e hR hO
    obtain ⟨pa, un, lA, ln, lc, lk, lt, bA, bn, bc, sA, sn, sc, s, jA, jn, jc, ja, jk, jo, jf, jx, je, jd⟩ := F
    obtain ⟨hX, hl, hb, hs, hj⟩ := hF
    simp only at hl hb hs hj
    simp only at h1 hi hbb hs24
    refine go_start (args := [.pt (.agg (GFun.dat ⟨pa, un, lA, ln, lc, lk, lt, bA, bn, bc, sA, sn, sc, s, jA, jn, jc, ja, jk, jo, jf, jx, je, jd⟩)), .pt (.agg [.int .i64 (.ofNat b), .int .i64 (.ofNat i)])]) (c := (funX ⟨pa, un, lA, ln, lc, lk, lt, bA, bn, bc, sA, sn, sc, s, jA, jn, jc, ja, jk, jo, jf, jx, je, jd⟩)) Try.func20 rfl hX rfl rfl ?_
    obtain ⟨nd, hnd⟩ : ∃ f : Bool → Bool → Bool, f = and := ⟨_, rfl⟩
    obtain ⟨nt, hnt⟩ : ∃ f : Bool → Bool, f = not := ⟨_, rfl⟩
    obtain ⟨ar, har⟩ : ∃ f : BinOp → IntKind → Int → Int → Int, f = rAr := ⟨_, rfl⟩
    obtain ⟨cm, hcm⟩ : ∃ f : BinOp → Int → Int → Bool, f = rCm := ⟨_, rfl⟩
    obtain ⟨mx, hmx⟩ : ∃ f : Int → Int → Int, f = rMx := ⟨_, rfl⟩
    obtain ⟨mn, hmn⟩ : ∃ f : Int → Int → Int, f = rMn := ⟨_, rfl⟩
    have ar01 : ar .add .i64 0 1 = 1 := by rw [har]; decide
    have ar12 : ar .add .i64 1 1 = 2 := by rw [har]; decide
    obtain ⟨zpl, hzpl⟩ : ∃ f : Nat → Nat → Nat, f = fun x y => x + y := ⟨_, rfl⟩
    obtain ⟨zjn, hzjn⟩ : ∃ f : Nat → (Nat → List SC) → (Nat → List SC) → Nat → List SC, f = rJn := ⟨_, rfl⟩
    obtain ⟨zup, hzup⟩ : ∃ f : (Nat → List SC) → Nat → Nat → List SC → Nat → List SC, f = rUp := ⟨_, rfl⟩
    obtain ⟨zmi, hzmi⟩ : ∃ f : Nat → Nat → Nat, f = fun x y => x - y := ⟨_, rfl⟩
    obtain ⟨zdp, hzdp⟩ : ∃ f : Nat → (Nat → List SC) → Nat → List SC, f = rDp := ⟨_, rfl⟩
    have hT := T0_ok hnd hnt har hcm hmx hmn hzpl hzjn hzup hzmi hzdp
    have hq : cm .lss (.ofNat i) (.ofNat (sn b)) = true := by rw [hcm]; exact decide_eq_true (Int.ofNat_lt.2 hi)
    repeat' (first
      | ((with_reducible apply go_ev hT 400); (· (cbv; try rfl)); (fail_if_success with_reducible apply stuck_id))
      | ((with_reducible refine go_brt ?_ ?_); (· first | rfl | assumption | (rw [hcm]; decide)))
      | ((with_reducible refine go_brf ?_ ?_); (· first | rfl | assumption | (rw [hcm]; decide)))
      | ((with_reducible refine go_brnt hnt ?_ ?_); (· first | rfl | assumption))
      | ((with_reducible refine go_brnf hnt ?_ ?_); (· first | rfl | assumption))
      | (with_reducible refine go_brn hnt (fun h => ?_) (fun h => ?_))
      | (with_reducible refine go_brl hcm (fun hlt => ?_) (fun hge => ?_))
      | (with_reducible refine go_br (fun h => ?_) (fun h => ?_))
      | ((with_reducible apply go_ret_val hT); (· (cbv; try rfl)); (· (cbv; try rfl)))
      | ((with_reducible apply go_fin_val hT); (· (cbv; try rfl)); (· (cbv; try rfl)))
      | ((with_reducible apply go_drawE); (· kernel_rfl))
      | (with_reducible refine go_fork ?_)
      | (with_reducible refine fork_cons ?_ ?_)
      | (with_reducible exact fork_nil)
      | ((with_reducible refine go_need ?_ ?_ ?_); (· first | omega | (simp only [Int.ofNat_eq_natCast]; omega)); (· first | omega | (simp only [Int.ofNat_eq_natCast]; omega)))
      | ((with_reducible refine go_ob ?_ ?_); (· first | trivial | (refine ⟨trivial, ?_⟩; omega) | (rw [hzpl]; refine ⟨trivial, ?_⟩; show _ + _ ≤ 1073741824; omega) | (rw [hzpl]; show _ + _ ≤ 1073741824; omega)))
      | ((with_reducible apply go_ret_rows hT); (· (cbv; try rfl)); (· (cbv; try rfl)); (· (cbv; (try simp only [true_and, and_true]); (try ((repeat' apply And.intro) <;> (first | trivial | rfl | decide ))))); (· (cbv; (try simp only [true_and, and_true]); (try ((repeat' apply And.intro) <;> (first | trivial | rfl | exact RowLe.rfl' _ ))))); (· rfl))
      | ((with_reducible apply go_fin_rows hT); (· (cbv; try rfl)); (· (cbv; try rfl)); (· (cbv; (try simp only [true_and, and_true]); (try ((repeat' apply And.intro) <;> (first | trivial | rfl | decide ))))); (· (cbv; (try simp only [true_and, and_true]); (try ((repeat' apply And.intro) <;> (first | trivial | rfl | exact RowLe.rfl' _ ))))); (· rfl))
      | ((with_reducible apply go_callR (f := 39) (hf := Try.call39)); (· intro S; cbv; try rfl); (· intro wc S hbc hxc hrc; exact h1 wc hbc); (· rfl))
      | (((with_reducible apply go_need); (· exact Int.natCast_nonneg _); (· exact Int.ofNat_lt.2 (by assumption))))
      )
    all_goals trace_state
  · have e : ptT F b i = jmT F b := by unfold ptT; rw [if_neg hi]
    rw [e]
    obtain ⟨R, hR⟩ : ∃ R, R = touR (jmT F b) := ⟨_, rfl⟩
    rw [← hR] at h2 ⊢
    clear h1 e hR hO
    obtain ⟨pa, un, lA, ln, lc, lk, lt, bA, bn, bc, sA, sn, sc, s, jA, jn, jc, ja, jk, jo, jf, jx, je, jd⟩ := F
    obtain ⟨hX, hl, hb, hs, hj⟩ := hF
    simp only at hl hb hs hj
    simp only at h2 hi hbb hs24
    refine go_start (args := [.pt (.agg (GFun.dat ⟨pa, un, lA, ln, lc, lk, lt, bA, bn, bc, sA, sn, sc, s, jA, jn, jc, ja, jk, jo, jf, jx, je, jd⟩)), .pt (.agg [.int .i64 (.ofNat b), .int .i64 (.ofNat i)])]) (c := (funX ⟨pa, un, lA, ln, lc, lk, lt, bA, bn, bc, sA, sn, sc, s, jA, jn, jc, ja, jk, jo, jf, jx, je, jd⟩)) Try.func20 rfl hX rfl rfl ?_
    obtain ⟨nd, hnd⟩ : ∃ f : Bool → Bool → Bool, f = and := ⟨_, rfl⟩
    obtain ⟨nt, hnt⟩ : ∃ f : Bool → Bool, f = not := ⟨_, rfl⟩
    obtain ⟨ar, har⟩ : ∃ f : BinOp → IntKind → Int → Int → Int, f = rAr := ⟨_, rfl⟩
    obtain ⟨cm, hcm⟩ : ∃ f : BinOp → Int → Int → Bool, f = rCm := ⟨_, rfl⟩
    obtain ⟨mx, hmx⟩ : ∃ f : Int → Int → Int, f = rMx := ⟨_, rfl⟩
    obtain ⟨mn, hmn⟩ : ∃ f : Int → Int → Int, f = rMn := ⟨_, rfl⟩
    have ar01 : ar .add .i64 0 1 = 1 := by rw [har]; decide
    have ar12 : ar .add .i64 1 1 = 2 := by rw [har]; decide
    obtain ⟨zpl, hzpl⟩ : ∃ f : Nat → Nat → Nat, f = fun x y => x + y := ⟨_, rfl⟩
    obtain ⟨zjn, hzjn⟩ : ∃ f : Nat → (Nat → List SC) → (Nat → List SC) → Nat → List SC, f = rJn := ⟨_, rfl⟩
    obtain ⟨zup, hzup⟩ : ∃ f : (Nat → List SC) → Nat → Nat → List SC → Nat → List SC, f = rUp := ⟨_, rfl⟩
    obtain ⟨zmi, hzmi⟩ : ∃ f : Nat → Nat → Nat, f = fun x y => x - y := ⟨_, rfl⟩
    obtain ⟨zdp, hzdp⟩ : ∃ f : Nat → (Nat → List SC) → Nat → List SC, f = rDp := ⟨_, rfl⟩
    have hT := T0_ok hnd hnt har hcm hmx hmn hzpl hzjn hzup hzmi hzdp
    have hq : cm .lss (.ofNat i) (.ofNat (sn b)) = false := by rw [hcm]; exact decide_eq_false (fun g => hi (Int.ofNat_lt.1 g))
    repeat' (first
      | ((with_reducible apply go_ev hT 400); (· (cbv; try rfl)); (fail_if_success with_reducible apply stuck_id))
      | ((with_reducible refine go_brt ?_ ?_); (· first | rfl | assumption | (rw [hcm]; decide)))
      | ((with_reducible refine go_brf ?_ ?_); (· first | rfl | assumption | (rw [hcm]; decide)))
      | ((with_reducible refine go_brnt hnt ?_ ?_); (· first | rfl | assumption))
      | ((with_reducible refine go_brnf hnt ?_ ?_); (· first | rfl | assumption))
      | (with_reducible refine go_brn hnt (fun h => ?_) (fun h => ?_))
      | (with_reducible refine go_brl hcm (fun hlt => ?_) (fun hge => ?_))
      | (with_reducible refine go_br (fun h => ?_) (fun h => ?_))
      | ((with_reducible apply go_ret_val hT); (· (cbv; try rfl)); (· (cbv; try rfl)))
      | ((with_reducible apply go_fin_val hT); (· (cbv; try rfl)); (· (cbv; try rfl)))
      | ((with_reducible apply go_drawE); (· kernel_rfl))
      | (with_reducible refine go_fork ?_)
      | (with_reducible refine fork_cons ?_ ?_)
      | (with_reducible exact fork_nil)
      | ((with_reducible refine go_need ?_ ?_ ?_); (· first | omega | (simp only [Int.ofNat_eq_natCast]; omega)); (· first | omega | (simp only [Int.ofNat_eq_natCast]; omega)))
      | ((with_reducible refine go_ob ?_ ?_); (· first | trivial | (refine ⟨trivial, ?_⟩; omega) | (rw [hzpl]; refine ⟨trivial, ?_⟩; show _ + _ ≤ 1073741824; omega) | (rw [hzpl]; show _ + _ ≤ 1073741824; omega)))
      | ((with_reducible apply go_ret_rows hT); (· (cbv; try rfl)); (· (cbv; try rfl)); (· (cbv; (try simp only [true_and, and_true]); (try ((repeat' apply And.intro) <;> (first | trivial | rfl | decide ))))); (· (cbv; (try simp only [true_and, and_true]); (try ((repeat' apply And.intro) <;> (first | trivial | rfl | exact RowLe.rfl' _ ))))); (· rfl))
      | ((with_reducible apply go_fin_rows hT); (· (cbv; try rfl)); (· (cbv; try rfl)); (· (cbv; (try simp only [true_and, and_true]); (try ((repeat' apply And.intro) <;> (first | trivial | rfl | decide ))))); (· (cbv; (try simp only [true_and, and_true]); (try ((repeat' apply And.intro) <;> (first | trivial | rfl | exact RowLe.rfl' _ ))))); (· rfl))
      | ((with_reducible apply go_callR (f := 40) (hf := Try.call40)); (· intro S; cbv; try rfl); (· intro wc S hbc hxc hrc; exact h2 wc hbc); (· rfl))
      | (((with_reducible apply go_need); (· exact Int.natCast_nonneg _); (· exact Int.ofNat_lt.2 (by assumption))))
      )
    all_goals trace_state

set_option maxRecDepth 100000 in
set_option maxHeartbeats 4000000 in
/-- A function with an error has no accesses. -/
theorem touchesBad (F : GFun) (w : World) (hF : F.At w) (hz : fchkV F ≠ 0) (at_ : Int) :
    Calls Try.prog 7 #[F.val, .int .i64 at_] w (Ret w (.tuple #[.slice none 0 0, .int .i64 (fchkV F)])) := by
  have h1 (wc : World) (hk : KB ⟨w, []⟩ wc) := fnChk F wc (hF.later hk)
  generalize fchkV F = z at h1 hz ⊢
  have hq : decide (z = 0) = false := decide_eq_false hz
  clear hz
  obtain ⟨pa, un, lA, ln, lc, lk, lt, bA, bn, bc, sA, sn, sc, s, jA, jn, jc, ja, jk, jo, jf, jx, je, jd⟩ := F
  obtain ⟨hX, hl, hb, hs, hj⟩ := hF
  simp only at hl hb hs hj
  refine go_start (args := [.pt (.agg (GFun.dat ⟨pa, un, lA, ln, lc, lk, lt, bA, bn, bc, sA, sn, sc, s, jA, jn, jc, ja, jk, jo, jf, jx, je, jd⟩)), .pt (.one (.int .i64 at_))]) (c := (funX ⟨pa, un, lA, ln, lc, lk, lt, bA, bn, bc, sA, sn, sc, s, jA, jn, jc, ja, jk, jo, jf, jx, je, jd⟩)) Try.func7 rfl hX rfl rfl ?_
  obtain ⟨nd, hnd⟩ : ∃ f : Bool → Bool → Bool, f = and := ⟨_, rfl⟩
  obtain ⟨nt, hnt⟩ : ∃ f : Bool → Bool, f = not := ⟨_, rfl⟩
  obtain ⟨ar, har⟩ : ∃ f : BinOp → IntKind → Int → Int → Int, f = rAr := ⟨_, rfl⟩
  obtain ⟨cm, hcm⟩ : ∃ f : BinOp → Int → Int → Bool, f = rCm := ⟨_, rfl⟩
  obtain ⟨mx, hmx⟩ : ∃ f : Int → Int → Int, f = rMx := ⟨_, rfl⟩
  obtain ⟨mn, hmn⟩ : ∃ f : Int → Int → Int, f = rMn := ⟨_, rfl⟩
  have ar01 : ar .add .i64 0 1 = 1 := by rw [har]; decide
  have ar12 : ar .add .i64 1 1 = 2 := by rw [har]; decide
  obtain ⟨zpl, hzpl⟩ : ∃ f : Nat → Nat → Nat, f = fun x y => x + y := ⟨_, rfl⟩
  obtain ⟨zjn, hzjn⟩ : ∃ f : Nat → (Nat → List SC) → (Nat → List SC) → Nat → List SC, f = rJn := ⟨_, rfl⟩
  obtain ⟨zup, hzup⟩ : ∃ f : (Nat → List SC) → Nat → Nat → List SC → Nat → List SC, f = rUp := ⟨_, rfl⟩
  obtain ⟨zmi, hzmi⟩ : ∃ f : Nat → Nat → Nat, f = fun x y => x - y := ⟨_, rfl⟩
  obtain ⟨zdp, hzdp⟩ : ∃ f : Nat → (Nat → List SC) → Nat → List SC, f = rDp := ⟨_, rfl⟩
  have hT := T0_ok hnd hnt har hcm hmx hmn hzpl hzjn hzup hzmi hzdp
  repeat' (first
    | ((with_reducible apply go_ev hT 400); (· (cbv; try rfl)); (fail_if_success with_reducible apply stuck_id))
    | ((with_reducible refine go_brt ?_ ?_); (· first | rfl | assumption | (rw [hcm]; decide)))
    | ((with_reducible refine go_brf ?_ ?_); (· first | rfl | assumption | (rw [hcm]; decide)))
    | ((with_reducible refine go_brnt hnt ?_ ?_); (· first | rfl | assumption))
    | ((with_reducible refine go_brnf hnt ?_ ?_); (· first | rfl | assumption))
    | (with_reducible refine go_brn hnt (fun h => ?_) (fun h => ?_))
    | (with_reducible refine go_brl hcm (fun hlt => ?_) (fun hge => ?_))
    | (with_reducible refine go_br (fun h => ?_) (fun h => ?_))
    | ((with_reducible apply go_ret_val hT); (· (cbv; try rfl)); (· (cbv; try rfl)))
    | ((with_reducible apply go_fin_val hT); (· (cbv; try rfl)); (· (cbv; try rfl)))
    | ((with_reducible apply go_draw); (· rfl); (· kernel_rfl); (· kernel_rfl))
    | ((with_reducible apply go_drawE); (· kernel_rfl))
    | (with_reducible refine go_fork ?_)
    | (with_reducible refine fork_cons ?_ ?_)
    | (with_reducible exact fork_nil)
    | ((with_reducible refine go_need ?_ ?_ ?_); (· first | omega | (simp only [Int.ofNat_eq_natCast]; omega)); (· first | omega | (simp only [Int.ofNat_eq_natCast]; omega)))
    | ((with_reducible refine go_ob ?_ ?_); (· first | trivial | (refine ⟨trivial, ?_⟩; omega) | (rw [hzpl]; refine ⟨trivial, ?_⟩; show _ + _ ≤ 1073741824; omega) | (rw [hzpl]; show _ + _ ≤ 1073741824; omega)))
    | ((with_reducible apply go_ret_rows hT); (· (cbv; try rfl)); (· (cbv; try rfl)); (· (cbv; (try simp only [true_and, and_true]); (try ((repeat' apply And.intro) <;> (first | trivial | rfl | decide ))))); (· (cbv; (try simp only [true_and, and_true]); (try ((repeat' apply And.intro) <;> (first | trivial | rfl | exact RowLe.rfl' _ ))))); (· rfl))
    | ((with_reducible apply go_fin_rows hT); (· (cbv; try rfl)); (· (cbv; try rfl)); (· (cbv; (try simp only [true_and, and_true]); (try ((repeat' apply And.intro) <;> (first | trivial | rfl | decide ))))); (· (cbv; (try simp only [true_and, and_true]); (try ((repeat' apply And.intro) <;> (first | trivial | rfl | exact RowLe.rfl' _ ))))); (· rfl))
    | ((with_reducible apply go_call (f := 18) (hf := Try.call18)); (· (cbv; try rfl)); (· intro wc hbc hxc; exact h1 wc hbc))
    | ((with_reducible apply go_callq (f := 18) (hf := Try.call18)); (· (cbv; try rfl)); (· intro wc hbc hxc; exact h1 wc hbc))
    )
  all_goals rfl

set_option maxRecDepth 100000 in
set_option maxHeartbeats 4000000 in
theorem touchesOut (F : GFun) (w : World) (hF : F.At w) (hO : F.Ok) (at_ : Int) (hz : at_ < 0 ∨ (stN F.sn F.bn : Int) ≤ at_) :
    Calls Try.prog 7 #[F.val, .int .i64 at_] w (Ret w (.tuple #[.slice none 0 0, .int .i64 2])) := by
  have h1 (wc : World) (hk : KB ⟨w, []⟩ wc) := hO.chk wc (hF.later hk)
  have h2 (wc : World) (hk : KB ⟨w, []⟩ wc) := pointsC F wc (hF.later hk) hO.small hO.chk
  obtain ⟨N, hN⟩ : ∃ N, N = stN F.sn F.bn := ⟨_, rfl⟩
  obtain ⟨g, hg⟩ : ∃ f : Nat → List SC, f = fun j => [.int .i64 (.ofNat ((allPts F.sn F.bn).getD j (0, 0)).1), .int .i64 (.ofNat ((allPts F.sn F.bn).getD j (0, 0)).2)] := ⟨_, rfl⟩
  have h2 (wc : World) (hk : KB ⟨w, []⟩ wc) : Calls Try.prog 19 #[F.val] wc (RetR wc (funX F) (.tup [.one (.rs 0), .one (.int .i64 0)]) [⟨N, 2, g⟩]) := by
    have := h2 wc hk
    rw [hg, hN]; exact this
  rw [← hN] at hz
  clear hN hg hO
  obtain ⟨pa, un, lA, ln, lc, lk, lt, bA, bn, bc, sA, sn, sc, s, jA, jn, jc, ja, jk, jo, jf, jx, je, jd⟩ := F
  obtain ⟨hX, hl, hb, hs, hj⟩ := hF
  simp only at hl hb hs hj
  refine go_start (args := [.pt (.agg (GFun.dat ⟨pa, un, lA, ln, lc, lk, lt, bA, bn, bc, sA, sn, sc, s, jA, jn, jc, ja, jk, jo, jf, jx, je, jd⟩)), .pt (.one (.int .i64 at_))]) (c := (funX ⟨pa, un, lA, ln, lc, lk, lt, bA, bn, bc, sA, sn, sc, s, jA, jn, jc, ja, jk, jo, jf, jx, je, jd⟩)) Try.func7 rfl hX rfl rfl ?_
  obtain ⟨nd, hnd⟩ : ∃ f : Bool → Bool → Bool, f = and := ⟨_, rfl⟩
  obtain ⟨nt, hnt⟩ : ∃ f : Bool → Bool, f = not := ⟨_, rfl⟩
  obtain ⟨ar, har⟩ : ∃ f : BinOp → IntKind → Int → Int → Int, f = rAr := ⟨_, rfl⟩
  obtain ⟨cm, hcm⟩ : ∃ f : BinOp → Int → Int → Bool, f = rCm := ⟨_, rfl⟩
  obtain ⟨mx, hmx⟩ : ∃ f : Int → Int → Int, f = rMx := ⟨_, rfl⟩
  obtain ⟨mn, hmn⟩ : ∃ f : Int → Int → Int, f = rMn := ⟨_, rfl⟩
  have ar01 : ar .add .i64 0 1 = 1 := by rw [har]; decide
  have ar12 : ar .add .i64 1 1 = 2 := by rw [har]; decide
  obtain ⟨zpl, hzpl⟩ : ∃ f : Nat → Nat → Nat, f = fun x y => x + y := ⟨_, rfl⟩
  obtain ⟨zjn, hzjn⟩ : ∃ f : Nat → (Nat → List SC) → (Nat → List SC) → Nat → List SC, f = rJn := ⟨_, rfl⟩
  obtain ⟨zup, hzup⟩ : ∃ f : (Nat → List SC) → Nat → Nat → List SC → Nat → List SC, f = rUp := ⟨_, rfl⟩
  obtain ⟨zmi, hzmi⟩ : ∃ f : Nat → Nat → Nat, f = fun x y => x - y := ⟨_, rfl⟩
  obtain ⟨zdp, hzdp⟩ : ∃ f : Nat → (Nat → List SC) → Nat → List SC, f = rDp := ⟨_, rfl⟩
  have hT := T0_ok hnd hnt har hcm hmx hmn hzpl hzjn hzup hzmi hzdp
  repeat' (first
    | ((with_reducible apply go_ev hT 400); (· (cbv; try rfl)); (fail_if_success with_reducible apply stuck_id))
    | ((with_reducible refine go_brt ?_ ?_); (· first | rfl | assumption | (rw [hcm]; decide)))
    | ((with_reducible refine go_brf ?_ ?_); (· first | rfl | assumption | (rw [hcm]; decide)))
    | ((with_reducible refine go_brnt hnt ?_ ?_); (· first | rfl | assumption))
    | ((with_reducible refine go_brnf hnt ?_ ?_); (· first | rfl | assumption))
    | (with_reducible refine go_brn hnt (fun h => ?_) (fun h => ?_))
    | (with_reducible refine go_brl hcm (fun hlt => ?_) (fun hge => ?_))
    | (with_reducible refine go_br (fun h => ?_) (fun h => ?_))
    | ((with_reducible apply go_ret_val hT); (· (cbv; try rfl)); (· (cbv; try rfl)))
    | ((with_reducible apply go_fin_val hT); (· (cbv; try rfl)); (· (cbv; try rfl)))
    | ((with_reducible apply go_draw); (· rfl); (· kernel_rfl); (· kernel_rfl))
    | ((with_reducible apply go_drawE); (· kernel_rfl))
    | (with_reducible refine go_fork ?_)
    | (with_reducible refine fork_cons ?_ ?_)
    | (with_reducible exact fork_nil)
    | ((with_reducible refine go_need ?_ ?_ ?_); (· first | omega | (simp only [Int.ofNat_eq_natCast]; omega)); (· first | omega | (simp only [Int.ofNat_eq_natCast]; omega)))
    | ((with_reducible refine go_ob ?_ ?_); (· first | trivial | (refine ⟨trivial, ?_⟩; omega) | (rw [hzpl]; refine ⟨trivial, ?_⟩; show _ + _ ≤ 1073741824; omega) | (rw [hzpl]; show _ + _ ≤ 1073741824; omega)))
    | ((with_reducible apply go_ret_rows hT); (· (cbv; try rfl)); (· (cbv; try rfl)); (· (cbv; (try simp only [true_and, and_true]); (try ((repeat' apply And.intro) <;> (first | trivial | rfl | decide ))))); (· (cbv; (try simp only [true_and, and_true]); (try ((repeat' apply And.intro) <;> (first | trivial | rfl | exact RowLe.rfl' _ ))))); (· rfl))
    | ((with_reducible apply go_fin_rows hT); (· (cbv; try rfl)); (· (cbv; try rfl)); (· (cbv; (try simp only [true_and, and_true]); (try ((repeat' apply And.intro) <;> (first | trivial | rfl | decide ))))); (· (cbv; (try simp only [true_and, and_true]); (try ((repeat' apply And.intro) <;> (first | trivial | rfl | exact RowLe.rfl' _ ))))); (· rfl))
    | ((with_reducible apply go_call (f := 18) (hf := Try.call18)); (· (cbv; try rfl)); (· intro wc hbc hxc; exact h1 wc hbc))
    | ((with_reducible apply go_callq (f := 18) (hf := Try.call18)); (· (cbv; try rfl)); (· intro wc hbc hxc; exact h1 wc hbc))
    | ((with_reducible apply go_callR (f := 19) (hf := Try.call19)); (· intro S; cbv; try rfl); (· intro wc S hbc hxc hrc; exact h2 wc hbc); (· rfl))
    )
  all_goals (try rfl)
  all_goals
    exfalso
    subst hcm
    have q1 := of_decide_eq_false (show decide (at_ < 0) = false by assumption)
    have q2 := of_decide_eq_false (show decide ((N : Int) ≤ at_) = false by assumption)
    omega

set_option maxRecDepth 100000 in
set_option maxHeartbeats 4000000 in
theorem touchesAt (F : GFun) (w : World) (hF : F.At w) (hO : F.Ok) (n : Nat) (hn : n < stN F.sn F.bn) :
    Calls Try.prog 7 #[F.val, .int .i64 (.ofNat n)] w (RetR w (funX F) (.tup [.one (.rs 0), .one (.int .i64 0)]) [touR (ptT F (pbN F n) (piN F n))]) := by
  have h1 (wc : World) (hk : KB ⟨w, []⟩ wc) := hO.chk wc (hF.later hk)
  have h2 (wc : World) (hk : KB ⟨w, []⟩ wc) := pointsC F wc (hF.later hk) hO.small hO.chk
  have h3 (wc : World) (hk : KB ⟨w, []⟩ wc) := touchesC F wc (hF.later hk) hO (pbN F n) (piN F n) (num_pt hn).1
  obtain ⟨R, hR⟩ : ∃ R, R = touR (ptT F (pbN F n) (piN F n)) := ⟨_, rfl⟩
  rw [← hR] at h3 ⊢
  obtain ⟨N, hN⟩ : ∃ N, N = stN F.sn F.bn := ⟨_, rfl⟩
  obtain ⟨pb, hpb⟩ : ∃ f : Nat → Nat, f = pbN F := ⟨_, rfl⟩
  obtain ⟨pi, hpi⟩ : ∃ f : Nat → Nat, f = piN F := ⟨_, rfl⟩
  have h2 (wc : World) (hk : KB ⟨w, []⟩ wc) : Calls Try.prog 19 #[F.val] wc (RetR wc (funX F) (.tup [.one (.rs 0), .one (.int .i64 0)]) [⟨N, 2, fun j => [.int .i64 (.ofNat (pb j)), .int .i64 (.ofNat (pi j))]⟩]) := by
    have := h2 wc hk
    rw [hN, hpb, hpi]; exact this
  rw [← hpb, ← hpi] at h3
  rw [← hN] at hn
  clear hR hN hpb hpi hO
  obtain ⟨pa, un, lA, ln, lc, lk, lt, bA, bn, bc, sA, sn, sc, s, jA, jn, jc, ja, jk, jo, jf, jx, je, jd⟩ := F
  obtain ⟨hX, hl, hb, hs, hj⟩ := hF
  simp only at hl hb hs hj
  refine go_start (args := [.pt (.agg (GFun.dat ⟨pa, un, lA, ln, lc, lk, lt, bA, bn, bc, sA, sn, sc, s, jA, jn, jc, ja, jk, jo, jf, jx, je, jd⟩)), .pt (.one (.int .i64 (.ofNat n)))]) (c := (funX ⟨pa, un, lA, ln, lc, lk, lt, bA, bn, bc, sA, sn, sc, s, jA, jn, jc, ja, jk, jo, jf, jx, je, jd⟩)) Try.func7 rfl hX rfl rfl ?_
  obtain ⟨nd, hnd⟩ : ∃ f : Bool → Bool → Bool, f = and := ⟨_, rfl⟩
  obtain ⟨nt, hnt⟩ : ∃ f : Bool → Bool, f = not := ⟨_, rfl⟩
  obtain ⟨ar, har⟩ : ∃ f : BinOp → IntKind → Int → Int → Int, f = rAr := ⟨_, rfl⟩
  obtain ⟨cm, hcm⟩ : ∃ f : BinOp → Int → Int → Bool, f = rCm := ⟨_, rfl⟩
  obtain ⟨mx, hmx⟩ : ∃ f : Int → Int → Int, f = rMx := ⟨_, rfl⟩
  obtain ⟨mn, hmn⟩ : ∃ f : Int → Int → Int, f = rMn := ⟨_, rfl⟩
  have ar01 : ar .add .i64 0 1 = 1 := by rw [har]; decide
  have ar12 : ar .add .i64 1 1 = 2 := by rw [har]; decide
  obtain ⟨zpl, hzpl⟩ : ∃ f : Nat → Nat → Nat, f = fun x y => x + y := ⟨_, rfl⟩
  obtain ⟨zjn, hzjn⟩ : ∃ f : Nat → (Nat → List SC) → (Nat → List SC) → Nat → List SC, f = rJn := ⟨_, rfl⟩
  obtain ⟨zup, hzup⟩ : ∃ f : (Nat → List SC) → Nat → Nat → List SC → Nat → List SC, f = rUp := ⟨_, rfl⟩
  obtain ⟨zmi, hzmi⟩ : ∃ f : Nat → Nat → Nat, f = fun x y => x - y := ⟨_, rfl⟩
  obtain ⟨zdp, hzdp⟩ : ∃ f : Nat → (Nat → List SC) → Nat → List SC, f = rDp := ⟨_, rfl⟩
  have hT := T0_ok hnd hnt har hcm hmx hmn hzpl hzjn hzup hzmi hzdp
  have q1 : cm .lss (.ofNat n) 0 = false := by rw [hcm]; exact decide_eq_false (Int.not_lt.2 (Int.natCast_nonneg n))
  have q2 : cm .geq (.ofNat n) (.ofNat N) = false := by rw [hcm]; exact decide_eq_false (fun g => absurd (Int.ofNat_le.1 g) (by omega))
  repeat' (first
    | ((with_reducible apply go_ev hT 400); (· (cbv; try rfl)); (fail_if_success with_reducible apply stuck_id))
    | ((with_reducible refine go_brt ?_ ?_); (· first | rfl | assumption | (rw [hcm]; decide)))
    | ((with_reducible refine go_brf ?_ ?_); (· first | rfl | assumption | (rw [hcm]; decide)))
    | ((with_reducible refine go_brnt hnt ?_ ?_); (· first | rfl | assumption))
    | ((with_reducible refine go_brnf hnt ?_ ?_); (· first | rfl | assumption))
    | (with_reducible refine go_brn hnt (fun h => ?_) (fun h => ?_))
    | (with_reducible refine go_brl hcm (fun hlt => ?_) (fun hge => ?_))
    | (with_reducible refine go_br (fun h => ?_) (fun h => ?_))
    | ((with_reducible apply go_ret_val hT); (· (cbv; try rfl)); (· (cbv; try rfl)))
    | ((with_reducible apply go_fin_val hT); (· (cbv; try rfl)); (· (cbv; try rfl)))
    | ((with_reducible apply go_drawE); (· kernel_rfl))
    | (with_reducible refine go_fork ?_)
    | (with_reducible refine fork_cons ?_ ?_)
    | (with_reducible exact fork_nil)
    | ((with_reducible refine go_need ?_ ?_ ?_); (· first | omega | (simp only [Int.ofNat_eq_natCast]; omega)); (· first | omega | (simp only [Int.ofNat_eq_natCast]; omega)))
    | ((with_reducible refine go_ob ?_ ?_); (· first | trivial | (refine ⟨trivial, ?_⟩; omega) | (rw [hzpl]; refine ⟨trivial, ?_⟩; show _ + _ ≤ 1073741824; omega) | (rw [hzpl]; show _ + _ ≤ 1073741824; omega)))
    | ((with_reducible apply go_ret_rows hT); (· (cbv; try rfl)); (· (cbv; try rfl)); (· (cbv; (try simp only [true_and, and_true]); (try ((repeat' apply And.intro) <;> (first | trivial | rfl | decide ))))); (· (cbv; (try simp only [true_and, and_true]); (try ((repeat' apply And.intro) <;> (first | trivial | rfl | exact RowLe.rfl' _ ))))); (· rfl))
    | ((with_reducible apply go_fin_rows hT); (· (cbv; try rfl)); (· (cbv; try rfl)); (· (cbv; (try simp only [true_and, and_true]); (try ((repeat' apply And.intro) <;> (first | trivial | rfl | decide ))))); (· (cbv; (try simp only [true_and, and_true]); (try ((repeat' apply And.intro) <;> (first | trivial | rfl | exact RowLe.rfl' _ ))))); (· rfl))
    | ((with_reducible apply go_call (f := 18) (hf := Try.call18)); (· (cbv; try rfl)); (· intro wc hbc hxc; exact h1 wc hbc))
    | ((with_reducible apply go_callq (f := 18) (hf := Try.call18)); (· (cbv; try rfl)); (· intro wc hbc hxc; exact h1 wc hbc))
    | ((with_reducible apply go_callR (f := 19) (hf := Try.call19)); (· intro S; cbv; try rfl); (· intro wc S hbc hxc hrc; exact h2 wc hbc); (· rfl))
    | ((with_reducible apply go_callR (f := 20) (hf := Try.call20)); (· intro S; cbv; try rfl); (· intro wc S hbc hxc hrc; exact h3 wc hbc); (· rfl))
    | (((with_reducible apply go_need); (· exact Int.natCast_nonneg _); (· exact Int.ofNat_lt.2 (by assumption))))
    )
  all_goals trace_state

end Go.Proofs.Ytgoeinkmndicfaa
