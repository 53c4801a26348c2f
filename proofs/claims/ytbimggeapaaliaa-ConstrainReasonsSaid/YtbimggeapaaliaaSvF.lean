/- Layer 19: each constraint has its reason, the walk. No condition. -/
import Derived.Test.YtbimggeapaaliaaSvD
import Derived.Test.YtbimggeapaaliaaSvE
import Derived.Test.YtbimggeapaaliaaSxL
namespace Go.Proofs.Ytbimggeapaaliaa
open Go.RowKit
set_option linter.unusedVariables false
set_option linter.unusedSimpArgs false

def fitB (F : GFun) : Bool := !greatB F && (!gfB F && decide (rchkV F = 0))
theorem fit_ok {F : GFun} (h : fitB F = true) : F.Ok := by
  simp only [fitB, Bool.and_eq_true, decide_eq_true_eq] at h
  exact (rchk_eq F).symm.trans h.2.2
set_option maxRecDepth 100000 in
set_option maxHeartbeats 4000000 in
theorem fitC (F : GFun) (w : World) (hF : F.At w) (hK : F.Ty8) :
    Calls Try.prog 7 #[F.val] w (Ret w (.bool (fitB F))) := by
  have h1 (wc : World) (hk : KB ⟨w, []⟩ wc) := greatC F wc (hF.later hk)
  have h2 (wc : World) (hk : KB ⟨w, []⟩ wc) := gfC F wc (hF.later hk)
  have h3 (wc : World) (hk : KB ⟨w, []⟩ wc) := rFnChk F wc (hF.later hk) hK
  unfold fitB
  obtain ⟨q1, hq1⟩ : ∃ b, b = greatB F := ⟨_, rfl⟩
  obtain ⟨q2, hq2⟩ : ∃ b, b = gfB F := ⟨_, rfl⟩
  obtain ⟨q3, hq3⟩ : ∃ b, b = rchkV F := ⟨_, rfl⟩
  rw [← hq1] at h1 ⊢
  rw [← hq2] at h2 ⊢
  rw [← hq3] at h3 ⊢
  clear hq1 hq2 hq3 hK
  obtain ⟨pa, un, lA, ln, lc, lk, lt, bA, bn, bc, sA, sn, sc, s, jA, jn, jc, ja, jk, jo, jf, jx, je, jd⟩ := F
  obtain ⟨hX, hl, hb, hs, hj⟩ := hF
  simp only at hl hb hs hj
  refine go_start (args := [.pt (.agg (GFun.dat _))]) (c := (funX _)) Try.func7 rfl hX rfl rfl ?_
  obtain ⟨nd, hnd⟩ : ∃ f : Bool → Bool → Bool, f = and := ⟨_, rfl⟩
  obtain ⟨nt, hnt⟩ : ∃ f : Bool → Bool, f = not := ⟨_, rfl⟩
  obtain ⟨ar, har⟩ : ∃ f : BinOp → IntKind → Int → Int → Int, f = rAr := ⟨_, rfl⟩
  obtain ⟨cm, hcm⟩ : ∃ f : BinOp → Int → Int → Bool, f = rCm := ⟨_, rfl⟩
  obtain ⟨mx, hmx⟩ : ∃ f : Int → Int → Int, f = rMx := ⟨_, rfl⟩
  obtain ⟨mn, hmn⟩ : ∃ f : Int → Int → Int, f = rMn := ⟨_, rfl⟩
  have ar01 : ar .add .i64 0 1 = 1 := by rw [har]; decide
  have ar12 : ar .add .i64 1 1 = 2 := by rw [har]; decide
  obtain ⟨zpl, hzpl⟩ : ∃ f : Nat → Nat → Nat, f = fun x y => x + y := ⟨_, rfl⟩
  obtain ⟨zjn, hzjn⟩ : ∃ f : Nat → (Nat → List SC) → (Nat → List SC) → Nat → List SC, f = rJn := ⟨_, rfl⟩
  obtain ⟨zup, hzup⟩ : ∃ f : (Nat → List SC) → Nat → Nat → List SC → Nat → List SC, f = rUp := ⟨_, rfl⟩
  obtain ⟨zmi, hzmi⟩ : ∃ f : Nat → Nat → Nat, f = fun x y => x - y := ⟨_, rfl⟩
  obtain ⟨zdp, hzdp⟩ : ∃ f : Nat → (Nat → List SC) → Nat → List SC, f = rDp := ⟨_, rfl⟩
  have hT := T0_ok hnd hnt har hcm hmx hmn hzpl hzjn hzup hzmi hzdp
  repeat' (first
    | ((with_reducible apply go_ev hT 400); (· (cbv; try rfl)); (fail_if_success with_reducible apply stuck_id))
    | ((with_reducible refine go_brt ?_ ?_); (· first | rfl | assumption | (rw [hcm]; decide)))
    | ((with_reducible refine go_brf ?_ ?_); (· first | rfl | assumption | (rw [hcm]; decide)))
    | ((with_reducible refine go_brnt hnt ?_ ?_); (· first | rfl | assumption))
    | ((with_reducible refine go_brnf hnt ?_ ?_); (· first | rfl | assumption))
    | (with_reducible refine go_brn hnt (fun h => ?_) (fun h => ?_))
    | (with_reducible refine go_brl hcm (fun hlt => ?_) (fun hge => ?_))
    | (with_reducible refine go_br (fun h => ?_) (fun h => ?_))
    | ((with_reducible apply go_ret_val hT); (· (cbv; try rfl)); (· (cbv; try rfl)))
    | ((with_reducible apply go_fin_val hT); (· (cbv; try rfl)); (· (cbv; try rfl)))
    | ((with_reducible apply go_draw); (· rfl); (· kernel_rfl); (· kernel_rfl))
    | ((with_reducible apply go_drawE); (· kernel_rfl))
    | (with_reducible refine go_fork ?_)
    | (with_reducible refine fork_cons ?_ ?_)
    | (with_reducible exact fork_nil)
    | ((with_reducible refine go_need ?_ ?_ ?_); (· first | omega | (simp only [Int.ofNat_eq_natCast]; omega)); (· first | omega | (simp only [Int.ofNat_eq_natCast]; omega)))
    | ((with_reducible refine go_ob ?_ ?_); (· first | trivial | (refine ⟨trivial, ?_⟩; omega) | (rw [hzpl]; refine ⟨trivial, ?_⟩; show _ + _ ≤ 1073741824; omega) | (rw [hzpl]; show _ + _ ≤ 1073741824; omega)))
    | ((with_reducible apply go_ret_rows hT); (· (cbv; try rfl)); (· (cbv; try rfl)); (· (cbv; (try simp only [true_and, and_true]); (try ((repeat' apply And.intro) <;> (first | trivial | rfl | decide ))))); (· (cbv; (try simp only [true_and, and_true]); (try ((repeat' apply And.intro) <;> (first | trivial | rfl | exact RowLe.rfl' _ ))))); (· rfl))
    | ((with_reducible apply go_fin_rows hT); (· (cbv; try rfl)); (· (cbv; try rfl)); (· (cbv; (try simp only [true_and, and_true]); (try ((repeat' apply And.intro) <;> (first | trivial | rfl | decide ))))); (· (cbv; (try simp only [true_and, and_true]); (try ((repeat' apply And.intro) <;> (first | trivial | rfl | exact RowLe.rfl' _ ))))); (· rfl))
    | ((with_reducible apply go_call_bool (f := 20) (hf := Try.call20)); (· (cbv; try rfl)); (· intro wc hbc hxc; exact h1 wc hbc); intro z hz)
    | ((with_reducible apply go_callq_bool (f := 20) (hf := Try.call20)); (· (cbv; try rfl)); (· intro wc hbc hxc; exact h1 wc hbc); intro z hz)
    | ((with_reducible apply go_call_bool (f := 21) (hf := Try.call21)); (· (cbv; try rfl)); (· intro wc hbc hxc; exact h2 wc hbc); intro z hz)
    | ((with_reducible apply go_callq_bool (f := 21) (hf := Try.call21)); (· (cbv; try rfl)); (· intro wc hbc hxc; exact h2 wc hbc); intro z hz)
    | ((with_reducible apply go_call_int (f := 14) (hf := Try.call14)); (· (cbv; try rfl)); (· intro wc hbc hxc; exact h3 wc hbc); intro z hz)
    | ((with_reducible apply go_callq_int (f := 14) (hf := Try.call14)); (· (cbv; try rfl)); (· intro wc hbc hxc; exact h3 wc hbc); intro z hz)
    )
  all_goals (refine bool_eq ?_; clear hX hT h1 h2 h3; subst hnd hnt; subst_vars; simp_all)

set_option maxRecDepth 100000 in
theorem localC (n : Int) (w : World) :
    Calls Try.prog 12 #[.int .i64 n] w (Ret w (.agg #[.int .i64 n, .bool false, .int .u8 0])) := by
  refine go_start (args := [.pt (.one (.int .i64 n))]) (c := NoRows) Try.func12 rfl (noRows_ok _) rfl rfl ?_
  obtain ⟨nd, hnd⟩ : ∃ f : Bool → Bool → Bool, f = and := ⟨_, rfl⟩
  obtain ⟨nt, hnt⟩ : ∃ f : Bool → Bool, f = not := ⟨_, rfl⟩
  obtain ⟨ar, har⟩ : ∃ f : BinOp → IntKind → Int → Int → Int, f = rAr := ⟨_, rfl⟩
  obtain ⟨cm, hcm⟩ : ∃ f : BinOp → Int → Int → Bool, f = rCm := ⟨_, rfl⟩
  obtain ⟨mx, hmx⟩ : ∃ f : Int → Int → Int, f = rMx := ⟨_, rfl⟩
  obtain ⟨mn, hmn⟩ : ∃ f : Int → Int → Int, f = rMn := ⟨_, rfl⟩
  have ar01 : ar .add .i64 0 1 = 1 := by rw [har]; decide
  have ar12 : ar .add .i64 1 1 = 2 := by rw [har]; decide
  obtain ⟨zpl, hzpl⟩ : ∃ f : Nat → Nat → Nat, f = fun x y => x + y := ⟨_, rfl⟩
  obtain ⟨zjn, hzjn⟩ : ∃ f : Nat → (Nat → List SC) → (Nat → List SC) → Nat → List SC, f = rJn := ⟨_, rfl⟩
  obtain ⟨zup, hzup⟩ : ∃ f : (Nat → List SC) → Nat → Nat → List SC → Nat → List SC, f = rUp := ⟨_, rfl⟩
  obtain ⟨zmi, hzmi⟩ : ∃ f : Nat → Nat → Nat, f = fun x y => x - y := ⟨_, rfl⟩
  obtain ⟨zdp, hzdp⟩ : ∃ f : Nat → (Nat → List SC) → Nat → List SC, f = rDp := ⟨_, rfl⟩
  have hT := T0_ok hnd hnt har hcm hmx hmn hzpl hzjn hzup hzmi hzdp
  repeat' (first
    | ((with_reducible apply go_ev hT 400); (· (cbv; try rfl)); (fail_if_success with_reducible apply stuck_id))
    | ((with_reducible refine go_brt ?_ ?_); (· first | rfl | assumption | (rw [hcm]; decide)))
    | ((with_reducible refine go_brf ?_ ?_); (· first | rfl | assumption | (rw [hcm]; decide)))
    | ((with_reducible refine go_brnt hnt ?_ ?_); (· first | rfl | assumption))
    | ((with_reducible refine go_brnf hnt ?_ ?_); (· first | rfl | assumption))
    | (with_reducible refine go_brn hnt (fun h => ?_) (fun h => ?_))
    | (with_reducible refine go_brl hcm (fun hlt => ?_) (fun hge => ?_))
    | (with_reducible refine go_br (fun h => ?_) (fun h => ?_))
    | ((with_reducible apply go_ret_val hT); (· (cbv; try rfl)); (· (cbv; try rfl)))
    | ((with_reducible apply go_fin_val hT); (· (cbv; try rfl)); (· (cbv; try rfl)))
    | ((with_reducible apply go_draw); (· rfl); (· kernel_rfl); (· kernel_rfl))
    | ((with_reducible apply go_drawE); (· kernel_rfl))
    | (with_reducible refine go_fork ?_)
    | (with_reducible refine fork_cons ?_ ?_)
    | (with_reducible exact fork_nil)
    | ((with_reducible refine go_need ?_ ?_ ?_); (· first | omega | (simp only [Int.ofNat_eq_natCast]; omega)); (· first | omega | (simp only [Int.ofNat_eq_natCast]; omega)))
    | ((with_reducible refine go_ob ?_ ?_); (· first | trivial | (refine ⟨trivial, ?_⟩; omega) | (rw [hzpl]; refine ⟨trivial, ?_⟩; show _ + _ ≤ 1073741824; omega) | (rw [hzpl]; show _ + _ ≤ 1073741824; omega)))
    | ((with_reducible apply go_ret_rows hT); (· (cbv; try rfl)); (· (cbv; try rfl)); (· (cbv; (try simp only [true_and, and_true]); (try ((repeat' apply And.intro) <;> (first | trivial | rfl | decide ))))); (· (cbv; (try simp only [true_and, and_true]); (try ((repeat' apply And.intro) <;> (first | trivial | rfl | exact RowLe.rfl' _ ))))); (· rfl))
    | ((with_reducible apply go_fin_rows hT); (· (cbv; try rfl)); (· (cbv; try rfl)); (· (cbv; (try simp only [true_and, and_true]); (try ((repeat' apply And.intro) <;> (first | trivial | rfl | decide ))))); (· (cbv; (try simp only [true_and, and_true]); (try ((repeat' apply And.intro) <;> (first | trivial | rfl | exact RowLe.rfl' _ ))))); (· rfl))
    )
  all_goals rfl

set_option maxRecDepth 100000 in
set_option maxHeartbeats 8000000 in
theorem reasonsC (F : GFun) (w : World) (hF : F.At w) (hK : F.Ty8) :
    Calls Try.prog 3 #[F.val] w (Ret w (.bool true)) := by
  have h1 (wc : World) (hk : KB ⟨w, []⟩ wc) := fitC F wc (hF.later hk) hK
  by_cases hO : fitB F = true
  case neg =>
    have e : fitB F = false := by simpa using hO
    rw [e] at h1
    clear hK hO e
    obtain ⟨pa, un, lA, ln, lc, lk, lt, bA, bn, bc, sA, sn, sc, s, jA, jn, jc, ja, jk, jo, jf, jx, je, jd⟩ := F
    obtain ⟨hX, hl, hb, hs, hj⟩ := hF
    simp only at hl hb hs hj
    refine go_start (args := [.pt (.agg (GFun.dat _))]) (c := (funX _)) Try.func3 rfl hX rfl rfl ?_
    obtain ⟨nd, hnd⟩ : ∃ f : Bool → Bool → Bool, f = and := ⟨_, rfl⟩
    obtain ⟨nt, hnt⟩ : ∃ f : Bool → Bool, f = not := ⟨_, rfl⟩
    obtain ⟨ar, har⟩ : ∃ f : BinOp → IntKind → Int → Int → Int, f = rAr := ⟨_, rfl⟩
    obtain ⟨cm, hcm⟩ : ∃ f : BinOp → Int → Int → Bool, f = rCm := ⟨_, rfl⟩
    obtain ⟨mx, hmx⟩ : ∃ f : Int → Int → Int, f = rMx := ⟨_, rfl⟩
    obtain ⟨mn, hmn⟩ : ∃ f : Int → Int → Int, f = rMn := ⟨_, rfl⟩
    have ar01 : ar .add .i64 0 1 = 1 := by rw [har]; decide
    have ar12 : ar .add .i64 1 1 = 2 := by rw [har]; decide
    obtain ⟨zpl, hzpl⟩ : ∃ f : Nat → Nat → Nat, f = fun x y => x + y := ⟨_, rfl⟩
    obtain ⟨zjn, hzjn⟩ : ∃ f : Nat → (Nat → List SC) → (Nat → List SC) → Nat → List SC, f = rJn := ⟨_, rfl⟩
    obtain ⟨zup, hzup⟩ : ∃ f : (Nat → List SC) → Nat → Nat → List SC → Nat → List SC, f = rUp := ⟨_, rfl⟩
    obtain ⟨zmi, hzmi⟩ : ∃ f : Nat → Nat → Nat, f = fun x y => x - y := ⟨_, rfl⟩
    obtain ⟨zdp, hzdp⟩ : ∃ f : Nat → (Nat → List SC) → Nat → List SC, f = rDp := ⟨_, rfl⟩
    have hT := T0_ok hnd hnt har hcm hmx hmn hzpl hzjn hzup hzmi hzdp
    repeat' (first
      | ((with_reducible apply go_ev hT 400); (· (cbv; try rfl)); (fail_if_success with_reducible apply stuck_id))
      | ((with_reducible refine go_brt ?_ ?_); (· first | rfl | assumption | (rw [hcm]; decide)))
      | ((with_reducible refine go_brf ?_ ?_); (· first | rfl | assumption | (rw [hcm]; decide)))
      | ((with_reducible refine go_brnt hnt ?_ ?_); (· first | rfl | assumption))
      | ((with_reducible refine go_brnf hnt ?_ ?_); (· first | rfl | assumption))
      | (with_reducible refine go_brn hnt (fun h => ?_) (fun h => ?_))
      | (with_reducible refine go_brl hcm (fun hlt => ?_) (fun hge => ?_))
      | (with_reducible refine go_br (fun h => ?_) (fun h => ?_))
      | ((with_reducible apply go_ret_val hT); (· (cbv; try rfl)); (· (cbv; try rfl)))
      | ((with_reducible apply go_fin_val hT); (· (cbv; try rfl)); (· (cbv; try rfl)))
      | ((with_reducible apply go_draw); (· rfl); (· kernel_rfl); (· kernel_rfl))
      | ((with_reducible apply go_drawE); (· kernel_rfl))
      | (with_reducible refine go_fork ?_)
      | (with_reducible refine fork_cons ?_ ?_)
      | (with_reducible exact fork_nil)
      | ((with_reducible refine go_need ?_ ?_ ?_); (· first | omega | (simp only [Int.ofNat_eq_natCast]; omega)); (· first | omega | (simp only [Int.ofNat_eq_natCast]; omega)))
      | ((with_reducible refine go_ob ?_ ?_); (· first | trivial | (refine ⟨trivial, ?_⟩; omega) | (rw [hzpl]; refine ⟨trivial, ?_⟩; show _ + _ ≤ 1073741824; omega) | (rw [hzpl]; show _ + _ ≤ 1073741824; omega)))
      | ((with_reducible apply go_ret_rows hT); (· (cbv; try rfl)); (· (cbv; try rfl)); (· (cbv; (try simp only [true_and, and_true]); (try ((repeat' apply And.intro) <;> (first | trivial | rfl | decide ))))); (· (cbv; (try simp only [true_and, and_true]); (try ((repeat' apply And.intro) <;> (first | trivial | rfl | exact RowLe.rfl' _ ))))); (· rfl))
      | ((with_reducible apply go_fin_rows hT); (· (cbv; try rfl)); (· (cbv; try rfl)); (· (cbv; (try simp only [true_and, and_true]); (try ((repeat' apply And.intro) <;> (first | trivial | rfl | decide ))))); (· (cbv; (try simp only [true_and, and_true]); (try ((repeat' apply And.intro) <;> (first | trivial | rfl | exact RowLe.rfl' _ ))))); (· rfl))
      | ((with_reducible apply go_call (f := 6) (hf := Try.call6)); (· (cbv; try rfl)); (· intro wc hbc hxc; exact aliveC wc))
      | ((with_reducible apply go_callq (f := 6) (hf := Try.call6)); (· (cbv; try rfl)); (· intro wc hbc hxc; exact aliveC wc))
      | ((with_reducible apply go_call (f := 7) (hf := Try.call7)); (· (cbv; try rfl)); (· intro wc hbc hxc; exact h1 wc hbc))
      | ((with_reducible apply go_callq (f := 7) (hf := Try.call7)); (· (cbv; try rfl)); (· intro wc hbc hxc; exact h1 wc hbc))
      )
    all_goals rfl
  rw [hO] at h1
  have hO := fit_ok hO
  have h2 (wc : World) (hk : KB ⟨w, []⟩ wc) := allConC F wc (hF.later hk) hO.small hO.nearS hO.chk
  have h3 (wc : World) (hk : KB ⟨w, []⟩ wc) := loanPtsC F wc (hF.later hk) hO.small
  have h4 (wc : World) (hk : KB ⟨w, []⟩ wc) := sizeC F wc (hF.later hk) hO.small
  have h5 (wc : World) (hk : KB ⟨w, []⟩ wc) := stmtN F wc (hF.later hk) hO.small
  have hL := @conTo_at F (n := stN F.sn F.bn)
  have hM := hO.cons
  have hN9 := hO.pts
  have hq := fun n => hO.nearAt (n := n)
  rw [allCon_to] at h2 hM
  have hlp := fun {a : Nat} (x1 : isAt F a = true) (x2 : (stAt F a).k = 1) (x3 : (stAt F a).r.k = 4) => loanPts_at x1 x2 x3 (stN F.sn F.bn)
  have hl16 := hO.ln16
  obtain ⟨N, hN⟩ : ∃ N, N = stN F.sn F.bn := ⟨_, rfl⟩
  obtain ⟨L, hLL⟩ : ∃ L, L = conTo F (stN F.sn F.bn) := ⟨_, rfl⟩
  obtain ⟨M, hMM⟩ : ∃ M, M = (conTo F (stN F.sn F.bn)).length := ⟨_, rfl⟩
  obtain ⟨fr, hfr⟩ : ∃ f : Nat → Int, f = fun j => (L.getD j .zero).fr := ⟨_, rfl⟩
  obtain ⟨tn, htn⟩ : ∃ f : Nat → Nat, f = fun j => (L.getD j .zero).to.toNat := ⟨_, rfl⟩
  obtain ⟨an, han⟩ : ∃ f : Nat → Nat, f = fun j => (L.getD j .zero).at_.toNat := ⟨_, rfl⟩
  obtain ⟨wy, hwy⟩ : ∃ f : Nat → Int, f = fun j => (L.getD j .zero).why := ⟨_, rfl⟩
  obtain ⟨fn, hfn⟩ : ∃ f : Nat → Nat, f = fun j => (L.getD j .zero).fr.toNat := ⟨_, rfl⟩
  obtain ⟨lq, hlq⟩ : ∃ f : Nat → Nat, f = fun j => (loanPts F (an j)).length := ⟨_, rfl⟩
  obtain ⟨Pn, hPn⟩ : ∃ n, n = (loanPts F (stN F.sn F.bn)).length := ⟨_, rfl⟩
  obtain ⟨pq, hpq⟩ : ∃ f : Nat → Nat, f = fun j => (loanPts F (stN F.sn F.bn)).getD j 0 := ⟨_, rfl⟩
  obtain ⟨ia, hia⟩ : ∃ f : Nat → Bool, f = isAt F := ⟨_, rfl⟩
  obtain ⟨sa, hsa⟩ : ∃ f : Nat → GStmt, f = stAt F := ⟨_, rfl⟩
  have hPR : natR (loanPts F (stN F.sn F.bn)) = ⟨Pn, 1, fun j => [.int .i64 (.ofNat (pq j))]⟩ := by rw [natR, hPn, hpq]
  have key : ∀ i, i < M → an i < N ∧ ConAt F N L i (an i) ∧ (L.getD i .zero).to = .ofNat (tn i) := fun i hi => by
    obtain ⟨a, ha⟩ := hL (i := i) (by omega)
    rw [← hLL, ← hN] at ha
    have e : an i = a := by rw [han]; simp only [ha.ok.at_]; rfl
    rw [e]
    refine ⟨ha.lt, ha, ?_⟩
    have := (hq a (hN ▸ ha.lt) ha.ok.is ha.ok.k).1.1
    rw [ha.ok.to] at this
    rw [htn]; simp only [Int.ofNat_eq_natCast]; omega
  have hCR : conR L = ⟨M, 4, fun j => [.int .i64 (fr j), .int .i64 (.ofNat (tn j)), .int .i64 (.ofNat (an j)), .int .u8 (wy j)]⟩ := by
    rw [conR, hMM, hLL]
    congr 1
    funext j
    by_cases hj : j < M
    · obtain ⟨_, h, h'⟩ := key j hj
      have ha : (L.getD j .zero).at_ = .ofNat (an j) := h.ok.at_
      rw [← hLL, hfr, hwy, ← h', ← ha]; rfl
    · have hz : L.getD j .zero = .zero := by
        rw [hLL]; simp [List.getD, List.getElem?_eq_none (show (conTo F (stN F.sn F.bn)).length ≤ j by omega)]
      rw [← hLL, hz, hfr, hwy, htn, han]
      simp only [hz]; rfl
  rw [← hLL, hCR] at h2
  rw [hPR] at h3
  have g1 : ∀ i, i < M → an i < N := fun i hi => (key i hi).1
  have g2 : ∀ i, i < M → 0 < i → an (i - 1) ≤ an i := fun i hi h0 => by
    have := (key i hi).2.1.up h0
    have h' := (key (i - 1) (by omega)).2.1.ok.at_
    rw [h'] at this
    simpa using this
  have g3 : ∀ i, i < M → ia (an i) = true ∧ (sa (an i)).k = 1 ∧ (sa (an i)).p.l = .ofNat (tn i) ∧ (sa (an i)).p.d = false ∧ (sa (an i)).p.f = 0 := fun i hi => by
    obtain ⟨_, h, h'⟩ := key i hi
    rw [hia, hsa, ← h']
    exact ⟨h.ok.is, h.ok.k, h.ok.to, h.ok.d, h.ok.f⟩
  have g4 : ∀ i, i < M → wy i = 2 → fr i = .ofNat (F.ln + lq i) ∧ lq i < Pn ∧ pq (lq i) = an i ∧ (sa (an i)).r.k = 4 := fun i hi hw => by
    obtain ⟨h0, h, _⟩ := key i hi
    rw [hwy] at hw
    have hw : (L.getD i .zero).why = 2 := hw
    have hc : (L.getD i .zero).fr = .ofNat (F.ln + (loanPts F (an i)).length) ∧ (stAt F (an i)).r.k = 4 := by
      rcases h.ok.why with h | h | h
      · exact h.2
      · omega
      · omega
    obtain ⟨e1, e2⟩ := hlp h.ok.is h.ok.k hc.2 (hN ▸ h0)
    rw [hfr, hlq, hPn, hpq, hsa]
    exact ⟨hc.1, e1, e2, hc.2⟩
  have g5 : ∀ i, i < M → wy i = 3 → (sa (an i)).r.k = 4 ∧ (sa (an i)).r.p.d = true ∧ (sa (an i)).r.p.l = fr i ∧ 0 < i ∧ an (i - 1) = an i ∧ wy (i - 1) = 2 := fun i hi hw => by
    obtain ⟨_, h, _⟩ := key i hi
    rw [hwy] at hw
    have hw : (L.getD i .zero).why = 3 := hw
    obtain ⟨p1, p2, p3⟩ := h.past hw
    have p4 := (key (i - 1) (by omega)).2.1.ok.at_
    rw [p2] at p4
    have p5 : an (i - 1) = an i := Int.ofNat.inj p4.symm
    rcases h.ok.why with h | h | h
    · omega
    · rw [hsa, hfr, hwy]
      exact ⟨h.2.1, h.2.2.1, h.2.2.2.1, p1, p5, p3⟩
    · omega
  have g6 : ∀ i, i < M → wy i = 1 → fr i = .ofNat (fn i) ∧ fn i < F.ln ∧ tn i < F.ln ∧ (sa (an i)).r.k = 1 ∧ (sa (an i)).r.a.k ≠ 1 ∧ (sa (an i)).r.a.p.l = .ofNat (fn i) ∧ (sa (an i)).r.a.p.d = false ∧ (sa (an i)).r.a.p.f = 0 ∧ isRef (F.lk (fn i)) = true ∧ isRef (F.lk (tn i)) = true := fun i hi hw => by
    obtain ⟨h0, h, h'⟩ := key i hi
    rw [hwy] at hw
    have hw : (L.getD i .zero).why = 1 := hw
    have hn := hq (an i) (hN ▸ h0) h.ok.is h.ok.k
    rcases h.ok.why with h1 | h1 | h1
    · omega
    · omega
    · obtain ⟨_, e1, e2, e3, e4, e5, e6, e7⟩ := h1
      have hfe : (L.getD i .zero).fr = .ofNat (fn i) := by
        rw [hfn]; have := hn.2.2.1; rw [e3] at this; simp only [Int.ofNat_eq_natCast]; omega
      have hfl := hn.2.2.2
      have htl := hn.1.2
      rw [e3, hfe] at hfl
      rw [h.ok.to, h'] at htl
      simp only [Int.ofNat_eq_natCast] at hfl htl
      rw [hfe] at e6
      rw [h'] at e7
      rw [hfr, hsa]
      exact ⟨hfe, by omega, by omega, e1, e2, by rw [e3, hfe], e4, e5, e6, e7⟩
  have g7 : ∀ i, i < M → wy i = 1 ∨ wy i = 2 ∨ wy i = 3 := fun i hi => by
    rw [hwy]
    rcases (key i hi).2.1.ok.why with h | h | h
    · exact .inr (.inl h.1)
    · exact .inr (.inr h.1)
    · exact .inl h.1
  have hP9 : Pn ≤ 600 := by have := loanPts_len F (stN F.sn F.bn); omega
  have hM1 : M ≤ 1152 := by rw [hMM]; exact hM
  rw [← hN] at h4 hN9
  simp only [← hN, ← hia, ← hsa] at h5
  clear key hCR hPR hL hM hMM hLL hfr htn han hwy hfn hlq hPn hpq hia hsa hlp hq hN hO hK
  obtain ⟨pr, hpr⟩ : ∃ f : Nat → Nat, f = fun n => n - 1 := ⟨_, rfl⟩
  have g2 : ∀ i, i < M → 0 < i → an (pr i) ≤ an i := by rw [hpr]; exact g2
  have g5 : ∀ i, i < M → wy i = 3 → (sa (an i)).r.k = 4 ∧ (sa (an i)).r.p.d = true ∧ (sa (an i)).r.p.l = fr i ∧ 0 < i ∧ an (pr i) = an i ∧ wy (pr i) = 2 := by rw [hpr]; exact g5
  have prl : ∀ i, i < M → 0 < i → pr i < M := fun i h _ => by rw [hpr]; show i - 1 < M; omega
  obtain ⟨pa, un, lA, ln, lc, lk, lt, bA, bn, bc, sA, sn, sc, s, jA, jn, jc, ja, jk, jo, jf, jx, je, jd⟩ := F
  obtain ⟨hX, hl, hb, hs, hj⟩ := hF
  simp only at hl hb hs hj
  simp only [] at g4 g6 hl16 h1 h2 h3 h4 h5
  refine go_start (args := [.pt (.agg (GFun.dat _))]) (c := (funX _)) Try.func3 rfl hX rfl rfl ?_
  obtain ⟨nd, hnd⟩ : ∃ f : Bool → Bool → Bool, f = and := ⟨_, rfl⟩
  obtain ⟨nt, hnt⟩ : ∃ f : Bool → Bool, f = not := ⟨_, rfl⟩
  obtain ⟨ar, har⟩ : ∃ f : BinOp → IntKind → Int → Int → Int, f = rAr := ⟨_, rfl⟩
  obtain ⟨cm, hcm⟩ : ∃ f : BinOp → Int → Int → Bool, f = rCm := ⟨_, rfl⟩
  obtain ⟨mx, hmx⟩ : ∃ f : Int → Int → Int, f = rMx := ⟨_, rfl⟩
  obtain ⟨mn, hmn⟩ : ∃ f : Int → Int → Int, f = rMn := ⟨_, rfl⟩
  have ar01 : ar .add .i64 0 1 = 1 := by rw [har]; decide
  have ar12 : ar .add .i64 1 1 = 2 := by rw [har]; decide
  obtain ⟨zpl, hzpl⟩ : ∃ f : Nat → Nat → Nat, f = fun x y => x + y := ⟨_, rfl⟩
  obtain ⟨zjn, hzjn⟩ : ∃ f : Nat → (Nat → List SC) → (Nat → List SC) → Nat → List SC, f = rJn := ⟨_, rfl⟩
  obtain ⟨zup, hzup⟩ : ∃ f : (Nat → List SC) → Nat → Nat → List SC → Nat → List SC, f = rUp := ⟨_, rfl⟩
  obtain ⟨zmi, hzmi⟩ : ∃ f : Nat → Nat → Nat, f = fun x y => x - y := ⟨_, rfl⟩
  obtain ⟨zdp, hzdp⟩ : ∃ f : Nat → (Nat → List SC) → Nat → List SC, f = rDp := ⟨_, rfl⟩
  have hT := T0_ok hnd hnt har hcm hmx hmn hzpl hzjn hzup hzmi hzdp
  have hpos : ∀ i : Nat, cm .gtr (.ofNat i) 0 = true → 0 < i := fun i h => by
    rw [hcm] at h
    have := of_decide_eq_true (show decide ((0 : Int) < (i : Int)) = true from h)
    omega
  have hsub : ∀ i, i < M → 0 < i → ar .sub .i64 (.ofNat i) 1 = .ofNat (pr i) := fun i hi h0 => by
    have := sub_nat har (i := i) (n := 1) h0 (by omega)
    rw [hpr]; exact this
  have hfs : ∀ i, i < M → wy i = 2 → ar .sub .i64 (fr i) (.ofNat ln) = .ofNat (lq i) := fun i hi hw => by
    have h := g4 i hi hw
    rw [h.1, sub_nat har (by omega) (by omega)]
    congr 1; omega
  have hpos2 : ∀ i : Nat, decide (Int.ofNat i = 0) = false → 0 < i := fun i h => by
    have := of_decide_eq_false h
    simp only [Int.ofNat_eq_natCast] at this
    omega
  repeat' (first
    | ((with_reducible apply go_ev hT 400); (· (cbv; try rfl)); (fail_if_success with_reducible apply stuck_id))
    | ((with_reducible refine go_brt ?_ ?_); (· first | rfl | assumption | (rw [hcm]; decide)))
    | ((with_reducible refine go_brf ?_ ?_); (· first | rfl | assumption | (rw [hcm]; decide)))
    | ((with_reducible refine go_brnt hnt ?_ ?_); (· first | rfl | assumption))
    | ((with_reducible refine go_brnf hnt ?_ ?_); (· first | rfl | assumption))
    | (with_reducible refine go_brn hnt (fun h => ?_) (fun h => ?_))
    | (with_reducible refine go_brl hcm (fun hlt => ?_) (fun hge => ?_))
    | (with_reducible refine go_br (fun h => ?_) (fun h => ?_))
    | ((with_reducible apply go_ret_val hT); (· (cbv; try rfl)); (· (cbv; try rfl)))
    | ((with_reducible apply go_fin_val hT); (· (cbv; try rfl)); (· (cbv; try rfl)))
    | ((with_reducible apply go_draw); (· rfl); (· kernel_rfl); (· kernel_rfl))
    | ((with_reducible apply go_drawE); (· kernel_rfl))
    | (with_reducible refine go_fork ?_)
    | (with_reducible refine fork_cons ?_ ?_)
    | (with_reducible exact fork_nil)
    | ((with_reducible refine go_need ?_ ?_ ?_); (· first | omega | (simp only [Int.ofNat_eq_natCast]; omega)); (· first | omega | (simp only [Int.ofNat_eq_natCast]; omega)))
    | ((with_reducible refine go_ob ?_ ?_); (· first | trivial | (refine ⟨trivial, ?_⟩; omega) | (rw [hzpl]; refine ⟨trivial, ?_⟩; show _ + _ ≤ 1073741824; omega) | (rw [hzpl]; show _ + _ ≤ 1073741824; omega)))
    | ((with_reducible apply go_ret_rows hT); (· (cbv; try rfl)); (· (cbv; try rfl)); (· (cbv; (try simp only [true_and, and_true]); (try ((repeat' apply And.intro) <;> (first | trivial | rfl | decide ))))); (· (cbv; (try simp only [true_and, and_true]); (try ((repeat' apply And.intro) <;> (first | trivial | rfl | exact RowLe.rfl' _ ))))); (· rfl))
    | ((with_reducible apply go_fin_rows hT); (· (cbv; try rfl)); (· (cbv; try rfl)); (· (cbv; (try simp only [true_and, and_true]); (try ((repeat' apply And.intro) <;> (first | trivial | rfl | decide ))))); (· (cbv; (try simp only [true_and, and_true]); (try ((repeat' apply And.intro) <;> (first | trivial | rfl | exact RowLe.rfl' _ ))))); (· rfl))
    | ((with_reducible apply go_call (f := 6) (hf := Try.call6)); (· (cbv; try rfl)); (· intro wc hbc hxc; exact aliveC wc))
    | ((with_reducible apply go_callq (f := 6) (hf := Try.call6)); (· (cbv; try rfl)); (· intro wc hbc hxc; exact aliveC wc))
    | ((with_reducible apply go_call (f := 7) (hf := Try.call7)); (· (cbv; try rfl)); (· intro wc hbc hxc; exact h1 wc hbc))
    | ((with_reducible apply go_callq (f := 7) (hf := Try.call7)); (· (cbv; try rfl)); (· intro wc hbc hxc; exact h1 wc hbc))
    | ((rw [hsub i (by assumption) (hpos2 i (by assumption))]))
    | ((rw [(g6 i (by assumption) (of_decide_eq_true (by assumption))).1]))
    | (((with_reducible apply go_need); (· exact Int.natCast_nonneg _); (· first | exact Int.ofNat_lt.2 (prl i (by assumption) (hpos i (by assumption))) | exact Int.ofNat_lt.2 (prl i (by assumption) (hpos2 i (by assumption))) | exact Int.ofNat_lt.2 (g4 i (by assumption) (of_decide_eq_true (by assumption))).2.1 | exact Int.ofNat_lt.2 (g6 i (by assumption) (of_decide_eq_true (by assumption))).2.1 | exact Int.ofNat_lt.2 (g6 i (by assumption) (of_decide_eq_true (by assumption))).2.2.1)))
    | ((with_reducible apply go_callR (f := 8) (hf := Try.call8)); (· intro S; cbv; try rfl); (· intro wc S hbc hxc hrc; exact h2 wc hbc); (· rfl))
    | ((with_reducible apply go_callR (f := 9) (hf := Try.call9)); (· intro S; cbv; try rfl); (· intro wc S hbc hxc hrc; exact h3 wc hbc); (· rfl))
    | ((with_reducible apply go_call (f := 10) (hf := Try.call10)); (· (cbv; try rfl)); (· intro wc hbc hxc; exact h4 wc hbc))
    | ((with_reducible apply go_callq (f := 10) (hf := Try.call10)); (· (cbv; try rfl)); (· intro wc hbc hxc; exact h4 wc hbc))
    | ((with_reducible apply go_call (f := 11) (hf := Try.call11)); (· (cbv; try rfl)); (· intro wc hbc hxc; exact h5 wc hbc (an i) (g1 i (by assumption))))
    | ((with_reducible apply go_callq (f := 11) (hf := Try.call11)); (· (cbv; try rfl)); (· intro wc hbc hxc; exact h5 wc hbc (an i) (g1 i (by assumption))))
    | ((with_reducible apply go_call (f := 12) (hf := Try.call12)); (· (cbv; try rfl)); (· intro wc hbc hxc; exact localC _ wc))
    | ((with_reducible apply go_callq (f := 12) (hf := Try.call12)); (· (cbv; try rfl)); (· intro wc hbc hxc; exact localC _ wc))
    | ((with_reducible apply go_call_bool (f := 13) (hf := Try.call13)); (· (cbv; try rfl)); (· intro wc hbc hxc; exact rReference _ _ wc); intro z hz)
    | ((with_reducible apply go_callq_bool (f := 13) (hf := Try.call13)); (· (cbv; try rfl)); (· intro wc hbc hxc; exact rReference _ _ wc); intro z hz)
    | ((rw [hsub i (by assumption) (hpos i (by assumption))]))
    | ((rw [hfs i (by assumption) (of_decide_eq_true (by assumption))]))
    | ((with_reducible refine go_loopk (σ := {i : Nat // i ≤ M}) [2, 8, 9, 10, 11, 35, 36, 37, 38, 39, 40, 41, 42, 43, 44, 45, 46, 47, 48, 49, 50, 51, 52, 53, 54, 55, 56, 57, 58, 59, 60, 61, 62, 63, 64, 65, 66, 67, 68, 69, 70, 71, 72, 73, 74, 75, 76, 77, 78, 79, 80, 81, 82, 83, 84, 85, 86, 87, 88, 89, 90, 91, 92, 93, 94, 95, 96, 97, 98, 99, 100, 101, 102, 103, 104, 105, 106, 107, 108, 109, 110, 111, 112, 113, 114, 115, 116, 117, 118, 119, 120, 121, 122, 123, 124, 125, 126, 127, 128, 129, 130, 131, 132, 133, 134, 135, 136, 137, 138, 139, 140, 141, 142, 143, 144, 145, 146, 147, 148, 149, 150, 151, 152, 153, 154, 155, 156, 157, 158, 159, 160, 161, 162, 163, 164, 165, 166, 167, 168, 169, 170, 171, 172, 173, 174, 175, 176, 177, 178, 179, 180, 181, 182, 183, 184, 185, 186, 187, 188, 189, 190, 191, 192, 193, 194, 195, 196, 197, 198, 199, 200, 201, 202, 203, 204, 205, 206, 207, 208, 209, 210, 211, 212, 213] (fun x => [(7, .pt (.one (.int .i64 (.ofNat x.1))))]) (fun x => []) (fun x => []) (fun x => M - x.1) ⟨0, by omega⟩ ?_ ?_ ?_ ?_); (· (refine le_mk ?_ ?_ ?_ ?_ <;> (cbv; (try simp only [true_and, and_true]); (try ((repeat' apply And.intro) <;> (first | trivial | rfl | exact RowLe.rfl' _ | (rw [wrap_nat har _ (by omega)]))))))); (· (cbv; try rfl)); (· simp); (rintro ⟨i, hi⟩ mm hmm; refine halt ?_))
    | ((with_reducible refine go_stop ⟨i + 1, by omega⟩ ?_ ?_ ?_ ?_); (· exact Nat.lt_of_lt_of_eq (show M - (i + 1) < M - i from by omega) (Eq.symm (by assumption))); (· (refine le_mk ?_ ?_ ?_ ?_ <;> (cbv; (try simp only [true_and, and_true]); (try ((repeat' apply And.intro) <;> (first | trivial | rfl | exact RowLe.rfl' _ | (rw [wrap_nat har _ (by omega)]))))))); (· (cbv; try rfl)); (· simp))
    )
  all_goals (try rfl)
  all_goals first
    | (with_reducible refine unhalt ?_)
    | (exfalso; clear g1 g2 g3 g4 g5 g6 g7 hfs hsub hpos hpos2 h1 h2 h3 h4 h5 hX hT prl ar01 ar12; subst hnd hnt hcm; simp only [rCm, Int.ofNat_eq_natCast, decide_eq_true_eq, decide_eq_false_iff_not] at *; omega)
  have qq : decide (wy i = 2) = true ∨ (decide (wy i = 2) = false ∧ decide (wy i = 3) = true) ∨ (decide (wy i = 2) = false ∧ decide (wy i = 3) = false ∧ decide (wy i = 1) = true) ∨ (decide (wy i = 2) = false ∧ decide (wy i = 3) = false ∧ decide (wy i = 1) = false) := by
    cases decide (wy i = 2) <;> cases decide (wy i = 3) <;> cases decide (wy i = 1) <;> simp
  rcases qq with q2 | ⟨q2, q3⟩ | ⟨q2, q3, q1⟩ | ⟨q2, q3, q1⟩
  all_goals as_aux_lemma =>
    repeat' (first
      | ((with_reducible apply go_ev hT 400); (· (cbv; try rfl)); (fail_if_success with_reducible apply stuck_id))
      | ((with_reducible refine go_brt ?_ ?_); (· first | rfl | assumption | (rw [hcm]; decide)))
      | ((with_reducible refine go_brf ?_ ?_); (· first | rfl | assumption | (rw [hcm]; decide)))
      | ((with_reducible refine go_brnt hnt ?_ ?_); (· first | rfl | assumption))
      | ((with_reducible refine go_brnf hnt ?_ ?_); (· first | rfl | assumption))
      | (with_reducible refine go_brn hnt (fun h => ?_) (fun h => ?_))
      | (with_reducible refine go_brl hcm (fun hlt => ?_) (fun hge => ?_))
      | (with_reducible refine go_br (fun h => ?_) (fun h => ?_))
      | ((with_reducible apply go_ret_val hT); (· (cbv; try rfl)); (· (cbv; try rfl)))
      | ((with_reducible apply go_fin_val hT); (· (cbv; try rfl)); (· (cbv; try rfl)))
      | ((with_reducible apply go_draw); (· rfl); (· kernel_rfl); (· kernel_rfl))
      | ((with_reducible apply go_drawE); (· kernel_rfl))
      | (with_reducible refine go_fork ?_)
      | (with_reducible refine fork_cons ?_ ?_)
      | (with_reducible exact fork_nil)
      | ((with_reducible refine go_need ?_ ?_ ?_); (· first | omega | (simp only [Int.ofNat_eq_natCast]; omega)); (· first | omega | (simp only [Int.ofNat_eq_natCast]; omega)))
      | ((with_reducible refine go_ob ?_ ?_); (· first | trivial | (refine ⟨trivial, ?_⟩; omega) | (rw [hzpl]; refine ⟨trivial, ?_⟩; show _ + _ ≤ 1073741824; omega) | (rw [hzpl]; show _ + _ ≤ 1073741824; omega)))
      | ((with_reducible apply go_ret_rows hT); (· (cbv; try rfl)); (· (cbv; try rfl)); (· (cbv; (try simp only [true_and, and_true]); (try ((repeat' apply And.intro) <;> (first | trivial | rfl | decide ))))); (· (cbv; (try simp only [true_and, and_true]); (try ((repeat' apply And.intro) <;> (first | trivial | rfl | exact RowLe.rfl' _ ))))); (· rfl))
      | ((with_reducible apply go_fin_rows hT); (· (cbv; try rfl)); (· (cbv; try rfl)); (· (cbv; (try simp only [true_and, and_true]); (try ((repeat' apply And.intro) <;> (first | trivial | rfl | decide ))))); (· (cbv; (try simp only [true_and, and_true]); (try ((repeat' apply And.intro) <;> (first | trivial | rfl | exact RowLe.rfl' _ ))))); (· rfl))
      | ((with_reducible apply go_call (f := 6) (hf := Try.call6)); (· (cbv; try rfl)); (· intro wc hbc hxc; exact aliveC wc))
      | ((with_reducible apply go_callq (f := 6) (hf := Try.call6)); (· (cbv; try rfl)); (· intro wc hbc hxc; exact aliveC wc))
      | ((with_reducible apply go_call (f := 7) (hf := Try.call7)); (· (cbv; try rfl)); (· intro wc hbc hxc; exact h1 wc hbc))
      | ((with_reducible apply go_callq (f := 7) (hf := Try.call7)); (· (cbv; try rfl)); (· intro wc hbc hxc; exact h1 wc hbc))
      | ((rw [hsub i (by assumption) (hpos2 i (by assumption))]))
      | ((rw [(g6 i (by assumption) (of_decide_eq_true (by assumption))).1]))
      | (((with_reducible apply go_need); (· exact Int.natCast_nonneg _); (· first | exact Int.ofNat_lt.2 (prl i (by assumption) (hpos i (by assumption))) | exact Int.ofNat_lt.2 (prl i (by assumption) (hpos2 i (by assumption))) | exact Int.ofNat_lt.2 (g4 i (by assumption) (of_decide_eq_true (by assumption))).2.1 | exact Int.ofNat_lt.2 (g6 i (by assumption) (of_decide_eq_true (by assumption))).2.1 | exact Int.ofNat_lt.2 (g6 i (by assumption) (of_decide_eq_true (by assumption))).2.2.1)))
      | ((with_reducible apply go_callR (f := 8) (hf := Try.call8)); (· intro S; cbv; try rfl); (· intro wc S hbc hxc hrc; exact h2 wc hbc); (· rfl))
      | ((with_reducible apply go_callR (f := 9) (hf := Try.call9)); (· intro S; cbv; try rfl); (· intro wc S hbc hxc hrc; exact h3 wc hbc); (· rfl))
      | ((with_reducible apply go_call (f := 10) (hf := Try.call10)); (· (cbv; try rfl)); (· intro wc hbc hxc; exact h4 wc hbc))
      | ((with_reducible apply go_callq (f := 10) (hf := Try.call10)); (· (cbv; try rfl)); (· intro wc hbc hxc; exact h4 wc hbc))
      | ((with_reducible apply go_call (f := 11) (hf := Try.call11)); (· (cbv; try rfl)); (· intro wc hbc hxc; exact h5 wc hbc (an i) (g1 i (by assumption))))
      | ((with_reducible apply go_callq (f := 11) (hf := Try.call11)); (· (cbv; try rfl)); (· intro wc hbc hxc; exact h5 wc hbc (an i) (g1 i (by assumption))))
      | ((with_reducible apply go_call (f := 12) (hf := Try.call12)); (· (cbv; try rfl)); (· intro wc hbc hxc; exact localC _ wc))
      | ((with_reducible apply go_callq (f := 12) (hf := Try.call12)); (· (cbv; try rfl)); (· intro wc hbc hxc; exact localC _ wc))
      | ((with_reducible apply go_call_bool (f := 13) (hf := Try.call13)); (· (cbv; try rfl)); (· intro wc hbc hxc; exact rReference _ _ wc); intro z hz)
      | ((with_reducible apply go_callq_bool (f := 13) (hf := Try.call13)); (· (cbv; try rfl)); (· intro wc hbc hxc; exact rReference _ _ wc); intro z hz)
      | ((rw [hsub i (by assumption) (hpos i (by assumption))]))
      | ((rw [hfs i (by assumption) (of_decide_eq_true (by assumption))]))
      | ((with_reducible refine go_loopk (σ := {i : Nat // i ≤ M}) [2, 8, 9, 10, 11, 35, 36, 37, 38, 39, 40, 41, 42, 43, 44, 45, 46, 47, 48, 49, 50, 51, 52, 53, 54, 55, 56, 57, 58, 59, 60, 61, 62, 63, 64, 65, 66, 67, 68, 69, 70, 71, 72, 73, 74, 75, 76, 77, 78, 79, 80, 81, 82, 83, 84, 85, 86, 87, 88, 89, 90, 91, 92, 93, 94, 95, 96, 97, 98, 99, 100, 101, 102, 103, 104, 105, 106, 107, 108, 109, 110, 111, 112, 113, 114, 115, 116, 117, 118, 119, 120, 121, 122, 123, 124, 125, 126, 127, 128, 129, 130, 131, 132, 133, 134, 135, 136, 137, 138, 139, 140, 141, 142, 143, 144, 145, 146, 147, 148, 149, 150, 151, 152, 153, 154, 155, 156, 157, 158, 159, 160, 161, 162, 163, 164, 165, 166, 167, 168, 169, 170, 171, 172, 173, 174, 175, 176, 177, 178, 179, 180, 181, 182, 183, 184, 185, 186, 187, 188, 189, 190, 191, 192, 193, 194, 195, 196, 197, 198, 199, 200, 201, 202, 203, 204, 205, 206, 207, 208, 209, 210, 211, 212, 213] (fun x => [(7, .pt (.one (.int .i64 (.ofNat x.1))))]) (fun x => []) (fun x => []) (fun x => M - x.1) ⟨0, by omega⟩ ?_ ?_ ?_ ?_); (· (refine le_mk ?_ ?_ ?_ ?_ <;> (cbv; (try simp only [true_and, and_true]); (try ((repeat' apply And.intro) <;> (first | trivial | rfl | exact RowLe.rfl' _ | (rw [wrap_nat har _ (by omega)]))))))); (· (cbv; try rfl)); (· simp); (rintro ⟨i, hi⟩ mm hmm))
      | ((with_reducible refine go_stop ⟨i + 1, by omega⟩ ?_ ?_ ?_ ?_); (· exact Nat.lt_of_lt_of_eq (show M - (i + 1) < M - i from by omega) (Eq.symm (by assumption))); (· (refine le_mk ?_ ?_ ?_ ?_ <;> (cbv; (try simp only [true_and, and_true]); (try ((repeat' apply And.intro) <;> (first | trivial | rfl | exact RowLe.rfl' _ | (rw [wrap_nat har _ (by omega)]))))))); (· (cbv; try rfl)); (· simp))
      )
    all_goals (try rfl)
    all_goals
      exfalso
      try have k1 := g1 i (by assumption)
      try have k2 := g2 i (by assumption) (hpos i (by assumption))
      try have k3 := g3 i (by assumption)
      try have k4 := g4 i (by assumption) (of_decide_eq_true (by assumption))
      try have k5 := g5 i (by assumption) (of_decide_eq_true (by assumption))
      try have k6 := g6 i (by assumption) (of_decide_eq_true (by assumption))
      try have k7 := g7 i (by assumption)
      try have k8 := hfs i (by assumption) (of_decide_eq_true (by assumption))
      clear g1 g2 g3 g4 g5 g6 g7 hfs hsub hpos hpos2 h1 h2 h3 h4 h5 hX hT prl ar01 ar12
      subst hnd hnt hcm
      simp only [rCm, Int.ofNat_eq_natCast, decide_eq_true_eq, decide_eq_false_iff_not] at *
      grind

end Go.Proofs.Ytbimggeapaaliaa
