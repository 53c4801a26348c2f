/- GraphReached, the walk. No condition. -/
import Derived.Test.YtanocepbagbbkaaGrK
import Derived.Test.YtanocepbagbbkaaSxP
namespace Go.Proofs.Ytanocepbagbbkaa
open Go.RowKit
set_option linter.unusedVariables false
set_option linter.unusedSimpArgs false

set_option maxRecDepth 100000 in
set_option maxHeartbeats 8000000 in
theorem reachedL (F : GFun) (w : World) (hF : F.At w) (hK : F.Ty8) :
    Calls Try.prog 6 #[F.val] w (Ret w (.bool true)) := by
  have h1 (wc : World) (hk : KB ⟨w, []⟩ wc) := great7C F wc (hF.later hk)
  have h2 (wc : World) (hk : KB ⟨w, []⟩ wc) := rFnChk F wc (hF.later hk) hK
  by_cases hO : fit7 F = true
  case neg =>
    unfold fit7 at hO
    obtain ⟨q1, hq1⟩ : ∃ b, b = gfB F := ⟨_, rfl⟩
    obtain ⟨q2, hq2⟩ : ∃ b, b = rchkV F := ⟨_, rfl⟩
    rw [← hq1] at h1 hO
    rw [← hq2] at h2 hO
    clear hK hq1 hq2
    obtain ⟨pa, un, lA, ln, lc, lk, lt, bA, bn, bc, sA, sn, sc, s, jA, jn, jc, ja, jk, jo, jf, jx, je, jd⟩ := F
    obtain ⟨hX, hl, hb, hs, hj⟩ := hF
    simp only at hl hb hs hj
    refine go_start (args := [.pt (.agg (GFun.dat _))]) (c := (funX _)) Try.func6 rfl hX rfl rfl ?_
    obtain ⟨nd, hnd⟩ : ∃ f : Bool → Bool → Bool, f = and := ⟨_, rfl⟩
    obtain ⟨nt, hnt⟩ : ∃ f : Bool → Bool, f = not := ⟨_, rfl⟩
    obtain ⟨ar, har⟩ : ∃ f : BinOp → IntKind → Int → Int → Int, f = rAr := ⟨_, rfl⟩
    obtain ⟨cm, hcm⟩ : ∃ f : BinOp → Int → Int → Bool, f = rCm := ⟨_, rfl⟩
    obtain ⟨mx, hmx⟩ : ∃ f : Int → Int → Int, f = rMx := ⟨_, rfl⟩
    obtain ⟨mn, hmn⟩ : ∃ f : Int → Int → Int, f = rMn := ⟨_, rfl⟩
    have ar01 : ar .add .i64 0 1 = 1 := by rw [har]; decide
    have ar12 : ar .add .i64 1 1 = 2 := by rw [har]; decide
    obtain ⟨zpl, hzpl⟩ : ∃ f : Nat → Nat → Nat, f = fun x y => x + y := ⟨_, rfl⟩
    obtain ⟨zjn, hzjn⟩ : ∃ f : Nat → (Nat → List SC) → (Nat → List SC) → Nat → List SC, f = rJn := ⟨_, rfl⟩
    obtain ⟨zup, hzup⟩ : ∃ f : (Nat → List SC) → Nat → Nat → List SC → Nat → List SC, f = rUp := ⟨_, rfl⟩
    obtain ⟨zmi, hzmi⟩ : ∃ f : Nat → Nat → Nat, f = fun x y => x - y := ⟨_, rfl⟩
    obtain ⟨zdp, hzdp⟩ : ∃ f : Nat → (Nat → List SC) → Nat → List SC, f = rDp := ⟨_, rfl⟩
    have hT := T0_ok hnd hnt har hcm hmx hmn hzpl hzjn hzup hzmi hzdp
    repeat' (first
      | ((with_reducible apply go_ev hT 400); (· (cbv; try rfl)); (fail_if_success with_reducible apply stuck_id))
      | ((with_reducible refine go_brt ?_ ?_); (· first | rfl | assumption | (rw [hcm]; decide)))
      | ((with_reducible refine go_brf ?_ ?_); (· first | rfl | assumption | (rw [hcm]; decide)))
      | ((with_reducible refine go_brnt hnt ?_ ?_); (· first | rfl | assumption))
      | ((with_reducible refine go_brnf hnt ?_ ?_); (· first | rfl | assumption))
      | (with_reducible refine go_brn hnt (fun h => ?_) (fun h => ?_))
      | (with_reducible refine go_brl hcm (fun hlt => ?_) (fun hge => ?_))
      | (with_reducible refine go_br (fun h => ?_) (fun h => ?_))
      | ((with_reducible apply go_ret_val hT); (· (cbv; try rfl)); (· (cbv; try rfl)))
      | ((with_reducible apply go_fin_val hT); (· (cbv; try rfl)); (· (cbv; try rfl)))
      | ((with_reducible apply go_draw); (· rfl); (· kernel_rfl); (· kernel_rfl))
      | ((with_reducible apply go_drawE); (· kernel_rfl))
      | (with_reducible refine go_fork ?_)
      | (with_reducible refine fork_cons ?_ ?_)
      | (with_reducible exact fork_nil)
      | ((with_reducible refine go_need ?_ ?_ ?_); (· first | omega | (simp only [Int.ofNat_eq_natCast]; omega)); (· first | omega | (simp only [Int.ofNat_eq_natCast]; omega)))
      | ((with_reducible refine go_ob ?_ ?_); (· first | trivial | (refine ⟨trivial, ?_⟩; omega) | (rw [hzpl]; refine ⟨trivial, ?_⟩; show _ + _ ≤ 1073741824; omega) | (rw [hzpl]; show _ + _ ≤ 1073741824; omega)))
      | ((with_reducible apply go_ret_rows hT); (· (cbv; try rfl)); (· (cbv; try rfl)); (· (cbv; (try simp only [true_and, and_true]); (try ((repeat' apply And.intro) <;> (first | trivial | rfl | decide ))))); (· (cbv; (try simp only [true_and, and_true]); (try ((repeat' apply And.intro) <;> (first | trivial | rfl | exact RowLe.rfl' _ ))))); (· rfl))
      | ((with_reducible apply go_fin_rows hT); (· (cbv; try rfl)); (· (cbv; try rfl)); (· (cbv; (try simp only [true_and, and_true]); (try ((repeat' apply And.intro) <;> (first | trivial | rfl | decide ))))); (· (cbv; (try simp only [true_and, and_true]); (try ((repeat' apply And.intro) <;> (first | trivial | rfl | exact RowLe.rfl' _ ))))); (· rfl))
      | ((with_reducible apply go_call_bool (f := 9) (hf := Try.call9)); (· (cbv; try rfl)); (· intro wc hbc hxc; exact h1 wc hbc); intro z hz)
      | ((with_reducible apply go_callq_bool (f := 9) (hf := Try.call9)); (· (cbv; try rfl)); (· intro wc hbc hxc; exact h1 wc hbc); intro z hz)
      | ((with_reducible apply go_call_int (f := 10) (hf := Try.call10)); (· (cbv; try rfl)); (· intro wc hbc hxc; exact h2 wc hbc); intro z hz)
      | ((with_reducible apply go_callq_int (f := 10) (hf := Try.call10)); (· (cbv; try rfl)); (· intro wc hbc hxc; exact h2 wc hbc); intro z hz)
      | ((with_reducible apply go_call (f := 11) (hf := Try.call11)); (· (cbv; try rfl)); (· intro wc hbc hxc; exact alive11C wc))
      | ((with_reducible apply go_callq (f := 11) (hf := Try.call11)); (· (cbv; try rfl)); (· intro wc hbc hxc; exact alive11C wc))
      )
    all_goals (try rfl)
    all_goals (exfalso; clear hX hT h1 h2; subst_vars; simp_all)
  obtain ⟨e1, e2⟩ := fit7_two hO
  rw [e1] at h1
  rw [e2] at h2
  have hO := fit7_ok hO
  have h3 (wc : World) (hk : KB ⟨w, []⟩ wc) := pointsN F wc (hF.later hk) hO
  have hN9 := hO.pts
  obtain ⟨N, hN⟩ : ∃ N, N = stN F.sn F.bn := ⟨_, rfl⟩
  obtain ⟨pb, hpb⟩ : ∃ f : Nat → Nat, f = pbN F := ⟨_, rfl⟩
  obtain ⟨pi, hpi⟩ : ∃ f : Nat → Nat, f = piN F := ⟨_, rfl⟩
  have hR : ptR (allPts F.sn F.bn) = ⟨N, 2, fun j => [.int .i64 (.ofNat (pb j)), .int .i64 (.ofNat (pi j))]⟩ := by rw [ptR, allPts_len, hN, hpb, hpi]; rfl
  rw [hR] at h3
  have h40 (wc : World) (hk : KB ⟨w, []⟩ wc) := reachedC F wc (hF.later hk) hO
  have h50 (wc : World) (hk : KB ⟨w, []⟩ wc) (a : Nat) (ha : a < stN F.sn F.bn) := nextPC F wc (hF.later hk) hO (pbN F a) (piN F a) (num_pt ha).1 (num_pt ha).2.1
  have h60 (wc : World) (hk : KB ⟨w, []⟩ wc) (b i : Nat) := numberC F wc (hF.later hk) hO b i
  obtain ⟨rb, hrb⟩ : ∃ f : Nat → Bool, f = reachB F := ⟨_, rfl⟩
  obtain ⟨nl, hnl⟩ : ∃ f : Nat → Nat, f = fun a => (nextP F (pbN F a) (piN F a)).length := ⟨_, rfl⟩
  obtain ⟨q1, hq1⟩ : ∃ f : Nat → Nat → Nat, f = fun a k => ((nextP F (pbN F a) (piN F a)).getD k (0, 0)).1 := ⟨_, rfl⟩
  obtain ⟨q2, hq2⟩ : ∃ f : Nat → Nat → Nat, f = fun a k => ((nextP F (pbN F a) (piN F a)).getD k (0, 0)).2 := ⟨_, rfl⟩
  obtain ⟨nm, hnm⟩ : ∃ f : Nat → Nat → Nat, f = nmN F := ⟨_, rfl⟩
  have hR2 : reachR F (stN F.sn F.bn) = ⟨N, 1, fun j => [.bool (rb (pb j))]⟩ := by rw [reachR, hN, hpb, hrb]
  have h4 (wc : World) (hk : KB ⟨w, []⟩ wc) : Calls Try.prog 20 #[F.val] wc (RetR wc (funX F) (.tup [.one (.rs 0), .one (.int .i64 0)]) [⟨N, 1, fun j => [.bool (rb (pb j))]⟩]) := by
    rw [← hR2]; exact h40 wc hk
  have h5 (wc : World) (hk : KB ⟨w, []⟩ wc) (a : Nat) (ha : a < N) : Calls Try.prog 13 #[F.val, .agg #[.int .i64 (.ofNat (pb a)), .int .i64 (.ofNat (pi a))]] wc (RetR wc (funX F) (.tup [.one (.rs 0), .one (.int .i64 0)]) [⟨nl a, 2, fun j => [.int .i64 (.ofNat (q1 a j)), .int .i64 (.ofNat (q2 a j))]⟩]) := by
    rw [hpb, hpi, hnl, hq1, hq2]; exact h50 wc hk a (hN ▸ ha)
  have h6 (wc : World) (hk : KB ⟨w, []⟩ wc) (a k : Nat) (ha : a < N) (hk2 : k < nl a) : Calls Try.prog 18 #[F.val, .agg #[.int .i64 (.ofNat (q1 a k)), .int .i64 (.ofNat (q2 a k))]] wc (Ret wc (.tuple #[.int .i64 (.ofNat (nm a k)), .int .i64 0])) := by
    rw [hnl] at hk2
    have q := nmN_ok hO (hN ▸ ha) hk2
    rw [hq1, hq2, hnm]; exact h60 wc hk _ _ q.1 q.2.1
  have g1 : ∀ a k, a < N → k < nl a → nm a k < N ∧ (rb (pb a) = true → rb (pb (nm a k)) = true) := fun a k ha hk2 => by
    rw [hnl] at hk2
    have q := nmN_ok hO (hN ▸ ha) hk2
    rw [hnm, hrb, hpb, hN]
    refine ⟨q.2.2.1, fun h => ?_⟩
    rw [q.2.2.2.1]
    exact reachB_iff.2 (q.2.2.2.2.2 (reachB_iff.1 h))
  have g2 : 0 < N ∧ rb (pb 0) = true := by
    rw [hN, hrb, hpb]
    refine ⟨pts_pos hO, ?_⟩
    rw [(pt_zero (pts_pos hO)).1]; exact reach_zero F
  obtain ⟨pr, hpr⟩ : ∃ f : Nat → Nat, f = fun n => n - 1 := ⟨_, rfl⟩
  have g3 : ∀ i, i < N → 0 < pi i → 0 < i ∧ pb (pr i) = pb i := fun i hi h0 => by
    rw [hpi] at h0
    have q := pt_pred (hN ▸ hi) h0
    rw [hpb, hpr]; exact ⟨q.1, q.2.1⟩
  have prl : ∀ i, i < N → 0 < i → pr i < N := fun i h _ => by rw [hpr]; show i - 1 < N; omega
  have nl9 : ∀ a, nl a ≤ 2 := fun a => by rw [hnl]; exact nextP_len
  rw [← hN] at hN9
  clear hR hR2 hN hpb hpi hO hK e1 e2 hrb hnl hq1 hq2 hnm h40 h50 h60
  obtain ⟨pa, un, lA, ln, lc, lk, lt, bA, bn, bc, sA, sn, sc, s, jA, jn, jc, ja, jk, jo, jf, jx, je, jd⟩ := F
  obtain ⟨hX, hl, hb, hs, hj⟩ := hF
  simp only at hl hb hs hj
  refine go_start (args := [.pt (.agg (GFun.dat ⟨pa, un, lA, ln, lc, lk, lt, bA, bn, bc, sA, sn, sc, s, jA, jn, jc, ja, jk, jo, jf, jx, je, jd⟩))]) (c := (funX ⟨pa, un, lA, ln, lc, lk, lt, bA, bn, bc, sA, sn, sc, s, jA, jn, jc, ja, jk, jo, jf, jx, je, jd⟩)) Try.func6 rfl hX rfl rfl ?_
  obtain ⟨nd, hnd⟩ : ∃ f : Bool → Bool → Bool, f = and := ⟨_, rfl⟩
  obtain ⟨nt, hnt⟩ : ∃ f : Bool → Bool, f = not := ⟨_, rfl⟩
  obtain ⟨ar, har⟩ : ∃ f : BinOp → IntKind → Int → Int → Int, f = rAr := ⟨_, rfl⟩
  obtain ⟨cm, hcm⟩ : ∃ f : BinOp → Int → Int → Bool, f = rCm := ⟨_, rfl⟩
  obtain ⟨mx, hmx⟩ : ∃ f : Int → Int → Int, f = rMx := ⟨_, rfl⟩
  obtain ⟨mn, hmn⟩ : ∃ f : Int → Int → Int, f = rMn := ⟨_, rfl⟩
  have ar01 : ar .add .i64 0 1 = 1 := by rw [har]; decide
  have ar12 : ar .add .i64 1 1 = 2 := by rw [har]; decide
  obtain ⟨zpl, hzpl⟩ : ∃ f : Nat → Nat → Nat, f = fun x y => x + y := ⟨_, rfl⟩
  obtain ⟨zjn, hzjn⟩ : ∃ f : Nat → (Nat → List SC) → (Nat → List SC) → Nat → List SC, f = rJn := ⟨_, rfl⟩
  obtain ⟨zup, hzup⟩ : ∃ f : (Nat → List SC) → Nat → Nat → List SC → Nat → List SC, f = rUp := ⟨_, rfl⟩
  obtain ⟨zmi, hzmi⟩ : ∃ f : Nat → Nat → Nat, f = fun x y => x - y := ⟨_, rfl⟩
  obtain ⟨zdp, hzdp⟩ : ∃ f : Nat → (Nat → List SC) → Nat → List SC, f = rDp := ⟨_, rfl⟩
  have hT := T0_ok hnd hnt har hcm hmx hmn hzpl hzjn hzup hzmi hzdp
  have c0 : decide (Int.ofNat N = 0) = false := decide_eq_false (fun h => by simp only [Int.ofNat_eq_natCast] at h; have := g2.1; omega)
  have c4 := g2.2
  have c1 : ∀ m : Nat, cm .lss (.ofNat m) 0 = false := fun m => by rw [hcm]; exact decide_eq_false (Int.not_lt.2 (Int.natCast_nonneg m))
  have c2 : ∀ {m : Nat}, m < N → cm .geq (.ofNat m) (.ofNat N) = false := fun {m} h => by rw [hcm]; exact decide_eq_false (fun g => absurd (Int.ofNat_le.1 g) (by omega))
  have hpos : ∀ i : Nat, cm .gtr (.ofNat i) 0 = true → 0 < i := fun i h => by
    rw [hcm] at h
    have := of_decide_eq_true (show decide ((0 : Int) < (i : Int)) = true from h)
    omega
  have hsub : ∀ i, i < N → 0 < i → ar .sub .i64 (.ofNat i) 1 = .ofNat (pr i) := fun i hi h0 => by
    have := sub_nat har (i := i) (n := 1) h0 (by omega)
    rw [hpr]; exact this
  repeat' (first
    | ((with_reducible apply go_ev hT 400); (· (cbv; try rfl)); (fail_if_success with_reducible apply stuck_id))
    | ((with_reducible refine go_brt ?_ ?_); (· first | rfl | assumption | (rw [hcm]; decide)))
    | ((with_reducible refine go_brf ?_ ?_); (· first | rfl | assumption | (rw [hcm]; decide)))
    | ((with_reducible refine go_brnt hnt ?_ ?_); (· first | rfl | assumption))
    | ((with_reducible refine go_brnf hnt ?_ ?_); (· first | rfl | assumption))
    | (with_reducible refine go_brn hnt (fun h => ?_) (fun h => ?_))
    | (with_reducible refine go_brl hcm (fun hlt => ?_) (fun hge => ?_))
    | (with_reducible refine go_br (fun h => ?_) (fun h => ?_))
    | ((with_reducible apply go_ret_val hT); (· (cbv; try rfl)); (· (cbv; try rfl)))
    | ((with_reducible apply go_fin_val hT); (· (cbv; try rfl)); (· (cbv; try rfl)))
    | ((with_reducible apply go_drawQ [13]); (· rfl); (· rfl); (· kernel_rfl); (· kernel_rfl))
    | ((with_reducible apply go_drawE); (· kernel_rfl))
    | (with_reducible refine go_fork ?_)
    | (with_reducible refine fork_cons ?_ ?_)
    | (with_reducible exact fork_nil)
    | ((with_reducible refine go_need ?_ ?_ ?_); (· first | omega | (simp only [Int.ofNat_eq_natCast]; omega)); (· first | omega | (simp only [Int.ofNat_eq_natCast]; omega)))
    | ((with_reducible refine go_ob ?_ ?_); (· first | trivial | (refine ⟨trivial, ?_⟩; omega) | (rw [hzpl]; refine ⟨trivial, ?_⟩; show _ + _ ≤ 1073741824; omega) | (rw [hzpl]; show _ + _ ≤ 1073741824; omega)))
    | ((with_reducible apply go_ret_rows hT); (· (cbv; try rfl)); (· (cbv; try rfl)); (· (cbv; (try simp only [true_and, and_true]); (try ((repeat' apply And.intro) <;> (first | trivial | rfl | decide  | ((rw [wrap_nat har _ (by have := nl9 a; omega)]))))))); (· (cbv; (try simp only [true_and, and_true]); (try ((repeat' apply And.intro) <;> (first | trivial | rfl | exact RowLe.rfl' _  | ((rw [wrap_nat har _ (by have := nl9 a; omega)]))))))); (· rfl))
    | ((with_reducible apply go_fin_rows hT); (· (cbv; try rfl)); (· (cbv; try rfl)); (· (cbv; (try simp only [true_and, and_true]); (try ((repeat' apply And.intro) <;> (first | trivial | rfl | decide  | ((rw [wrap_nat har _ (by have := nl9 a; omega)]))))))); (· (cbv; (try simp only [true_and, and_true]); (try ((repeat' apply And.intro) <;> (first | trivial | rfl | exact RowLe.rfl' _  | ((rw [wrap_nat har _ (by have := nl9 a; omega)]))))))); (· rfl))
    | ((with_reducible apply go_call_bool (f := 9) (hf := Try.call9)); (· (cbv; try rfl)); (· intro wc hbc hxc; exact h1 wc hbc); intro z hz)
    | ((with_reducible apply go_callq_bool (f := 9) (hf := Try.call9)); (· (cbv; try rfl)); (· intro wc hbc hxc; exact h1 wc hbc); intro z hz)
    | ((with_reducible apply go_call (f := 10) (hf := Try.call10)); (· (cbv; try rfl)); (· intro wc hbc hxc; exact h2 wc hbc))
    | ((with_reducible apply go_callq (f := 10) (hf := Try.call10)); (· (cbv; try rfl)); (· intro wc hbc hxc; exact h2 wc hbc))
    | ((with_reducible apply go_callR (f := 12) (hf := Try.call12)); (· intro S; cbv; try rfl); (· intro wc S hbc hxc hrc; exact h3 wc hbc); (· rfl))
    | ((with_reducible apply go_callR (f := 20) (hf := Try.call20)); (· intro S; cbv; try rfl); (· intro wc S hbc hxc hrc; exact h4 wc hbc); (· rfl))
    | ((with_reducible apply go_callR (f := 13) (hf := Try.call13)); (· intro S; cbv; try rfl); (· intro wc S hbc hxc hrc; exact h5 wc hbc a (by assumption)); (· rfl))
    | ((with_reducible apply go_call (f := 18) (hf := Try.call18)); (· (cbv; try rfl)); (· intro wc hbc hxc; exact h6 wc hbc a k (by assumption) (by assumption)))
    | ((with_reducible apply go_callq (f := 18) (hf := Try.call18)); (· (cbv; try rfl)); (· intro wc hbc hxc; exact h6 wc hbc a k (by assumption) (by assumption)))
    | ((with_reducible apply go_call (f := 11) (hf := Try.call11)); (· (cbv; try rfl)); (· intro wc hbc hxc; exact alive11C wc))
    | ((with_reducible apply go_callq (f := 11) (hf := Try.call11)); (· (cbv; try rfl)); (· intro wc hbc hxc; exact alive11C wc))
    | ((rw [hsub a (by assumption) (hpos a (by assumption))]))
    | (((with_reducible apply go_need); (· exact Int.natCast_nonneg _); (· first | exact Int.ofNat_lt.2 (prl a (by assumption) (hpos a (by assumption))) | exact Int.ofNat_lt.2 (g1 a k (by assumption) (by assumption)).1)))
    | ((with_reducible refine go_loopk (σ := {a : Nat // a ≤ N}) [2, 8, 9, 10, 11, 12, 55, 56, 57, 58, 59, 60, 61, 62, 63, 64, 65, 66, 67, 68, 69, 70, 71, 72, 73, 74, 75, 76, 77, 78, 79, 80, 81, 82, 83, 84, 85, 86, 87, 88, 89, 90, 91, 92, 93, 94, 95, 96, 97, 98, 99, 100, 101, 102, 103, 104, 105, 106, 107, 108, 109, 110, 111, 112, 113, 114, 115, 116, 117, 118, 119, 120, 121, 122, 123, 124, 125, 126, 127, 128, 129, 130, 131, 132, 133] (fun x => [(7, .pt (.one (.int .i64 (.ofNat x.1))))]) (fun x => []) (fun x => []) (fun x => N - x.1) ⟨0, by omega⟩ ?_ ?_ ?_ ?_); (· (refine le_mk ?_ ?_ ?_ ?_ <;> (cbv; (try simp only [true_and, and_true]); (try ((repeat' apply And.intro) <;> (first | trivial | rfl | exact RowLe.rfl' _ | (rw [wrap_nat har _ (by omega)]) | ((rw [wrap_nat har _ (by have := nl9 a; omega)])))))))); (· (cbv; try rfl)); (· simp); (rintro ⟨a, ha⟩ mm hmm))
    | ((with_reducible refine go_loopk (σ := {k : Nat // k ≤ nl a}) [2, 11, 12, 94, 95, 96, 97, 98, 99, 100, 101, 102, 103, 104, 105, 106, 107, 108, 109, 110, 111, 112, 113, 114, 115, 116, 117, 118, 119, 120, 121, 122, 123, 124, 125, 126, 127, 128, 129, 130, 131, 132, 133] (fun x => [(10, .pt (.one (.int .i64 (.ofNat x.1))))]) (fun x => []) (fun x => []) (fun x => nl a - x.1) ⟨0, by omega⟩ ?_ ?_ ?_ ?_); (· (refine le_mk ?_ ?_ ?_ ?_ <;> (cbv; (try simp only [true_and, and_true]); (try ((repeat' apply And.intro) <;> (first | trivial | rfl | exact RowLe.rfl' _ | (rw [wrap_nat har _ (by omega)]) | ((rw [wrap_nat har _ (by have := nl9 a; omega)])))))))); (· (cbv; try rfl)); (· simp); (rintro ⟨k, hk⟩ mm hmm))
    | ((with_reducible refine go_stop (⟨a + 1, by omega⟩ : {a : Nat // a ≤ N}) ?_ ?_ ?_ ?_); (· exact Nat.lt_of_lt_of_eq (show N - (a + 1) < N - a from by omega) (Eq.symm (by assumption))); (· (refine le_mk ?_ ?_ ?_ ?_ <;> (cbv; (try simp only [true_and, and_true]); (try ((repeat' apply And.intro) <;> (first | trivial | rfl | exact RowLe.rfl' _ | (rw [wrap_nat har _ (by omega)]) | ((rw [wrap_nat har _ (by have := nl9 a; omega)])))))))); (· (cbv; try rfl)); (· simp))
    | ((with_reducible refine go_stop (⟨k + 1, by omega⟩ : {k : Nat // k ≤ nl a}) ?_ ?_ ?_ ?_); (· exact Nat.lt_of_lt_of_eq (show nl a - (k + 1) < nl a - k from by omega) (Eq.symm (by assumption))); (· (refine le_mk ?_ ?_ ?_ ?_ <;> (cbv; (try simp only [true_and, and_true]); (try ((repeat' apply And.intro) <;> (first | trivial | rfl | exact RowLe.rfl' _ | (rw [wrap_nat har _ (by omega)]) | ((rw [wrap_nat har _ (by have := nl9 a; omega)])))))))); (· (cbv; try rfl)); (· simp))
    | (fail)
    )
  all_goals (try rfl)
  all_goals first
    | (have q : cm .lss (.ofNat (nm a k)) 0 = true := by assumption
       rw [c1] at q; cases q)
    | (have q : cm .geq (.ofNat (nm a k)) (.ofNat N) = true := by assumption
       rw [c2 (g1 a k (by assumption) (by assumption)).1] at q; cases q)
    | (have q : rb (pb (nm a k)) = false := by assumption
       rw [(g1 a k (by assumption) (by assumption)).2 (by assumption)] at q; cases q)
    | (have q : decide (rb (pb a) = rb (pb (pr a))) = false := by assumption
       rw [(g3 a (by assumption) (hpos (pi a) (by assumption))).2] at q; simp at q)

end Go.Proofs.Ytanocepbagbbkaa
