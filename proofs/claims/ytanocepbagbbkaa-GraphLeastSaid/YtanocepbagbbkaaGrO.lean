/- GraphLeast, the walk. No condition. -/
import Derived.Test.YtanocepbagbbkaaGrN
import Derived.Test.YtanocepbagbbkaaSxP
namespace Go.Proofs.Ytanocepbagbbkaa
open Go.RowKit
set_option linter.unusedVariables false
set_option linter.unusedSimpArgs false

def TwoR (a : Option Addr) (n c size : Nat) (el : Nat → List SC) (a' : Option Addr) (n' c' size' : Nat) (el' : Nat → List SC) : Nat → Nat → Row := fun q _ => match q with
  | 0 => ⟨a, n, c, size, el⟩
  | _ + 1 => ⟨a', n', c', size', el'⟩
theorem RowIs.two {c : Nat → Nat → Row} {w : World} {R R' : ORow} {v v' : Value} (h : RowIs c w R v) (h' : RowIs c w R' v') (hp : ∀ j, j < R.n → plainL (R.el j) = true) (hp' : ∀ j, j < R'.n → plainL (R'.el j) = true) : ∃ a cap a' cap', v = .slice a R.n cap ∧ v' = .slice a' R'.n cap' ∧ XOk ⟨[], TwoR a R.n cap R.es R.el a' R'.n cap' R'.es R'.el, []⟩ ⟨w, []⟩ := by
  obtain ⟨a, cap, rfl⟩ := h.form
  obtain ⟨a', cap', rfl⟩ := h'.form
  refine ⟨a, cap, a', cap', rfl, rfl, fun q i j hj => ?_⟩
  match q, hj with
  | 0, hj =>
    obtain ⟨b, p, h1, h2, vs, h3, h4⟩ := h.row (c' := TwoR a R.n cap R.es R.el a' R'.n cap' R'.es R'.el) hp (j := j) hj
    exact ⟨b, p, h1, h2, by simp, vs, h3, h4⟩
  | q + 1, hj =>
    obtain ⟨b, p, h1, h2, vs, h3, h4⟩ := h'.row (c' := TwoR a R.n cap R.es R.el a' R'.n cap' R'.es R'.el) hp' (j := j) hj
    exact ⟨b, p, h1, h2, by simp, vs, h3, h4⟩
set_option maxRecDepth 100000 in
set_option maxHeartbeats 4000000 in
/-- Lists of truth values that are alike. -/
theorem sameBoolsC (n : Nat) (f g : Nat → Bool) (hfg : ∀ j, j < n → f j = g j) (hn : n ≤ 1000000) (c : Nat → Nat → Row) (w : World) (v v' : Value) (hR : RowIs c w ⟨n, 1, fun j => [.bool (f j)]⟩ v) (hR' : RowIs c w ⟨n, 1, fun j => [.bool (g j)]⟩ v') :
    Calls Try.prog 21 #[v, v'] w (Ret w (.bool true)) := by
  obtain ⟨a, cap, a', cap', rfl, rfl, hX⟩ := hR.two hR' (fun j _ => rfl) (fun j _ => rfl)
  clear hR hR'
  refine go_start (args := [.pt (.one (.xs 0 0)), .pt (.one (.xs 1 0))]) (c := (TwoR a n cap 1 (fun j => [.bool (f j)]) a' n cap' 1 (fun j => [.bool (g j)]))) Try.func21 rfl hX rfl rfl ?_
  obtain ⟨nd, hnd⟩ : ∃ f : Bool → Bool → Bool, f = and := ⟨_, rfl⟩
  obtain ⟨nt, hnt⟩ : ∃ f : Bool → Bool, f = not := ⟨_, rfl⟩
  obtain ⟨ar, har⟩ : ∃ f : BinOp → IntKind → Int → Int → Int, f = rAr := ⟨_, rfl⟩
  obtain ⟨cm, hcm⟩ : ∃ f : BinOp → Int → Int → Bool, f = rCm := ⟨_, rfl⟩
  obtain ⟨mx, hmx⟩ : ∃ f : Int → Int → Int, f = rMx := ⟨_, rfl⟩
  obtain ⟨mn, hmn⟩ : ∃ f : Int → Int → Int, f = rMn := ⟨_, rfl⟩
  have ar01 : ar .add .i64 0 1 = 1 := by rw [har]; decide
  have ar12 : ar .add .i64 1 1 = 2 := by rw [har]; decide
  obtain ⟨zpl, hzpl⟩ : ∃ f : Nat → Nat → Nat, f = fun x y => x + y := ⟨_, rfl⟩
  obtain ⟨zjn, hzjn⟩ : ∃ f : Nat → (Nat → List SC) → (Nat → List SC) → Nat → List SC, f = rJn := ⟨_, rfl⟩
  obtain ⟨zup, hzup⟩ : ∃ f : (Nat → List SC) → Nat → Nat → List SC → Nat → List SC, f = rUp := ⟨_, rfl⟩
  obtain ⟨zmi, hzmi⟩ : ∃ f : Nat → Nat → Nat, f = fun x y => x - y := ⟨_, rfl⟩
  obtain ⟨zdp, hzdp⟩ : ∃ f : Nat → (Nat → List SC) → Nat → List SC, f = rDp := ⟨_, rfl⟩
  have hT := T0_ok hnd hnt har hcm hmx hmn hzpl hzjn hzup hzmi hzdp
  repeat' (first
    | ((with_reducible apply go_ev hT 400); (· (cbv; try rfl)); (fail_if_success with_reducible apply stuck_id))
    | ((with_reducible refine go_brt ?_ ?_); (· first | rfl | assumption | (rw [hcm]; decide)))
    | ((with_reducible refine go_brf ?_ ?_); (· first | rfl | assumption | (rw [hcm]; decide)))
    | ((with_reducible refine go_brnt hnt ?_ ?_); (· first | rfl | assumption))
    | ((with_reducible refine go_brnf hnt ?_ ?_); (· first | rfl | assumption))
    | (with_reducible refine go_brn hnt (fun h => ?_) (fun h => ?_))
    | (with_reducible refine go_brl hcm (fun hlt => ?_) (fun hge => ?_))
    | (with_reducible refine go_br (fun h => ?_) (fun h => ?_))
    | ((with_reducible apply go_ret_val hT); (· (cbv; try rfl)); (· (cbv; try rfl)))
    | ((with_reducible apply go_fin_val hT); (· (cbv; try rfl)); (· (cbv; try rfl)))
    | ((with_reducible apply go_draw); (· rfl); (· kernel_rfl); (· kernel_rfl))
    | ((with_reducible apply go_drawE); (· kernel_rfl))
    | (with_reducible refine go_fork ?_)
    | (with_reducible refine fork_cons ?_ ?_)
    | (with_reducible exact fork_nil)
    | ((with_reducible refine go_need ?_ ?_ ?_); (· first | omega | (simp only [Int.ofNat_eq_natCast]; omega)); (· first | omega | (simp only [Int.ofNat_eq_natCast]; omega)))
    | ((with_reducible refine go_ob ?_ ?_); (· first | trivial | (refine ⟨trivial, ?_⟩; omega) | (rw [hzpl]; refine ⟨trivial, ?_⟩; show _ + _ ≤ 1073741824; omega) | (rw [hzpl]; show _ + _ ≤ 1073741824; omega)))
    | ((with_reducible apply go_ret_rows hT); (· (cbv; try rfl)); (· (cbv; try rfl)); (· (cbv; (try simp only [true_and, and_true]); (try ((repeat' apply And.intro) <;> (first | trivial | rfl | decide ))))); (· (cbv; (try simp only [true_and, and_true]); (try ((repeat' apply And.intro) <;> (first | trivial | rfl | exact RowLe.rfl' _ ))))); (· rfl))
    | ((with_reducible apply go_fin_rows hT); (· (cbv; try rfl)); (· (cbv; try rfl)); (· (cbv; (try simp only [true_and, and_true]); (try ((repeat' apply And.intro) <;> (first | trivial | rfl | decide ))))); (· (cbv; (try simp only [true_and, and_true]); (try ((repeat' apply And.intro) <;> (first | trivial | rfl | exact RowLe.rfl' _ ))))); (· rfl))
    | ((with_reducible refine go_loopk (σ := {i : Nat // i ≤ n}) [4, 11, 12, 13, 14, 15, 16, 17, 18, 19, 20, 21, 22, 23, 24, 25] (fun x => [(5, .pt (.one (.int .i64 (.ofNat x.1))))]) (fun x => []) (fun x => []) (fun x => n - x.1) ⟨0, by omega⟩ ?_ ?_ ?_ ?_); (· (refine le_mk ?_ ?_ ?_ ?_ <;> (cbv; (try simp only [true_and, and_true]); (try ((repeat' apply And.intro) <;> (first | trivial | rfl | exact RowLe.rfl' _ | (rw [wrap_nat har _ (by omega)]))))))); (· (cbv; try rfl)); (· simp); (rintro ⟨i, hi⟩ mm hmm))
    | ((with_reducible refine go_stop ⟨i + 1, by omega⟩ ?_ ?_ ?_ ?_); (· exact Nat.lt_of_lt_of_eq (show n - (i + 1) < n - i from by omega) (Eq.symm (by assumption))); (· (refine le_mk ?_ ?_ ?_ ?_ <;> (cbv; (try simp only [true_and, and_true]); (try ((repeat' apply And.intro) <;> (first | trivial | rfl | exact RowLe.rfl' _ | (rw [wrap_nat har _ (by omega)]))))))); (· (cbv; try rfl)); (· simp))
    )
  all_goals (try rfl)
  all_goals (exfalso; rw [hfg i hlt] at h; simp at h)

set_option maxRecDepth 100000 in
set_option maxHeartbeats 8000000 in
theorem leastL (F : GFun) (w : World) (hF : F.At w) (hK : F.Ty8) :
    Calls Try.prog 7 #[F.val] w (Ret w (.bool true)) := by
  have h1 (wc : World) (hk : KB ⟨w, []⟩ wc) := great7C F wc (hF.later hk)
  have h2 (wc : World) (hk : KB ⟨w, []⟩ wc) := rFnChk F wc (hF.later hk) hK
  by_cases hO : fit7 F = true
  case neg =>
    unfold fit7 at hO
    obtain ⟨q1, hq1⟩ : ∃ b, b = gfB F := ⟨_, rfl⟩
    obtain ⟨q2, hq2⟩ : ∃ b, b = rchkV F := ⟨_, rfl⟩
    rw [← hq1] at h1 hO
    rw [← hq2] at h2 hO
    clear hK hq1 hq2
    obtain ⟨pa, un, lA, ln, lc, lk, lt, bA, bn, bc, sA, sn, sc, s, jA, jn, jc, ja, jk, jo, jf, jx, je, jd⟩ := F
    obtain ⟨hX, hl, hb, hs, hj⟩ := hF
    simp only at hl hb hs hj
    refine go_start (args := [.pt (.agg (GFun.dat _))]) (c := (funX _)) Try.func7 rfl hX rfl rfl ?_
    obtain ⟨nd, hnd⟩ : ∃ f : Bool → Bool → Bool, f = and := ⟨_, rfl⟩
    obtain ⟨nt, hnt⟩ : ∃ f : Bool → Bool, f = not := ⟨_, rfl⟩
    obtain ⟨ar, har⟩ : ∃ f : BinOp → IntKind → Int → Int → Int, f = rAr := ⟨_, rfl⟩
    obtain ⟨cm, hcm⟩ : ∃ f : BinOp → Int → Int → Bool, f = rCm := ⟨_, rfl⟩
    obtain ⟨mx, hmx⟩ : ∃ f : Int → Int → Int, f = rMx := ⟨_, rfl⟩
    obtain ⟨mn, hmn⟩ : ∃ f : Int → Int → Int, f = rMn := ⟨_, rfl⟩
    have ar01 : ar .add .i64 0 1 = 1 := by rw [har]; decide
    have ar12 : ar .add .i64 1 1 = 2 := by rw [har]; decide
    obtain ⟨zpl, hzpl⟩ : ∃ f : Nat → Nat → Nat, f = fun x y => x + y := ⟨_, rfl⟩
    obtain ⟨zjn, hzjn⟩ : ∃ f : Nat → (Nat → List SC) → (Nat → List SC) → Nat → List SC, f = rJn := ⟨_, rfl⟩
    obtain ⟨zup, hzup⟩ : ∃ f : (Nat → List SC) → Nat → Nat → List SC → Nat → List SC, f = rUp := ⟨_, rfl⟩
    obtain ⟨zmi, hzmi⟩ : ∃ f : Nat → Nat → Nat, f = fun x y => x - y := ⟨_, rfl⟩
    obtain ⟨zdp, hzdp⟩ : ∃ f : Nat → (Nat → List SC) → Nat → List SC, f = rDp := ⟨_, rfl⟩
    have hT := T0_ok hnd hnt har hcm hmx hmn hzpl hzjn hzup hzmi hzdp
    repeat' (first
      | ((with_reducible apply go_ev hT 400); (· (cbv; try rfl)); (fail_if_success with_reducible apply stuck_id))
      | ((with_reducible refine go_brt ?_ ?_); (· first | rfl | assumption | (rw [hcm]; decide)))
      | ((with_reducible refine go_brf ?_ ?_); (· first | rfl | assumption | (rw [hcm]; decide)))
      | ((with_reducible refine go_brnt hnt ?_ ?_); (· first | rfl | assumption))
      | ((with_reducible refine go_brnf hnt ?_ ?_); (· first | rfl | assumption))
      | (with_reducible refine go_brn hnt (fun h => ?_) (fun h => ?_))
      | (with_reducible refine go_brl hcm (fun hlt => ?_) (fun hge => ?_))
      | (with_reducible refine go_br (fun h => ?_) (fun h => ?_))
      | ((with_reducible apply go_ret_val hT); (· (cbv; try rfl)); (· (cbv; try rfl)))
      | ((with_reducible apply go_fin_val hT); (· (cbv; try rfl)); (· (cbv; try rfl)))
      | ((with_reducible apply go_draw); (· rfl); (· kernel_rfl); (· kernel_rfl))
      | ((with_reducible apply go_drawE); (· kernel_rfl))
      | (with_reducible refine go_fork ?_)
      | (with_reducible refine fork_cons ?_ ?_)
      | (with_reducible exact fork_nil)
      | ((with_reducible refine go_need ?_ ?_ ?_); (· first | omega | (simp only [Int.ofNat_eq_natCast]; omega)); (· first | omega | (simp only [Int.ofNat_eq_natCast]; omega)))
      | ((with_reducible refine go_ob ?_ ?_); (· first | trivial | (refine ⟨trivial, ?_⟩; omega) | (rw [hzpl]; refine ⟨trivial, ?_⟩; show _ + _ ≤ 1073741824; omega) | (rw [hzpl]; show _ + _ ≤ 1073741824; omega)))
      | ((with_reducible apply go_ret_rows hT); (· (cbv; try rfl)); (· (cbv; try rfl)); (· (cbv; (try simp only [true_and, and_true]); (try ((repeat' apply And.intro) <;> (first | trivial | rfl | decide ))))); (· (cbv; (try simp only [true_and, and_true]); (try ((repeat' apply And.intro) <;> (first | trivial | rfl | exact RowLe.rfl' _ ))))); (· rfl))
      | ((with_reducible apply go_fin_rows hT); (· (cbv; try rfl)); (· (cbv; try rfl)); (· (cbv; (try simp only [true_and, and_true]); (try ((repeat' apply And.intro) <;> (first | trivial | rfl | decide ))))); (· (cbv; (try simp only [true_and, and_true]); (try ((repeat' apply And.intro) <;> (first | trivial | rfl | exact RowLe.rfl' _ ))))); (· rfl))
      | ((with_reducible apply go_call_bool (f := 9) (hf := Try.call9)); (· (cbv; try rfl)); (· intro wc hbc hxc; exact h1 wc hbc); intro z hz)
      | ((with_reducible apply go_callq_bool (f := 9) (hf := Try.call9)); (· (cbv; try rfl)); (· intro wc hbc hxc; exact h1 wc hbc); intro z hz)
      | ((with_reducible apply go_call_int (f := 10) (hf := Try.call10)); (· (cbv; try rfl)); (· intro wc hbc hxc; exact h2 wc hbc); intro z hz)
      | ((with_reducible apply go_callq_int (f := 10) (hf := Try.call10)); (· (cbv; try rfl)); (· intro wc hbc hxc; exact h2 wc hbc); intro z hz)
      | ((with_reducible apply go_call (f := 11) (hf := Try.call11)); (· (cbv; try rfl)); (· intro wc hbc hxc; exact alive11C wc))
      | ((with_reducible apply go_callq (f := 11) (hf := Try.call11)); (· (cbv; try rfl)); (· intro wc hbc hxc; exact alive11C wc))
      )
    all_goals (try rfl)
    all_goals (exfalso; clear hX hT h1 h2; subst_vars; simp_all)
  obtain ⟨e1, e2⟩ := fit7_two hO
  rw [e1] at h1
  rw [e2] at h2
  have hO := fit7_ok hO
  have h3 (wc : World) (hk : KB ⟨w, []⟩ wc) := pointsN F wc (hF.later hk) hO
  have hN9 := hO.pts
  obtain ⟨N, hN⟩ : ∃ N, N = stN F.sn F.bn := ⟨_, rfl⟩
  obtain ⟨pb, hpb⟩ : ∃ f : Nat → Nat, f = pbN F := ⟨_, rfl⟩
  obtain ⟨pi, hpi⟩ : ∃ f : Nat → Nat, f = piN F := ⟨_, rfl⟩
  have hR : ptR (allPts F.sn F.bn) = ⟨N, 2, fun j => [.int .i64 (.ofNat (pb j)), .int .i64 (.ofNat (pi j))]⟩ := by rw [ptR, allPts_len, hN, hpb, hpi]; rfl
  rw [hR] at h3
  have h40 (wc : World) (hk : KB ⟨w, []⟩ wc) := reachedC F wc (hF.later hk) hO
  have h50 (wc : World) (hk : KB ⟨w, []⟩ wc) (a : Nat) (ha : a < stN F.sn F.bn) := nextPC F wc (hF.later hk) hO (pbN F a) (piN F a) (num_pt ha).1 (num_pt ha).2.1
  have h60 (wc : World) (hk : KB ⟨w, []⟩ wc) (b i : Nat) := numberC F wc (hF.later hk) hO b i
  obtain ⟨rb, hrb⟩ : ∃ f : Nat → Bool, f = reachB F := ⟨_, rfl⟩
  obtain ⟨nl, hnl⟩ : ∃ f : Nat → Nat, f = fun a => (nextP F (pbN F a) (piN F a)).length := ⟨_, rfl⟩
  obtain ⟨q1, hq1⟩ : ∃ f : Nat → Nat → Nat, f = fun a k => ((nextP F (pbN F a) (piN F a)).getD k (0, 0)).1 := ⟨_, rfl⟩
  obtain ⟨q2, hq2⟩ : ∃ f : Nat → Nat → Nat, f = fun a k => ((nextP F (pbN F a) (piN F a)).getD k (0, 0)).2 := ⟨_, rfl⟩
  obtain ⟨nm, hnm⟩ : ∃ f : Nat → Nat → Nat, f = nmN F := ⟨_, rfl⟩
  have hR2 : reachR F (stN F.sn F.bn) = ⟨N, 1, fun j => [.bool (rb (pb j))]⟩ := by rw [reachR, hN, hpb, hrb]
  have h4 (wc : World) (hk : KB ⟨w, []⟩ wc) : Calls Try.prog 20 #[F.val] wc (RetR wc (funX F) (.tup [.one (.rs 0), .one (.int .i64 0)]) [⟨N, 1, fun j => [.bool (rb (pb j))]⟩]) := by
    rw [← hR2]; exact h40 wc hk
  have h5 (wc : World) (hk : KB ⟨w, []⟩ wc) (a : Nat) (ha : a < N) : Calls Try.prog 13 #[F.val, .agg #[.int .i64 (.ofNat (pb a)), .int .i64 (.ofNat (pi a))]] wc (RetR wc (funX F) (.tup [.one (.rs 0), .one (.int .i64 0)]) [⟨nl a, 2, fun j => [.int .i64 (.ofNat (q1 a j)), .int .i64 (.ofNat (q2 a j))]⟩]) := by
    rw [hpb, hpi, hnl, hq1, hq2]; exact h50 wc hk a (hN ▸ ha)
  have h6 (wc : World) (hk : KB ⟨w, []⟩ wc) (a k : Nat) (ha : a < N) (hk2 : k < nl a) : Calls Try.prog 18 #[F.val, .agg #[.int .i64 (.ofNat (q1 a k)), .int .i64 (.ofNat (q2 a k))]] wc (Ret wc (.tuple #[.int .i64 (.ofNat (nm a k)), .int .i64 0])) := by
    rw [hnl] at hk2
    have q := nmN_ok hO (hN ▸ ha) hk2
    rw [hq1, hq2, hnm]; exact h60 wc hk _ _ q.1 q.2.1
  have g1 : ∀ a k, a < N → k < nl a → nm a k < N ∧ (rb (pb a) = true → rb (pb (nm a k)) = true) := fun a k ha hk2 => by
    rw [hnl] at hk2
    have q := nmN_ok hO (hN ▸ ha) hk2
    rw [hnm, hrb, hpb, hN]
    refine ⟨q.2.2.1, fun h => ?_⟩
    rw [q.2.2.2.1]
    exact reachB_iff.2 (q.2.2.2.2.2 (reachB_iff.1 h))
  have hN0 : 0 < N := by rw [hN]; exact pts_pos hO
  obtain ⟨ln_, hln⟩ : ∃ f : List Nat → Nat, f = List.length := ⟨_, rfl⟩
  obtain ⟨gt_, hgt⟩ : ∃ f : List Nat → Nat → Nat, f = fun L j => L.getD j 0 := ⟨_, rfl⟩
  obtain ⟨V1, hV1⟩ : ∃ f : (Nat → Bool) → List Nat → Nat → Nat → Bool, f = fun S T k => (visG (succN F) S T k).1 := ⟨_, rfl⟩
  obtain ⟨V2, hV2⟩ : ∃ f : (Nat → Bool) → List Nat → Nat → List Nat, f = fun S T k => (visG (succN F) S T k).2 := ⟨_, rfl⟩
  obtain ⟨Q, hQ⟩ : ∃ f : (Nat → Bool) → List Nat → Prop, f = GInv (succN F) N := ⟨_, rfl⟩
  obtain ⟨me, hme⟩ : ∃ f : (Nat → Bool) → List Nat → Nat, f = fun S T => unmet S N + T.length := ⟨_, rfl⟩
  have hsl : ∀ a, (succN F a).length = nl a := fun a => by rw [hnl]; exact succN_len F a
  have hnm2 : ∀ a k, k < nl a → (succN F a).getD k 0 = nm a k := fun a k hk => by rw [hnl] at hk; rw [hnm]; exact succN_at hk
  have hsu : ∀ a, a < N → ∀ n ∈ succN F a, n < N := fun a ha => by
    rw [hN] at ha ⊢; exact succN_lt hO ha
  have qh : ∀ {S T}, Q S T → 0 < ln_ T → gt_ T 0 < N := fun {S T} h h0 => by
    rw [hQ] at h; rw [hln] at h0
    obtain ⟨b, T, rfl⟩ := le_gt rfl h0
    rw [hgt]; exact (h.r b (h.t b List.mem_cons_self)).2
  have q0 : Q (fun j => decide (j = 0)) [0] := by rw [hQ]; exact ginv_first (succN F) hN0
  have qs : ∀ {S T}, Q S T → 0 < ln_ T → Q (V1 S T (nl (gt_ T 0))) (V2 S T (nl (gt_ T 0))) ∧ me (V1 S T (nl (gt_ T 0))) (V2 S T (nl (gt_ T 0))) < me S T := fun {S T} h h0 => by
    rw [hQ] at h ⊢; rw [hln] at h0
    obtain ⟨b, T, rfl⟩ := le_gt rfl h0
    have hb := (h.r b (h.t b List.mem_cons_self)).2
    have e : gt_ (b :: T) 0 = b := by rw [hgt]; rfl
    have hs := visG_size (S := S) (T := T) (nl b) (M := N) (hsu b hb)
    rw [e, hme]
    rw [← hsl] at hs ⊢
    rw [hV1, hV2]
    simp only at hs ⊢
    refine ⟨?_, by rw [hs]; simp only [List.length_cons]; omega⟩
    rw [visG_end]
    exact ginv_step h (hsu b hb)
  have ql : ∀ {S T}, Q S T → 0 < ln_ T → ∀ k, ln_ (V2 S T k) ≤ 600 := fun {S T} h h0 k => by
    rw [hQ] at h; rw [hln] at h0
    obtain ⟨b, T, rfl⟩ := le_gt rfl h0
    have hb := (h.r b (h.t b List.mem_cons_self)).2
    have hs := visG_size (S := S) (T := T) k (M := N) (hsu b hb)
    have hm := h.m
    rw [hln, hV2]
    simp only [List.length_cons] at hm hs ⊢
    omega
  have qe : ∀ {S T}, Q S T → ln_ T = 0 → ∀ j, j < N → S j = rb (pb j) := fun {S T} h h0 j hj => by
    rw [hQ] at h; rw [hln] at h0
    obtain rfl : T = [] := List.eq_nil_of_length_eq_zero h0
    rw [hrb, hpb]; subst hN; exact ginv_pt hO h hj
  have v0 : ∀ {S T}, V1 S T 0 = S ∧ ln_ (V2 S T 0) = ln_ T - 1 ∧ ∀ j, gt_ (V2 S T 0) j = gt_ T (j + 1) := fun {S T} => by
    rw [hV1, hV2, hln, hgt]; simp only [visG_zero]
    exact ⟨trivial, List.length_tail, fun j => tail_getD T j⟩
  have vt : ∀ {S T k}, k < nl (gt_ T 0) → V1 S T k (nm (gt_ T 0) k) = true → V1 S T (k + 1) = V1 S T k ∧ V2 S T (k + 1) = V2 S T k := fun {S T k} hk h => by
    rw [← hnm2 _ _ hk] at h
    rw [← hsl] at hk
    rw [hgt] at hk; rw [hV1, hgt] at h; rw [hV1, hV2]
    simp only at h ⊢
    rw [visG_succ hk]
    unfold visit
    rw [if_pos h]
    exact ⟨rfl, rfl⟩
  have vf : ∀ {S T k}, k < nl (gt_ T 0) → V1 S T k (nm (gt_ T 0) k) = false → (∀ j, V1 S T (k + 1) j = if j = nm (gt_ T 0) k then true else V1 S T k j) ∧ ln_ (V2 S T (k + 1)) = ln_ (V2 S T k) + 1 ∧ (∀ j, j < ln_ (V2 S T k) → gt_ (V2 S T (k + 1)) j = gt_ (V2 S T k) j) ∧ gt_ (V2 S T (k + 1)) (ln_ (V2 S T k)) = nm (gt_ T 0) k := fun {S T k} hk h => by
    have e1 := hnm2 _ _ hk
    rw [← e1] at h ⊢
    rw [← hsl] at hk
    rw [hgt] at hk; rw [hV1, hgt] at h; rw [hV1, hV2, hln, hgt]
    simp only at h ⊢
    rw [visG_succ hk]
    have e : ∀ x n, x.1 n = false → visit x n = (fun j => if j = n then true else x.1 j, x.2 ++ [n]) := fun x n h => by unfold visit; rw [if_neg (by simp [h])]
    rw [e _ _ h]
    refine ⟨fun j => rfl, by simp, fun j hj => ?_, ?_⟩
    · simp only [List.getD, List.getElem?_append_left hj]
    · simp [List.getD]
  have nml : ∀ {a k}, a < N → k < nl a → nm a k < N := fun ha hk => (g1 _ _ ha hk).1
  have nl9 : ∀ a, nl a ≤ 2 := fun a => by rw [hnl]; exact nextP_len
  have l0 : ln_ [0] = 1 := by rw [hln]; rfl
  have g0 : gt_ [0] 0 = 0 := by rw [hgt]; rfl
  rw [← hN] at hN9
  clear hR hR2 hN hpb hpi hrb hme hQ hV1 hV2 hgt hln h40 h50 h60 hO hK e1 e2 hnl hq1 hq2 hnm hsu hsl hnm2 g1
  obtain ⟨pa, un, lA, ln, lc, lk, lt, bA, bn, bc, sA, sn, sc, s, jA, jn, jc, ja, jk, jo, jf, jx, je, jd⟩ := F
  obtain ⟨hX, hl, hb, hs, hj⟩ := hF
  simp only at hl hb hs hj
  refine go_start (args := [.pt (.agg (GFun.dat ⟨pa, un, lA, ln, lc, lk, lt, bA, bn, bc, sA, sn, sc, s, jA, jn, jc, ja, jk, jo, jf, jx, je, jd⟩))]) (c := (funX ⟨pa, un, lA, ln, lc, lk, lt, bA, bn, bc, sA, sn, sc, s, jA, jn, jc, ja, jk, jo, jf, jx, je, jd⟩)) Try.func7 rfl hX rfl rfl ?_
  obtain ⟨nd, hnd⟩ : ∃ f : Bool → Bool → Bool, f = and := ⟨_, rfl⟩
  obtain ⟨nt, hnt⟩ : ∃ f : Bool → Bool, f = not := ⟨_, rfl⟩
  obtain ⟨ar, har⟩ : ∃ f : BinOp → IntKind → Int → Int → Int, f = rAr := ⟨_, rfl⟩
  obtain ⟨cm, hcm⟩ : ∃ f : BinOp → Int → Int → Bool, f = rCm := ⟨_, rfl⟩
  obtain ⟨mx, hmx⟩ : ∃ f : Int → Int → Int, f = rMx := ⟨_, rfl⟩
  obtain ⟨mn, hmn⟩ : ∃ f : Int → Int → Int, f = rMn := ⟨_, rfl⟩
  have ar01 : ar .add .i64 0 1 = 1 := by rw [har]; decide
  have ar12 : ar .add .i64 1 1 = 2 := by rw [har]; decide
  obtain ⟨zpl, hzpl⟩ : ∃ f : Nat → Nat → Nat, f = fun x y => x + y := ⟨_, rfl⟩
  obtain ⟨zjn, hzjn⟩ : ∃ f : Nat → (Nat → List SC) → (Nat → List SC) → Nat → List SC, f = rJn := ⟨_, rfl⟩
  obtain ⟨zup, hzup⟩ : ∃ f : (Nat → List SC) → Nat → Nat → List SC → Nat → List SC, f = rUp := ⟨_, rfl⟩
  obtain ⟨zmi, hzmi⟩ : ∃ f : Nat → Nat → Nat, f = fun x y => x - y := ⟨_, rfl⟩
  obtain ⟨zdp, hzdp⟩ : ∃ f : Nat → (Nat → List SC) → Nat → List SC, f = rDp := ⟨_, rfl⟩
  have hT := T0_ok hnd hnt har hcm hmx hmn hzpl hzjn hzup hzmi hzdp
  have c0 : decide (Int.ofNat N = 0) = false := decide_eq_false (fun h => by simp only [Int.ofNat_eq_natCast] at h; omega)
  have c1 : ∀ m : Nat, cm .lss (.ofNat m) 0 = false := fun m => by rw [hcm]; exact decide_eq_false (Int.not_lt.2 (Int.natCast_nonneg m))
  have c2 : ∀ {m : Nat}, m < N → cm .geq (.ofNat m) (.ofNat N) = false := fun {m} h => by rw [hcm]; exact decide_eq_false (fun g => absurd (Int.ofNat_le.1 g) (by omega))
  have hmk : (N : Int) ≤ 1073741824 := by omega
  have hle1 : RowLe ⟨N, 1, zup (fun x => [SC.lit false]) 0 0 [SC.lit true]⟩ ⟨N, 1, fun j => [SC.bool (decide (j = 0))]⟩ := by
    refine rowLe_up hzup rfl (fun j hj h => ⟨?_, trivial⟩) (fun _ => ⟨?_, trivial⟩)
    · rw [decide_eq_false h]; show false = false; rfl
    · exact rfl
  have hle2 : RowLe ⟨1, 1, fun j => cutL [SC.int IntKind.i64 0] (j * 1) 1⟩ ⟨ln_ [0], 1, fun j => [SC.int IntKind.i64 (Int.ofNat (gt_ [0] j))]⟩ := by
    refine rowLe_of l0.symm (fun j hj => ?_)
    have hj2 : j = 0 := by omega
    subst hj2
    rw [g0]
    exact ⟨⟨rfl, rfl⟩, trivial⟩
  have hpos : ∀ {T}, cm .gtr (.ofNat (ln_ T)) 0 = true → 0 < ln_ T := fun {T} h => by
    rw [hcm] at h; exact Int.ofNat_lt.1 (of_decide_eq_true h)
  have hzer : ∀ {T}, cm .gtr (.ofNat (ln_ T)) 0 = false → ln_ T = 0 := fun {T} h => by
    rw [hcm] at h
    have h2 : ¬ (0 < ln_ T) := fun g => of_decide_eq_false h (Int.ofNat_lt.2 g)
    omega
  have hle5 : ∀ {S T}, RowLe ⟨zmi (ln_ T) 1, 1, zdp 1 (fun j => [SC.int .i64 (.ofNat (gt_ T j))])⟩ ⟨ln_ (V2 S T 0), 1, fun j => [SC.int .i64 (.ofNat (gt_ (V2 S T 0) j))]⟩ := fun {S T} =>
    rowLe_dp hzmi hzdp v0.2.1 (fun j hj => by rw [v0.2.2]; exact ⟨⟨rfl, rfl⟩, trivial⟩)
  have hle6 : ∀ {S T}, RowLe ⟨N, 1, fun j => [SC.bool (S j)]⟩ ⟨N, 1, fun j => [SC.bool (V1 S T 0 j)]⟩ := fun {S T} =>
    rowLe_of rfl (fun j hj => by rw [v0.1]; exact ⟨rfl, trivial⟩)
  have hle7 : ∀ {S T k}, k ≤ nl (gt_ T 0) → nl (gt_ T 0) ≤ k → RowLe ⟨N, 1, fun j => [SC.bool (V1 S T k j)]⟩ ⟨N, 1, fun j => [SC.bool (V1 S T (nl (gt_ T 0)) j)]⟩ := fun {S T k} h1 h2 => by
    rw [Nat.le_antisymm h1 h2]; exact RowLe.rfl' _
  have hle8 : ∀ {S T k}, k ≤ nl (gt_ T 0) → nl (gt_ T 0) ≤ k → RowLe ⟨ln_ (V2 S T k), 1, fun j => [SC.int .i64 (.ofNat (gt_ (V2 S T k) j))]⟩ ⟨ln_ (V2 S T (nl (gt_ T 0))), 1, fun j => [SC.int .i64 (.ofNat (gt_ (V2 S T (nl (gt_ T 0))) j))]⟩ := fun {S T k} h1 h2 => by
    rw [Nat.le_antisymm h1 h2]; exact RowLe.rfl' _
  have hle9 : ∀ {S T k}, k < nl (gt_ T 0) → V1 S T k (nm (gt_ T 0) k) = true → RowLe ⟨N, 1, fun j => [SC.bool (V1 S T k j)]⟩ ⟨N, 1, fun j => [SC.bool (V1 S T (k + 1) j)]⟩ := fun {S T k} h1 h2 => by
    rw [(vt h1 h2).1]; exact RowLe.rfl' _
  have hle10 : ∀ {S T k}, k < nl (gt_ T 0) → V1 S T k (nm (gt_ T 0) k) = true → RowLe ⟨ln_ (V2 S T k), 1, fun j => [SC.int .i64 (.ofNat (gt_ (V2 S T k) j))]⟩ ⟨ln_ (V2 S T (k + 1)), 1, fun j => [SC.int .i64 (.ofNat (gt_ (V2 S T (k + 1)) j))]⟩ := fun {S T k} h1 h2 => by
    rw [(vt h1 h2).2]; exact RowLe.rfl' _
  have hle11 : ∀ {S T k}, k < nl (gt_ T 0) → V1 S T k (nm (gt_ T 0) k) = false → RowLe ⟨N, 1, zup (fun j => [SC.bool (V1 S T k j)]) (nm (gt_ T 0) k) 0 [SC.lit true]⟩ ⟨N, 1, fun j => [SC.bool (V1 S T (k + 1) j)]⟩ := fun {S T k} h1 h2 => by
    refine rowLe_up hzup rfl (fun j hj h => ⟨?_, trivial⟩) (fun _ => ⟨?_, trivial⟩)
    · rw [(vf h1 h2).1, if_neg h]; exact rfl
    · rw [(vf h1 h2).1, if_pos rfl]; show true = true; rfl
  have hle12 : ∀ {S T k}, k < nl (gt_ T 0) → V1 S T k (nm (gt_ T 0) k) = false → RowLe ⟨zpl (ln_ (V2 S T k)) 1, 1, zjn (ln_ (V2 S T k)) (fun j => [SC.int .i64 (.ofNat (gt_ (V2 S T k) j))]) (fun j => cutL [SC.int .i64 (.ofNat (nm (gt_ T 0) k))] (0 + j * 1) 1)⟩ ⟨ln_ (V2 S T (k + 1)), 1, fun j => [SC.int .i64 (.ofNat (gt_ (V2 S T (k + 1)) j))]⟩ := fun {S T k} h1 h2 => by
    have q := vf h1 h2
    refine rowLe_snoc hzpl hzjn q.2.1 (fun j hj => ⟨⟨rfl, ?_⟩, trivial⟩) ⟨⟨rfl, ?_⟩, trivial⟩
    · rw [q.2.2.1 j hj]
    · rw [q.2.2.2]
  repeat' (first
    | ((with_reducible apply go_ev hT 400); (· (cbv; try rfl)); (fail_if_success with_reducible apply stuck_id))
    | ((with_reducible refine go_brt ?_ ?_); (· first | rfl | assumption | (rw [hcm]; decide)))
    | ((with_reducible refine go_brf ?_ ?_); (· first | rfl | assumption | (rw [hcm]; decide)))
    | ((with_reducible refine go_brnt hnt ?_ ?_); (· first | rfl | assumption))
    | ((with_reducible refine go_brnf hnt ?_ ?_); (· first | rfl | assumption))
    | (with_reducible refine go_brn hnt (fun h => ?_) (fun h => ?_))
    | (with_reducible refine go_brl hcm (fun hlt => ?_) (fun hge => ?_))
    | (with_reducible refine go_br (fun h => ?_) (fun h => ?_))
    | ((with_reducible apply go_ret_val hT); (· (cbv; try rfl)); (· (cbv; try rfl)))
    | ((with_reducible apply go_fin_val hT); (· (cbv; try rfl)); (· (cbv; try rfl)))
    | ((with_reducible apply go_drawQ [13]); (· rfl); (· rfl); (· kernel_rfl); (· kernel_rfl))
    | ((with_reducible apply go_drawE); (· kernel_rfl))
    | (with_reducible refine go_fork ?_)
    | (with_reducible refine fork_cons ?_ ?_)
    | (with_reducible exact fork_nil)
    | ((with_reducible refine go_need ?_ ?_ ?_); (· first | omega | (simp only [Int.ofNat_eq_natCast]; omega)); (· first | omega | (simp only [Int.ofNat_eq_natCast]; omega)))
    | ((with_reducible refine go_ob ?_ ?_); (· first | trivial | (refine ⟨trivial, ?_⟩; omega) | (rw [hzpl]; refine ⟨trivial, ?_⟩; show _ + _ ≤ 1073741824; omega) | (rw [hzpl]; show _ + _ ≤ 1073741824; omega) | ((exact ⟨Int.natCast_nonneg N, hmk⟩)) | ((exact hpos (by assumption))) | ((rw [hzpl]; exact Nat.le_trans (Nat.add_le_add_right (ql hQ (hpos (by assumption)) k) 1) (Nat.le_of_ble_eq_true rfl)))))
    | ((with_reducible apply go_ret_rows hT); (· (cbv; try rfl)); (· (cbv; try rfl)); (· (cbv; (try simp only [true_and, and_true]); (try ((repeat' apply And.intro) <;> (first | trivial | rfl | decide  | ((exact hle1)) | ((exact hle2)) | ((exact hle5)) | ((exact hle6)) | ((rw [wrap_nat har _ (by have := nl9 (gt_ T 0); have h9 : k < nl (gt_ T 0) := hlt; omega)])) | ((exact hle7 hk hge)) | ((exact hle8 hk hge)) | ((exact hle9 hlt (by assumption))) | ((exact hle10 hlt (by assumption))) | ((exact hle11 hlt (by assumption))) | ((exact hle12 hlt (by assumption)))))))); (· (cbv; (try simp only [true_and, and_true]); (try ((repeat' apply And.intro) <;> (first | trivial | rfl | exact RowLe.rfl' _  | ((exact hle1)) | ((exact hle2)) | ((exact hle5)) | ((exact hle6)) | ((rw [wrap_nat har _ (by have := nl9 (gt_ T 0); have h9 : k < nl (gt_ T 0) := hlt; omega)])) | ((exact hle7 hk hge)) | ((exact hle8 hk hge)) | ((exact hle9 hlt (by assumption))) | ((exact hle10 hlt (by assumption))) | ((exact hle11 hlt (by assumption))) | ((exact hle12 hlt (by assumption)))))))); (· rfl))
    | ((with_reducible apply go_fin_rows hT); (· (cbv; try rfl)); (· (cbv; try rfl)); (· (cbv; (try simp only [true_and, and_true]); (try ((repeat' apply And.intro) <;> (first | trivial | rfl | decide  | ((exact hle1)) | ((exact hle2)) | ((exact hle5)) | ((exact hle6)) | ((rw [wrap_nat har _ (by have := nl9 (gt_ T 0); have h9 : k < nl (gt_ T 0) := hlt; omega)])) | ((exact hle7 hk hge)) | ((exact hle8 hk hge)) | ((exact hle9 hlt (by assumption))) | ((exact hle10 hlt (by assumption))) | ((exact hle11 hlt (by assumption))) | ((exact hle12 hlt (by assumption)))))))); (· (cbv; (try simp only [true_and, and_true]); (try ((repeat' apply And.intro) <;> (first | trivial | rfl | exact RowLe.rfl' _  | ((exact hle1)) | ((exact hle2)) | ((exact hle5)) | ((exact hle6)) | ((rw [wrap_nat har _ (by have := nl9 (gt_ T 0); have h9 : k < nl (gt_ T 0) := hlt; omega)])) | ((exact hle7 hk hge)) | ((exact hle8 hk hge)) | ((exact hle9 hlt (by assumption))) | ((exact hle10 hlt (by assumption))) | ((exact hle11 hlt (by assumption))) | ((exact hle12 hlt (by assumption)))))))); (· rfl))
    | ((with_reducible apply go_call_bool (f := 9) (hf := Try.call9)); (· (cbv; try rfl)); (· intro wc hbc hxc; exact h1 wc hbc); intro z hz)
    | ((with_reducible apply go_callq_bool (f := 9) (hf := Try.call9)); (· (cbv; try rfl)); (· intro wc hbc hxc; exact h1 wc hbc); intro z hz)
    | ((with_reducible apply go_call (f := 10) (hf := Try.call10)); (· (cbv; try rfl)); (· intro wc hbc hxc; exact h2 wc hbc))
    | ((with_reducible apply go_callq (f := 10) (hf := Try.call10)); (· (cbv; try rfl)); (· intro wc hbc hxc; exact h2 wc hbc))
    | ((with_reducible apply go_callR (f := 12) (hf := Try.call12)); (· intro S; cbv; try rfl); (· intro wc S hbc hxc hrc; exact h3 wc hbc); (· rfl))
    | ((with_reducible apply go_callR (f := 20) (hf := Try.call20)); (· intro S; cbv; try rfl); (· intro wc S hbc hxc hrc; exact h4 wc hbc); (· rfl))
    | ((with_reducible apply go_callR (f := 13) (hf := Try.call13)); (· intro S; cbv; try rfl); (· intro wc S hbc hxc hrc; exact h5 wc hbc _ (qh hQ (hpos (by assumption)))); (· rfl))
    | ((with_reducible apply go_call (f := 18) (hf := Try.call18)); (· (cbv; try rfl)); (· intro wc hbc hxc; exact h6 wc hbc (gt_ T 0) k (qh hQ (hpos (by assumption))) (by assumption)))
    | ((with_reducible apply go_callq (f := 18) (hf := Try.call18)); (· (cbv; try rfl)); (· intro wc hbc hxc; exact h6 wc hbc (gt_ T 0) k (qh hQ (hpos (by assumption))) (by assumption)))
    | ((with_reducible apply go_callRv (f := 21) (hf := Try.call21)); (· intro S; cbv; try rfl); (· intro wc S hbc hxc hrc; exact sameBoolsC N _ _ (qe hQ (hzer (by assumption))) (by omega) _ wc _ _ (hrc _ _ rfl) (hrc _ _ rfl)))
    | ((with_reducible apply go_callqRv (f := 21) (hf := Try.call21)); (· intro S; cbv; try rfl); (· intro wc S hbc hxc hrc; exact sameBoolsC N _ _ (qe hQ (hzer (by assumption))) (by omega) _ wc _ _ (hrc _ _ rfl) (hrc _ _ rfl)))
    | ((with_reducible apply go_call (f := 11) (hf := Try.call11)); (· (cbv; try rfl)); (· intro wc hbc hxc; exact alive11C wc))
    | ((with_reducible apply go_callq (f := 11) (hf := Try.call11)); (· (cbv; try rfl)); (· intro wc hbc hxc; exact alive11C wc))
    | ((with_reducible apply go_row 8 1); (· (cbv; try rfl)))
    | ((with_reducible refine go_loopk (σ := {x : (Nat → Bool) × List Nat // Q x.1 x.2}) [2, 9, 10, 11, 12, 13, 14, 57, 58, 59, 60, 61, 62, 63, 64, 65, 66, 67, 68, 69, 70, 71, 72, 73, 74, 75, 76, 77, 78, 79, 80, 81, 82, 83, 84, 85, 86, 87, 88, 89, 90, 91, 92, 93, 94, 95, 96, 97, 98, 99, 100, 101, 102, 103, 104, 105, 106, 107, 108, 109, 110, 111, 112, 113, 114] (fun x => []) (fun x => []) (fun x => [(2, ⟨N, 1, fun j => [.bool (x.1.1 j)]⟩), (3, ⟨ln_ x.1.2, 1, fun j => [.int .i64 (.ofNat (gt_ x.1.2 j))]⟩)]) (fun x => me x.1.1 x.1.2) ⟨(fun j => decide (j = 0), [0]), q0⟩ ?_ ?_ ?_ ?_); (· (refine le_mk ?_ ?_ ?_ ?_ <;> (cbv; (try simp only [true_and, and_true]); (try ((repeat' apply And.intro) <;> (first | trivial | rfl | exact RowLe.rfl' _ | (rw [wrap_nat har _ (by omega)]) | ((exact hle1)) | ((exact hle2)) | ((exact hle5)) | ((exact hle6)) | ((rw [wrap_nat har _ (by have := nl9 (gt_ T 0); have h9 : k < nl (gt_ T 0) := hlt; omega)])) | ((exact hle7 hk hge)) | ((exact hle8 hk hge)) | ((exact hle9 hlt (by assumption))) | ((exact hle10 hlt (by assumption))) | ((exact hle11 hlt (by assumption))) | ((exact hle12 hlt (by assumption))))))))); (· (cbv; try rfl)); (· simp); (rintro ⟨⟨S, T⟩, hQ⟩ mm hmm))
    | ((with_reducible refine go_loopk (σ := {k : Nat // k ≤ nl (gt_ T 0)}) [2, 13, 14, 64, 76, 77, 78, 79, 80, 81, 82, 83, 84, 85, 86, 87, 88, 89, 90, 91, 92, 93, 94, 95, 96, 97, 98, 99, 100, 101, 102, 103, 104, 105, 106, 107, 108, 109, 110, 111, 112, 113, 114] (fun x => [(12, .pt (.one (.int .i64 (.ofNat x.1))))]) (fun x => []) (fun x => [(2, ⟨N, 1, fun j => [.bool (V1 S T x.1 j)]⟩), (3, ⟨ln_ (V2 S T x.1), 1, fun j => [.int .i64 (.ofNat (gt_ (V2 S T x.1) j))]⟩)]) (fun x => nl (gt_ T 0) - x.1) ⟨0, by omega⟩ ?_ ?_ ?_ ?_); (· (refine le_mk ?_ ?_ ?_ ?_ <;> (cbv; (try simp only [true_and, and_true]); (try ((repeat' apply And.intro) <;> (first | trivial | rfl | exact RowLe.rfl' _ | (rw [wrap_nat har _ (by omega)]) | ((exact hle1)) | ((exact hle2)) | ((exact hle5)) | ((exact hle6)) | ((rw [wrap_nat har _ (by have := nl9 (gt_ T 0); have h9 : k < nl (gt_ T 0) := hlt; omega)])) | ((exact hle7 hk hge)) | ((exact hle8 hk hge)) | ((exact hle9 hlt (by assumption))) | ((exact hle10 hlt (by assumption))) | ((exact hle11 hlt (by assumption))) | ((exact hle12 hlt (by assumption))))))))); (· (cbv; try rfl)); (· simp); (rintro ⟨k, hk⟩ mm hmm))
    | (((with_reducible apply go_need); (· exact Int.le_refl 0); (· exact Int.natCast_pos.2 (hpos (by assumption)))))
    | (((with_reducible apply go_need); (· exact Int.natCast_nonneg _); (· exact Int.ofNat_lt.2 (qh hQ (hpos (by assumption))))))
    | (((with_reducible apply go_need); (· exact Int.natCast_nonneg _); (· exact Int.ofNat_lt.2 (nml (qh hQ (hpos (by assumption))) hlt))))
    | (((with_reducible apply go_need); (· exact Int.natCast_nonneg _); (· exact Int.ofNat_lt.2 hlt)))
    | ((with_reducible refine go_stop (⟨(V1 S T (nl (gt_ T 0)), V2 S T (nl (gt_ T 0))), (qs hQ (hpos (by assumption))).1⟩ : {x : (Nat → Bool) × List Nat // Q x.1 x.2}) ?_ ?_ ?_ ?_); (· subst hmm; (exact Nat.lt_of_lt_of_eq (qs hQ (hpos (by assumption))).2 (Eq.symm (by assumption)))); (· (refine le_mk ?_ ?_ ?_ ?_ <;> (cbv; (try simp only [true_and, and_true]); (try ((repeat' apply And.intro) <;> (first | trivial | rfl | exact RowLe.rfl' _ | (rw [wrap_nat har _ (by omega)]) | ((exact hle1)) | ((exact hle2)) | ((exact hle5)) | ((exact hle6)) | ((rw [wrap_nat har _ (by have := nl9 (gt_ T 0); have h9 : k < nl (gt_ T 0) := hlt; omega)])) | ((exact hle7 hk hge)) | ((exact hle8 hk hge)) | ((exact hle9 hlt (by assumption))) | ((exact hle10 hlt (by assumption))) | ((exact hle11 hlt (by assumption))) | ((exact hle12 hlt (by assumption))))))))); (· (cbv; try rfl)); (· simp))
    | ((with_reducible refine go_stop (⟨k + 1, Nat.succ_le_of_lt hlt⟩ : {k : Nat // k ≤ nl (gt_ T 0)}) ?_ ?_ ?_ ?_); (· subst hmm; (have hlt2 : k < nl (gt_ T 0) := hlt; show nl (gt_ T 0) - (k + 1) < nl (gt_ T 0) - k; omega)); (· (refine le_mk ?_ ?_ ?_ ?_ <;> (cbv; (try simp only [true_and, and_true]); (try ((repeat' apply And.intro) <;> (first | trivial | rfl | exact RowLe.rfl' _ | (rw [wrap_nat har _ (by omega)]) | ((exact hle1)) | ((exact hle2)) | ((exact hle5)) | ((exact hle6)) | ((rw [wrap_nat har _ (by have := nl9 (gt_ T 0); have h9 : k < nl (gt_ T 0) := hlt; omega)])) | ((exact hle7 hk hge)) | ((exact hle8 hk hge)) | ((exact hle9 hlt (by assumption))) | ((exact hle10 hlt (by assumption))) | ((exact hle11 hlt (by assumption))) | ((exact hle12 hlt (by assumption))))))))); (· (cbv; try rfl)); (· simp))
    | (fail)
    )
  all_goals (try rfl)
  all_goals first
    | (have q : cm .lss (.ofNat (nm (gt_ T 0) k)) 0 = true := by assumption
       rw [c1] at q; cases q)
    | (have q : cm .geq (.ofNat (nm (gt_ T 0) k)) (.ofNat N) = true := by assumption
       rw [c2 (nml (qh hQ (hpos (by assumption))) hlt)] at q; cases q)

end Go.Proofs.Ytanocepbagbbkaa
