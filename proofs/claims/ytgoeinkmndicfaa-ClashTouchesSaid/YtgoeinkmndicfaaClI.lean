/- Layer 23: the accesses of a point, by the reference, from a jump's arguments. No condition. -/
import Derived.Test.YtgoeinkmndicfaaClH
namespace Go.Proofs.Ytgoeinkmndicfaa
open Go.RowKit
set_option linter.unusedVariables false
set_option linter.unusedSimpArgs false

set_option maxRecDepth 100000 in
set_option maxHeartbeats 32000000 in
theorem toldB (F : GFun) (w : World) (hF : F.At w) (hO : F.Ok) (n : Nat) (hn : n < stN F.sn F.bn) (pb : Nat) (hpb0 : pbN F n = pb) (hn8 : F.jn pb ≤ 8) (hin : ∀ i, i < F.jn pb → opIn F.ln (F.ja pb i)) (hOps0 : ∀ (wc : World), KB ⟨w, []⟩ wc → Calls Try.prog 46 #[F.val, .int .i64 (.ofNat n)] wc (RetR wc (funX F) (.pt (.one (.xs 3 pb))) [])) :
    Calls Try.prog 23 #[F.val, .int .i64 (.ofNat n)] w (RetR w (funX F) (.pt (.one (.rs 0))) [touR (toldT F n (opsT F (F.ja pb) (F.jn pb)))]) := by
  have hS0 (wc : World) (hk : KB ⟨w, []⟩ wc) := stmtN F wc (hF.later hk) hO.small n hn
  have hTg0 (wc : World) (hk : KB ⟨w, []⟩ wc) := rTarget F wc (hF.later hk) hO n hn
  have hJ (wc : World) (hk : KB ⟨w, []⟩ wc) := rJumpC F wc (hF.later hk) hO.small n hn
  have hOps (wc : World) (hk : KB ⟨w, []⟩ wc) : Calls Try.prog 46 #[F.val, .int .i64 (.ofNat n)] wc (RetR wc (chiG (funX F) 4 NoFam) (.pt (.one (.xs 3 pb))) []) := (hOps0 wc hk).mono fun en w' h => RetR.xs (chiG_lt (by decide)).symm h
  obtain ⟨X, hX'⟩ : ∃ f : Nat → List GTouch, f = opsT F (F.ja pb) := ⟨_, rfl⟩
  have x0 : X 0 = [] := by rw [hX']; rfl
  have x2 : ∀ i, ((F.ja pb) i).k = 2 → X (i + 1) = X i ++ [⟨((F.ja pb) i).p, false, deepB F ((F.ja pb) i).p⟩] := fun i h => by rw [hX']; simp only [opsT, opT, if_pos h]
  have x3 : ∀ i, ((F.ja pb) i).k = 3 → X (i + 1) = X i ++ [⟨((F.ja pb) i).p, true, true⟩] := fun i h => by rw [hX']; simp only [opsT, opT, if_pos h, show ¬ ((F.ja pb) i).k = 2 by omega, if_false]
  have x1 : ∀ i, ((F.ja pb) i).k ≠ 2 → ((F.ja pb) i).k ≠ 3 → X (i + 1) = X i := fun i h h' => by rw [hX']; simp only [opsT, opT, if_neg h, if_neg h', List.append_nil]
  have xl : ∀ i, (X i).length ≤ i := fun i => by rw [hX']; exact opsT_len _ _ i
  rw [← hX']
  obtain ⟨ln_, hln⟩ : ∃ f : List GTouch → Nat, f = List.length := ⟨_, rfl⟩
  obtain ⟨tc, htc⟩ : ∃ f : List GTouch → Nat → GTouch, f = fun L j => L.getD j .zero := ⟨_, rfl⟩
  have hRX : ∀ L, touR L = ⟨ln_ L, 5, fun j => (tc L j).sc⟩ := fun L => by rw [touR, hln, htc]
  obtain ⟨dp, hdp⟩ : ∃ f : GPlace → Bool, f = deepB F := ⟨_, rfl⟩
  rw [← hdp] at x2
  obtain ⟨wp, hwp⟩ : ∃ f : GPlace → Bool, f = wholeP := ⟨_, rfl⟩
  obtain ⟨pf, hpf⟩ : ∃ f : Nat → Bool, f = fun j => isPtr (F.lk j) := ⟨_, rfl⟩
  have hW (l f : Int) (d : Bool) (wc : World) : Calls Try.prog 47 #[.agg #[.int .i64 l, .bool d, .int .u8 f]] wc (Ret wc (.bool (wp ⟨l, d, f⟩))) := by
    rw [hwp]; exact rWholeC l f d wc
  have hP (j : Nat) (wc : World) : Calls Try.prog 48 #[.agg #[.int .u8 (F.lk j), .int .u8 (F.lt j)]] wc (Ret wc (.bool (pf j))) := by
    rw [hpf]; exact rPointer (F.lk j) (F.lt j) wc
  have hd1 : ∀ p, wp p = false → true = dp p := fun p h => by rw [hwp] at h; rw [hdp]; simp [deepB, h]
  have hd2 : ∀ p, wp p = true → (!pf p.l.toNat) = dp p := fun p h => by rw [hwp] at h; rw [hdp, hpf]; simp [deepB, h, ptrB, isPtr]
  have xl2 : ∀ i, ln_ (X i) ≤ i := fun i => by rw [hln]; exact xl i
  have hT0 : RowLe ⟨ln_ (X (F.jn pb)), 5, fun j => (tc (X (F.jn pb)) j).sc⟩ (touR (X (F.jn pb))) := by rw [hRX]; exact RowLe.rfl' _
  obtain ⟨R, hR0⟩ : ∃ R, R = touR (toldT F n (X (F.jn pb))) := ⟨_, rfl⟩
  rw [← hR0]
  have hpl : plainR [R] := by rw [hR0]; exact touPlain _
  have hR := hR0.trans (congrArg touR (toldT_eq F n (X (F.jn pb))))
  clear hR0
  obtain ⟨s, hs'⟩ : ∃ s, s = stAt F n := ⟨_, rfl⟩
  obtain ⟨ia, hi'⟩ : ∃ s, s = isAt F n := ⟨_, rfl⟩
  have hb' : pb = pbN F n := hpb0.symm
  obtain ⟨tp, htp⟩ : ∃ p, p = tgP F n := ⟨_, rfl⟩
  obtain ⟨tw, htw⟩ : ∃ p, p = tgW F n := ⟨_, rfl⟩
  rw [← hs', ← hi'] at hS0
  rw [← htp, ← htw] at hTg0
  rw [← hb'] at hJ 
  rw [← hs', ← hi', ← hb', ← htp, ← htw] at hR
  have hS (wc : World) (hk : KB ⟨w, []⟩ wc) : Calls Try.prog 49 #[F.val, .int .i64 (.ofNat n)] wc (Ret wc (.tuple #[s.val, .bool ia])) := hS0 wc hk
  have hTg (wc : World) (hk : KB ⟨w, []⟩ wc) : Calls Try.prog 50 #[F.val, .int .i64 (.ofNat n)] wc (Ret wc (.tuple #[.agg #[.int .i64 tp.l, .bool tp.d, .int .u8 tp.f], .bool tw])) := hTg0 wc hk
  obtain ⟨jk', hjk⟩ : ∃ k, k = F.jk pb := ⟨_, rfl⟩
  rw [← hjk] at hR
  obtain ⟨T0, hT0'⟩ : ∃ T, T = X (F.jn pb) := ⟨_, rfl⟩
  rw [← hT0'] at hR
  have hT0 : RowLe ⟨ln_ (X (F.jn pb)), 5, fun j => (tc (X (F.jn pb)) j).sc⟩ (touR T0) := by rw [hT0']; exact hT0
  clear hT0'
  clear hX' hdp hwp hpf hS0 hTg0 hs' hi' hb' htp htw hO hn
  obtain ⟨yk, ⟨ql, qd, qf⟩, ⟨rk, ro, rb, ⟨ak, an, ⟨al, ad, af⟩⟩, ⟨ek, en, ⟨el, ed, ef⟩⟩, ⟨gl, gd, gf⟩⟩, ⟨ck, cn, ⟨cl, cd, cf⟩⟩, yl⟩ := s
  obtain ⟨tpl, tpd, tpf⟩ := tp
  simp only at hS hTg hR
  obtain ⟨wv, hwv⟩ : ∃ b, b = (decide (rk = 5) || decide (rb = 2)) := ⟨_, rfl⟩
  rw [← hwv] at hR
  have w1 : decide (rk = 5) = true → leCell (.lit true) (.bool wv) := fun h => by rw [hwv, h]; rfl
  have w2 : decide (rk = 5) = false → leCell (.bool (decide (rb = 2))) (.bool wv) := fun h => by rw [hwv, h]; rfl
  obtain ⟨T1, h1⟩ : ∃ T, T = T0 ++ (if ia = true ∧ yk = 1 ∧ 4 ≤ rk then [GTouch.mk ⟨gl, gd, gf⟩ wv true] else []) := ⟨_, rfl⟩
  rw [← h1] at hR
  obtain ⟨T2, h2⟩ : ∃ T, T = T1 ++ (if tw = true then [GTouch.mk ⟨tpl, tpd, tpf⟩ true false] else []) := ⟨_, rfl⟩
  rw [← h2] at hR
  obtain ⟨T3, h3⟩ : ∃ T, T = T2 ++ (if ia = true ∧ yk = 3 then [GTouch.mk ⟨yl, false, 0⟩ true false] else []) := ⟨_, rfl⟩
  rw [← h3] at hR
  obtain ⟨T4, h4⟩ : ∃ T, T = T3 ++ (if ia = false ∧ jk' = 3 then [GTouch.mk ⟨0, false, 0⟩ false true] else []) := ⟨_, rfl⟩
  rw [← h4] at hR
  have e1a : ia = false → T1 = T0 := fun h => by rw [h1, if_neg (by simp [h]), List.append_nil]
  have e1b : decide (yk = 1) = false → T1 = T0 := fun h => by rw [h1, if_neg (fun g => of_decide_eq_false h g.2.1), List.append_nil]
  have e1c : rCm .geq rk 4 = false → T1 = T0 := fun h => by rw [h1, if_neg (fun g => of_decide_eq_false (show decide ((4 : Int) ≤ rk) = false from h) g.2.2), List.append_nil]
  have e1p : ia = true → decide (yk = 1) = true → rCm .geq rk 4 = true → T1 = T0 ++ [⟨⟨gl, gd, gf⟩, wv, true⟩] := fun h g k => by rw [h1, if_pos ⟨h, of_decide_eq_true g, of_decide_eq_true (show decide ((4 : Int) ≤ rk) = true from k)⟩]
  have e2a : tw = false → T2 = T1 := fun h => by rw [h2, if_neg (by simp [h]), List.append_nil]
  have e2p : tw = true → T2 = T1 ++ [⟨⟨tpl, tpd, tpf⟩, true, false⟩] := fun h => by rw [h2, if_pos h]
  have e3a : ia = false → T3 = T2 := fun h => by rw [h3, if_neg (by simp [h]), List.append_nil]
  have e3b : decide (yk = 3) = false → T3 = T2 := fun h => by rw [h3, if_neg (fun g => of_decide_eq_false h g.2), List.append_nil]
  have e3p : ia = true → decide (yk = 3) = true → T3 = T2 ++ [⟨⟨yl, false, 0⟩, true, false⟩] := fun h g => by rw [h3, if_pos ⟨h, of_decide_eq_true g⟩]
  have e4a : ia = true → T4 = T3 := fun h => by rw [h4, if_neg (by simp [h]), List.append_nil]
  have e4b : decide (F.jk pb = 3) = false → T4 = T3 := fun h => by rw [h4, hjk, if_neg (fun g => of_decide_eq_false h g.2), List.append_nil]
  have e4p : ia = false → decide (F.jk pb = 3) = true → T4 = T3 ++ [⟨⟨0, false, 0⟩, false, true⟩] := fun h g => by rw [h4, hjk, if_pos ⟨h, of_decide_eq_true g⟩]
  clear h1 h2 h3 h4 hjk hwv
  obtain ⟨pa, un, lA, ln, lc, lk, lt, bA, bn, bc, sA, sn, sc, s, jA, jn, jc, ja, jk, jo, jf, jx, je, jd⟩ := F
  obtain ⟨hX, hl, hb, hs, hj⟩ := hF
  simp only at hl hb hs hj
  simp only at hin hn8 x1 x2 x3 hT0 hJ hd2 hP e4b e4p
  refine go_start (args := [.pt (.agg (GFun.dat ⟨pa, un, lA, ln, lc, lk, lt, bA, bn, bc, sA, sn, sc, s, jA, jn, jc, ja, jk, jo, jf, jx, je, jd⟩)), .pt (.one (.int .i64 (.ofNat n)))]) (c := (funX ⟨pa, un, lA, ln, lc, lk, lt, bA, bn, bc, sA, sn, sc, s, jA, jn, jc, ja, jk, jo, jf, jx, je, jd⟩)) Try.func23 rfl hX rfl rfl ?_
  obtain ⟨nd, hnd⟩ : ∃ f : Bool → Bool → Bool, f = and := ⟨_, rfl⟩
  obtain ⟨nt, hnt⟩ : ∃ f : Bool → Bool, f = not := ⟨_, rfl⟩
  obtain ⟨ar, har⟩ : ∃ f : BinOp → IntKind → Int → Int → Int, f = rAr := ⟨_, rfl⟩
  obtain ⟨cm, hcm⟩ : ∃ f : BinOp → Int → Int → Bool, f = rCm := ⟨_, rfl⟩
  obtain ⟨mx, hmx⟩ : ∃ f : Int → Int → Int, f = rMx := ⟨_, rfl⟩
  obtain ⟨mn, hmn⟩ : ∃ f : Int → Int → Int, f = rMn := ⟨_, rfl⟩
  have ar01 : ar .add .i64 0 1 = 1 := by rw [har]; decide
  have ar12 : ar .add .i64 1 1 = 2 := by rw [har]; decide
  obtain ⟨zpl, hzpl⟩ : ∃ f : Nat → Nat → Nat, f = fun x y => x + y := ⟨_, rfl⟩
  obtain ⟨zjn, hzjn⟩ : ∃ f : Nat → (Nat → List SC) → (Nat → List SC) → Nat → List SC, f = rJn := ⟨_, rfl⟩
  obtain ⟨zup, hzup⟩ : ∃ f : (Nat → List SC) → Nat → Nat → List SC → Nat → List SC, f = rUp := ⟨_, rfl⟩
  obtain ⟨zmi, hzmi⟩ : ∃ f : Nat → Nat → Nat, f = fun x y => x - y := ⟨_, rfl⟩
  obtain ⟨zdp, hzdp⟩ : ∃ f : Nat → (Nat → List SC) → Nat → List SC, f = rDp := ⟨_, rfl⟩
  have hT := T0_ok hnd hnt har hcm hmx hmn hzpl hzjn hzup hzmi hzdp
  rw [← hcm] at e1c e1p
  have hk2 : ∀ i c, (ja pb i).k = 2 → leCell c (.bool (dp (ja pb i).p)) → RowLe ⟨zpl (ln_ (X i)) 1, 5, zjn (ln_ (X i)) (fun j => (tc (X i) j).sc) (fun j => cutL [.int .i64 (ja pb i).p.l, .bool (ja pb i).p.d, .int .u8 (ja pb i).p.f, .lit false, c] (0 + j * 5) 5)⟩ ⟨ln_ (X (i + 1)), 5, fun j => (tc (X (i + 1)) j).sc⟩ := fun i c h hc => by
    rw [← hRX]
    refine touLe_app hzpl hzjn (L := X i) (by rw [hRX]; exact RowLe.rfl' _) (x2 i h) ?_
    exact leDeep hc (leLit _)
  have hk3 : ∀ i, (ja pb i).k = 3 → RowLe ⟨zpl (ln_ (X i)) 1, 5, zjn (ln_ (X i)) (fun j => (tc (X i) j).sc) (fun j => cutL [.int .i64 (ja pb i).p.l, .bool (ja pb i).p.d, .int .u8 (ja pb i).p.f, .lit true, .lit true] (0 + j * 5) 5)⟩ ⟨ln_ (X (i + 1)), 5, fun j => (tc (X (i + 1)) j).sc⟩ := fun i h => by
    rw [← hRX]
    refine touLe_app hzpl hzjn (L := X i) (by rw [hRX]; exact RowLe.rfl' _) (x3 i h) ?_
    exact leDeep (leLit _) (leLit _)
  have hlo : ∀ i, i < (jn pb) → (ja pb i).k = 2 → 0 ≤ (ja pb i).p.l ∧ (ja pb i).p.l < ln := fun i hi h => by
    rcases hin i hi with g' | g'
    · omega
    · exact g'.2
  refine go_fam 4 rfl rfl trivial (funX_qb _) ?_
  repeat' (first
    | ((with_reducible apply go_ev hT 400); (· (cbv; try rfl)); (fail_if_success with_reducible apply stuck_id))
    | ((with_reducible refine go_brt ?_ ?_); (· first | rfl | assumption | (rw [hcm]; decide)))
    | ((with_reducible refine go_brf ?_ ?_); (· first | rfl | assumption | (rw [hcm]; decide)))
    | ((with_reducible refine go_brnt hnt ?_ ?_); (· first | rfl | assumption))
    | ((with_reducible refine go_brnf hnt ?_ ?_); (· first | rfl | assumption))
    | (with_reducible refine go_brn hnt (fun h => ?_) (fun h => ?_))
    | (with_reducible refine go_brl hcm (fun hlt => ?_) (fun hge => ?_))
    | (with_reducible refine go_br (fun h => ?_) (fun h => ?_))
    | ((with_reducible apply go_ret_val hT); (· (cbv; try rfl)); (· (cbv; try rfl)))
    | ((with_reducible apply go_fin_val hT); (· (cbv; try rfl)); (· (cbv; try rfl)))
    | ((with_reducible apply go_drawE); (· kernel_rfl))
    | (with_reducible refine go_fork ?_)
    | (with_reducible refine fork_cons ?_ ?_)
    | (with_reducible exact fork_nil)
    | ((with_reducible refine go_need ?_ ?_ ?_); (· first | omega | (simp only [Int.ofNat_eq_natCast]; omega)); (· first | omega | (simp only [Int.ofNat_eq_natCast]; omega)))
    | ((with_reducible refine go_ob ?_ ?_); (· first | trivial | (refine ⟨trivial, ?_⟩; omega) | (rw [hzpl]; refine ⟨trivial, ?_⟩; show _ + _ ≤ 1073741824; omega) | (rw [hzpl]; show _ + _ ≤ 1073741824; omega)))
    | ((with_reducible apply go_ret_rows hT); (· (cbv; try rfl)); (· (cbv; try rfl)); (· (cbv; (try simp only [true_and, and_true]); (try ((repeat' apply And.intro) <;> (first | trivial | rfl | decide  | ((refine rowLe_of (by rw [x0, hln]; rfl) (fun j hj => absurd hj (Nat.not_lt_zero _))))))))); (· (cbv; (try simp only [true_and, and_true]); (try ((repeat' apply And.intro) <;> (first | trivial | rfl | exact RowLe.rfl' _  | ((refine rowLe_of (by rw [x0, hln]; rfl) (fun j hj => absurd hj (Nat.not_lt_zero _))))))))); (· rfl))
    | ((with_reducible apply go_fin_rows hT); (· (cbv; try rfl)); (· (cbv; try rfl)); (· (cbv; (try simp only [true_and, and_true]); (try ((repeat' apply And.intro) <;> (first | trivial | rfl | decide  | ((refine rowLe_of (by rw [x0, hln]; rfl) (fun j hj => absurd hj (Nat.not_lt_zero _))))))))); (· (cbv; (try simp only [true_and, and_true]); (try ((repeat' apply And.intro) <;> (first | trivial | rfl | exact RowLe.rfl' _  | ((refine rowLe_of (by rw [x0, hln]; rfl) (fun j hj => absurd hj (Nat.not_lt_zero _))))))))); (· rfl))
    | ((with_reducible apply go_callR (f := 46) (hf := Try.call46)); (· intro S; cbv; try rfl); (· intro wc S hbc hxc hrc; exact hOps wc hbc); (· rfl))
    | ((with_reducible apply go_call (f := 49) (hf := Try.call49)); (· (cbv; try rfl)); (· intro wc hbc hxc; exact hS wc hbc))
    | ((with_reducible apply go_callq (f := 49) (hf := Try.call49)); (· (cbv; try rfl)); (· intro wc hbc hxc; exact hS wc hbc))
    | ((with_reducible apply go_row 5 5); (· (cbv; try rfl)))
    | ((with_reducible refine go_loopk (σ := {i : Nat // i ≤ (jn pb)}) [8, 16, 17, 18, 19, 20, 21, 22, 23, 24, 25, 26, 27, 28, 29, 30, 31, 32, 33, 34, 35, 36, 37, 38, 39, 40, 41, 42, 43, 44, 45, 46, 47, 48, 49, 50, 51, 52, 53, 54, 55, 56, 57, 58, 59, 60, 61] (fun x => [(7, .pt (.one (.int .i64 (.ofNat x.1))))]) (fun x => []) (fun x => [(0, ⟨ln_ (X x.1), 5, fun j => (tc (X x.1) j).sc⟩)]) (fun x => (jn pb) - x.1) ⟨0, by omega⟩ ?_ ?_ ?_ ?_); (· (refine le_mk ?_ ?_ ?_ ?_ <;> (cbv; (try simp only [true_and, and_true]); (try ((repeat' apply And.intro) <;> (first | trivial | rfl | exact RowLe.rfl' _ | (rw [wrap_nat har _ (by omega)]) | ((refine rowLe_of (by rw [x0, hln]; rfl) (fun j hj => absurd hj (Nat.not_lt_zero _)))))))))); (· (cbv; try rfl)); (· simp); (rintro ⟨i, hi⟩ mm hmm; refine halt ?_))
    | (fail)
    )
  all_goals (with_reducible refine unhalt ?_)
  have hnn8 : ∀ j, j ≤ (jn pb) → j ≤ 8 := fun j hj => by omega
  have hi8 := hnn8 i hi
  by_cases hlt : i < (jn pb)
  case neg =>
    have haN : i = (jn pb) := by omega
    have q0 : cm .lss (.ofNat i) (.ofNat (jn pb)) = false := by rw [hcm]; exact decide_eq_false (fun h => hlt (Int.ofNat_lt.1 h))
    repeat' (first
      | ((with_reducible apply go_ev hT 400); (· (cbv; try rfl)); (fail_if_success with_reducible apply stuck_id))
      | ((with_reducible refine go_brt ?_ ?_); (· first | rfl | assumption | (rw [hcm]; decide)))
      | ((with_reducible refine go_brf ?_ ?_); (· first | rfl | assumption | (rw [hcm]; decide)))
      | ((with_reducible refine go_brnt hnt ?_ ?_); (· first | rfl | assumption))
      | ((with_reducible refine go_brnf hnt ?_ ?_); (· first | rfl | assumption))
      | (with_reducible refine go_brn hnt (fun h => ?_) (fun h => ?_))
      | (with_reducible refine go_brl hcm (fun hlt => ?_) (fun hge => ?_))
      | (with_reducible refine go_br (fun h => ?_) (fun h => ?_))
      | ((with_reducible apply go_ret_val hT); (· (cbv; try rfl)); (· (cbv; try rfl)))
      | ((with_reducible apply go_fin_val hT); (· (cbv; try rfl)); (· (cbv; try rfl)))
      | ((with_reducible apply go_drawE); (· kernel_rfl))
      | (with_reducible refine go_fork ?_)
      | (with_reducible refine fork_cons ?_ ?_)
      | (with_reducible exact fork_nil)
      | ((with_reducible refine go_need ?_ ?_ ?_); (· first | omega | (simp only [Int.ofNat_eq_natCast]; omega)); (· first | omega | (simp only [Int.ofNat_eq_natCast]; omega)))
      | ((with_reducible refine go_ob ?_ ?_); (· first | trivial | (refine ⟨trivial, ?_⟩; omega) | (rw [hzpl]; refine ⟨trivial, ?_⟩; show _ + _ ≤ 1073741824; omega) | (rw [hzpl]; show _ + _ ≤ 1073741824; omega) | ((rw [hzpl]; exact Nat.le_trans (Nat.add_le_add_right (xl2 i) 1) (show i + 1 ≤ 1073741824 from by omega))) | ((rw [hzpl]; exact Nat.le_trans (Nat.add_le_add_right (xl2 i) 2) (show i + 2 ≤ 1073741824 from by omega))) | ((rw [hzpl]; exact Nat.le_trans (Nat.add_le_add_right (xl2 i) 3) (show i + 3 ≤ 1073741824 from by omega))) | ((rw [hzpl]; exact Nat.le_trans (Nat.add_le_add_right (xl2 i) 4) (show i + 4 ≤ 1073741824 from by omega)))))
      | ((with_reducible apply go_ret_rows hT); (· (cbv; try rfl)); (· (cbv; try rfl)); (· (cbv; (try simp only [true_and, and_true]); (try ((repeat' apply And.intro) <;> (first | trivial | rfl | decide  | ((rw [hR]; (first | rw [e4a (by assumption)] | rw [e4b (by assumption)] | rw [e4p (by assumption) (by assumption)]); (try refine touLe_app hzpl hzjn ?_ rfl (leDeepG (by first | exact leBoo _ | exact leLit _) (by first | exact leLit _ | exact leBoo _) (by first | exact leLit _ | exact leBoo _ | exact w1 (by assumption) | exact w2 (by assumption)))); (first | rw [e3a (by assumption)] | rw [e3b (by assumption)] | rw [e3p (by assumption) (by assumption)]); (try refine touLe_app hzpl hzjn ?_ rfl (leDeepG (by first | exact leBoo _ | exact leLit _) (by first | exact leLit _ | exact leBoo _) (by first | exact leLit _ | exact leBoo _ | exact w1 (by assumption) | exact w2 (by assumption)))); (first | rw [e2a (by assumption)] | rw [e2p (by assumption)]); (try refine touLe_app hzpl hzjn ?_ rfl (leDeepG (by first | exact leBoo _ | exact leLit _) (by first | exact leLit _ | exact leBoo _) (by first | exact leLit _ | exact leBoo _ | exact w1 (by assumption) | exact w2 (by assumption)))); (first | rw [e1a (by assumption)] | rw [e1b (by assumption)] | rw [e1c (by assumption)] | rw [e1p (by assumption) (by assumption) (by assumption)]); (try refine touLe_app hzpl hzjn ?_ rfl (leDeepG (by first | exact leBoo _ | exact leLit _) (by first | exact leLit _ | exact leBoo _) (by first | exact leLit _ | exact leBoo _ | exact w1 (by assumption) | exact w2 (by assumption)))); (have hT0' := hT0); (rw [← haN] at hT0'); exact hT0'))))))); (· (cbv; (try simp only [true_and, and_true]); (try ((repeat' apply And.intro) <;> (first | trivial | rfl | exact RowLe.rfl' _  | ((rw [hR]; (first | rw [e4a (by assumption)] | rw [e4b (by assumption)] | rw [e4p (by assumption) (by assumption)]); (try refine touLe_app hzpl hzjn ?_ rfl (leDeepG (by first | exact leBoo _ | exact leLit _) (by first | exact leLit _ | exact leBoo _) (by first | exact leLit _ | exact leBoo _ | exact w1 (by assumption) | exact w2 (by assumption)))); (first | rw [e3a (by assumption)] | rw [e3b (by assumption)] | rw [e3p (by assumption) (by assumption)]); (try refine touLe_app hzpl hzjn ?_ rfl (leDeepG (by first | exact leBoo _ | exact leLit _) (by first | exact leLit _ | exact leBoo _) (by first | exact leLit _ | exact leBoo _ | exact w1 (by assumption) | exact w2 (by assumption)))); (first | rw [e2a (by assumption)] | rw [e2p (by assumption)]); (try refine touLe_app hzpl hzjn ?_ rfl (leDeepG (by first | exact leBoo _ | exact leLit _) (by first | exact leLit _ | exact leBoo _) (by first | exact leLit _ | exact leBoo _ | exact w1 (by assumption) | exact w2 (by assumption)))); (first | rw [e1a (by assumption)] | rw [e1b (by assumption)] | rw [e1c (by assumption)] | rw [e1p (by assumption) (by assumption) (by assumption)]); (try refine touLe_app hzpl hzjn ?_ rfl (leDeepG (by first | exact leBoo _ | exact leLit _) (by first | exact leLit _ | exact leBoo _) (by first | exact leLit _ | exact leBoo _ | exact w1 (by assumption) | exact w2 (by assumption)))); (have hT0' := hT0); (rw [← haN] at hT0'); exact hT0'))))))); (· rfl))
      | ((with_reducible apply go_fin_rows hT); (· (cbv; try rfl)); (· (cbv; try rfl)); (· (cbv; (try simp only [true_and, and_true]); (try ((repeat' apply And.intro) <;> (first | trivial | rfl | decide  | ((rw [hR]; (first | rw [e4a (by assumption)] | rw [e4b (by assumption)] | rw [e4p (by assumption) (by assumption)]); (try refine touLe_app hzpl hzjn ?_ rfl (leDeepG (by first | exact leBoo _ | exact leLit _) (by first | exact leLit _ | exact leBoo _) (by first | exact leLit _ | exact leBoo _ | exact w1 (by assumption) | exact w2 (by assumption)))); (first | rw [e3a (by assumption)] | rw [e3b (by assumption)] | rw [e3p (by assumption) (by assumption)]); (try refine touLe_app hzpl hzjn ?_ rfl (leDeepG (by first | exact leBoo _ | exact leLit _) (by first | exact leLit _ | exact leBoo _) (by first | exact leLit _ | exact leBoo _ | exact w1 (by assumption) | exact w2 (by assumption)))); (first | rw [e2a (by assumption)] | rw [e2p (by assumption)]); (try refine touLe_app hzpl hzjn ?_ rfl (leDeepG (by first | exact leBoo _ | exact leLit _) (by first | exact leLit _ | exact leBoo _) (by first | exact leLit _ | exact leBoo _ | exact w1 (by assumption) | exact w2 (by assumption)))); (first | rw [e1a (by assumption)] | rw [e1b (by assumption)] | rw [e1c (by assumption)] | rw [e1p (by assumption) (by assumption) (by assumption)]); (try refine touLe_app hzpl hzjn ?_ rfl (leDeepG (by first | exact leBoo _ | exact leLit _) (by first | exact leLit _ | exact leBoo _) (by first | exact leLit _ | exact leBoo _ | exact w1 (by assumption) | exact w2 (by assumption)))); (have hT0' := hT0); (rw [← haN] at hT0'); exact hT0'))))))); (· (cbv; (try simp only [true_and, and_true]); (try ((repeat' apply And.intro) <;> (first | trivial | rfl | exact RowLe.rfl' _  | ((rw [hR]; (first | rw [e4a (by assumption)] | rw [e4b (by assumption)] | rw [e4p (by assumption) (by assumption)]); (try refine touLe_app hzpl hzjn ?_ rfl (leDeepG (by first | exact leBoo _ | exact leLit _) (by first | exact leLit _ | exact leBoo _) (by first | exact leLit _ | exact leBoo _ | exact w1 (by assumption) | exact w2 (by assumption)))); (first | rw [e3a (by assumption)] | rw [e3b (by assumption)] | rw [e3p (by assumption) (by assumption)]); (try refine touLe_app hzpl hzjn ?_ rfl (leDeepG (by first | exact leBoo _ | exact leLit _) (by first | exact leLit _ | exact leBoo _) (by first | exact leLit _ | exact leBoo _ | exact w1 (by assumption) | exact w2 (by assumption)))); (first | rw [e2a (by assumption)] | rw [e2p (by assumption)]); (try refine touLe_app hzpl hzjn ?_ rfl (leDeepG (by first | exact leBoo _ | exact leLit _) (by first | exact leLit _ | exact leBoo _) (by first | exact leLit _ | exact leBoo _ | exact w1 (by assumption) | exact w2 (by assumption)))); (first | rw [e1a (by assumption)] | rw [e1b (by assumption)] | rw [e1c (by assumption)] | rw [e1p (by assumption) (by assumption) (by assumption)]); (try refine touLe_app hzpl hzjn ?_ rfl (leDeepG (by first | exact leBoo _ | exact leLit _) (by first | exact leLit _ | exact leBoo _) (by first | exact leLit _ | exact leBoo _ | exact w1 (by assumption) | exact w2 (by assumption)))); (have hT0' := hT0); (rw [← haN] at hT0'); exact hT0'))))))); (· rfl))
      | ((with_reducible apply go_ret_rowsC hT); (· (cbv; try rfl)); (· (cbv; try rfl)); (· (cbv; (try simp only [true_and, and_true]); (try ((repeat' apply And.intro) <;> (first | trivial | rfl | decide  | ((rw [hR]; (first | rw [e4a (by assumption)] | rw [e4b (by assumption)] | rw [e4p (by assumption) (by assumption)]); (try refine touLe_app hzpl hzjn ?_ rfl (leDeepG (by first | exact leBoo _ | exact leLit _) (by first | exact leLit _ | exact leBoo _) (by first | exact leLit _ | exact leBoo _ | exact w1 (by assumption) | exact w2 (by assumption)))); (first | rw [e3a (by assumption)] | rw [e3b (by assumption)] | rw [e3p (by assumption) (by assumption)]); (try refine touLe_app hzpl hzjn ?_ rfl (leDeepG (by first | exact leBoo _ | exact leLit _) (by first | exact leLit _ | exact leBoo _) (by first | exact leLit _ | exact leBoo _ | exact w1 (by assumption) | exact w2 (by assumption)))); (first | rw [e2a (by assumption)] | rw [e2p (by assumption)]); (try refine touLe_app hzpl hzjn ?_ rfl (leDeepG (by first | exact leBoo _ | exact leLit _) (by first | exact leLit _ | exact leBoo _) (by first | exact leLit _ | exact leBoo _ | exact w1 (by assumption) | exact w2 (by assumption)))); (first | rw [e1a (by assumption)] | rw [e1b (by assumption)] | rw [e1c (by assumption)] | rw [e1p (by assumption) (by assumption) (by assumption)]); (try refine touLe_app hzpl hzjn ?_ rfl (leDeepG (by first | exact leBoo _ | exact leLit _) (by first | exact leLit _ | exact leBoo _) (by first | exact leLit _ | exact leBoo _ | exact w1 (by assumption) | exact w2 (by assumption)))); (have hT0' := hT0); (rw [← haN] at hT0'); exact hT0'))))))); (· (cbv; (try simp only [true_and, and_true]); (try ((repeat' apply And.intro) <;> (first | trivial | rfl | exact RowLe.rfl' _  | ((rw [hR]; (first | rw [e4a (by assumption)] | rw [e4b (by assumption)] | rw [e4p (by assumption) (by assumption)]); (try refine touLe_app hzpl hzjn ?_ rfl (leDeepG (by first | exact leBoo _ | exact leLit _) (by first | exact leLit _ | exact leBoo _) (by first | exact leLit _ | exact leBoo _ | exact w1 (by assumption) | exact w2 (by assumption)))); (first | rw [e3a (by assumption)] | rw [e3b (by assumption)] | rw [e3p (by assumption) (by assumption)]); (try refine touLe_app hzpl hzjn ?_ rfl (leDeepG (by first | exact leBoo _ | exact leLit _) (by first | exact leLit _ | exact leBoo _) (by first | exact leLit _ | exact leBoo _ | exact w1 (by assumption) | exact w2 (by assumption)))); (first | rw [e2a (by assumption)] | rw [e2p (by assumption)]); (try refine touLe_app hzpl hzjn ?_ rfl (leDeepG (by first | exact leBoo _ | exact leLit _) (by first | exact leLit _ | exact leBoo _) (by first | exact leLit _ | exact leBoo _ | exact w1 (by assumption) | exact w2 (by assumption)))); (first | rw [e1a (by assumption)] | rw [e1b (by assumption)] | rw [e1c (by assumption)] | rw [e1p (by assumption) (by assumption) (by assumption)]); (try refine touLe_app hzpl hzjn ?_ rfl (leDeepG (by first | exact leBoo _ | exact leLit _) (by first | exact leLit _ | exact leBoo _) (by first | exact leLit _ | exact leBoo _ | exact w1 (by assumption) | exact w2 (by assumption)))); (have hT0' := hT0); (rw [← haN] at hT0'); exact hT0'))))))); (· rfl); (· first | assumption | exact ⟨fun _ _ => rfl, trivial⟩); (· rfl))
      | ((with_reducible apply go_fin_rowsC hT); (· (cbv; try rfl)); (· (cbv; try rfl)); (· (cbv; (try simp only [true_and, and_true]); (try ((repeat' apply And.intro) <;> (first | trivial | rfl | decide  | ((rw [hR]; (first | rw [e4a (by assumption)] | rw [e4b (by assumption)] | rw [e4p (by assumption) (by assumption)]); (try refine touLe_app hzpl hzjn ?_ rfl (leDeepG (by first | exact leBoo _ | exact leLit _) (by first | exact leLit _ | exact leBoo _) (by first | exact leLit _ | exact leBoo _ | exact w1 (by assumption) | exact w2 (by assumption)))); (first | rw [e3a (by assumption)] | rw [e3b (by assumption)] | rw [e3p (by assumption) (by assumption)]); (try refine touLe_app hzpl hzjn ?_ rfl (leDeepG (by first | exact leBoo _ | exact leLit _) (by first | exact leLit _ | exact leBoo _) (by first | exact leLit _ | exact leBoo _ | exact w1 (by assumption) | exact w2 (by assumption)))); (first | rw [e2a (by assumption)] | rw [e2p (by assumption)]); (try refine touLe_app hzpl hzjn ?_ rfl (leDeepG (by first | exact leBoo _ | exact leLit _) (by first | exact leLit _ | exact leBoo _) (by first | exact leLit _ | exact leBoo _ | exact w1 (by assumption) | exact w2 (by assumption)))); (first | rw [e1a (by assumption)] | rw [e1b (by assumption)] | rw [e1c (by assumption)] | rw [e1p (by assumption) (by assumption) (by assumption)]); (try refine touLe_app hzpl hzjn ?_ rfl (leDeepG (by first | exact leBoo _ | exact leLit _) (by first | exact leLit _ | exact leBoo _) (by first | exact leLit _ | exact leBoo _ | exact w1 (by assumption) | exact w2 (by assumption)))); (have hT0' := hT0); (rw [← haN] at hT0'); exact hT0'))))))); (· (cbv; (try simp only [true_and, and_true]); (try ((repeat' apply And.intro) <;> (first | trivial | rfl | exact RowLe.rfl' _  | ((rw [hR]; (first | rw [e4a (by assumption)] | rw [e4b (by assumption)] | rw [e4p (by assumption) (by assumption)]); (try refine touLe_app hzpl hzjn ?_ rfl (leDeepG (by first | exact leBoo _ | exact leLit _) (by first | exact leLit _ | exact leBoo _) (by first | exact leLit _ | exact leBoo _ | exact w1 (by assumption) | exact w2 (by assumption)))); (first | rw [e3a (by assumption)] | rw [e3b (by assumption)] | rw [e3p (by assumption) (by assumption)]); (try refine touLe_app hzpl hzjn ?_ rfl (leDeepG (by first | exact leBoo _ | exact leLit _) (by first | exact leLit _ | exact leBoo _) (by first | exact leLit _ | exact leBoo _ | exact w1 (by assumption) | exact w2 (by assumption)))); (first | rw [e2a (by assumption)] | rw [e2p (by assumption)]); (try refine touLe_app hzpl hzjn ?_ rfl (leDeepG (by first | exact leBoo _ | exact leLit _) (by first | exact leLit _ | exact leBoo _) (by first | exact leLit _ | exact leBoo _ | exact w1 (by assumption) | exact w2 (by assumption)))); (first | rw [e1a (by assumption)] | rw [e1b (by assumption)] | rw [e1c (by assumption)] | rw [e1p (by assumption) (by assumption) (by assumption)]); (try refine touLe_app hzpl hzjn ?_ rfl (leDeepG (by first | exact leBoo _ | exact leLit _) (by first | exact leLit _ | exact leBoo _) (by first | exact leLit _ | exact leBoo _ | exact w1 (by assumption) | exact w2 (by assumption)))); (have hT0' := hT0); (rw [← haN] at hT0'); exact hT0'))))))); (· rfl); (· first | assumption | exact ⟨fun _ _ => rfl, trivial⟩); (· rfl))
      | ((with_reducible apply go_call (f := 49) (hf := Try.call49)); (· (cbv; try rfl)); (· intro wc hbc hxc; exact hS wc hbc))
      | ((with_reducible apply go_callq (f := 49) (hf := Try.call49)); (· (cbv; try rfl)); (· intro wc hbc hxc; exact hS wc hbc))
      | ((with_reducible apply go_call (f := 50) (hf := Try.call50)); (· (cbv; try rfl)); (· intro wc hbc hxc; exact hTg wc hbc))
      | ((with_reducible apply go_callq (f := 50) (hf := Try.call50)); (· (cbv; try rfl)); (· intro wc hbc hxc; exact hTg wc hbc))
      | ((with_reducible apply go_call (f := 51) (hf := Try.call51)); (· (cbv; try rfl)); (· intro wc hbc hxc; exact hJ wc hbc))
      | ((with_reducible apply go_callq (f := 51) (hf := Try.call51)); (· (cbv; try rfl)); (· intro wc hbc hxc; exact hJ wc hbc))
      | (fail)
      )
    all_goals trace_state
  have q0 : cm .lss (.ofNat i) (.ofNat (jn pb)) = true := by rw [hcm]; exact decide_eq_true (Int.ofNat_lt.2 hlt)
  rcases hin i hlt with hki | ⟨hki | hki, hl0, hl1⟩
  · have q2 : decide ((ja pb i).k = 2) = false := decide_eq_false (by omega)
    have q3 : decide ((ja pb i).k = 3) = false := decide_eq_false (by omega)
    repeat' (first
      | ((with_reducible apply go_ev hT 400); (· (cbv; try rfl)); (fail_if_success with_reducible apply stuck_id))
      | ((with_reducible refine go_brt ?_ ?_); (· first | rfl | assumption | (rw [hcm]; decide)))
      | ((with_reducible refine go_brf ?_ ?_); (· first | rfl | assumption | (rw [hcm]; decide)))
      | ((with_reducible refine go_brnt hnt ?_ ?_); (· first | rfl | assumption))
      | ((with_reducible refine go_brnf hnt ?_ ?_); (· first | rfl | assumption))
      | (with_reducible refine go_brn hnt (fun h => ?_) (fun h => ?_))
      | (with_reducible refine go_brl hcm (fun hlt => ?_) (fun hge => ?_))
      | (with_reducible refine go_br (fun h => ?_) (fun h => ?_))
      | ((with_reducible apply go_ret_val hT); (· (cbv; try rfl)); (· (cbv; try rfl)))
      | ((with_reducible apply go_fin_val hT); (· (cbv; try rfl)); (· (cbv; try rfl)))
      | ((with_reducible apply go_drawE); (· kernel_rfl))
      | (with_reducible refine go_fork ?_)
      | (with_reducible refine fork_cons ?_ ?_)
      | (with_reducible exact fork_nil)
      | ((with_reducible refine go_need ?_ ?_ ?_); (· first | omega | (simp only [Int.ofNat_eq_natCast]; omega)); (· first | omega | (simp only [Int.ofNat_eq_natCast]; omega)))
      | ((with_reducible refine go_ob ?_ ?_); (· first | trivial | (refine ⟨trivial, ?_⟩; omega) | (rw [hzpl]; refine ⟨trivial, ?_⟩; show _ + _ ≤ 1073741824; omega) | (rw [hzpl]; show _ + _ ≤ 1073741824; omega)))
      | ((with_reducible apply go_ret_rows hT); (· (cbv; try rfl)); (· (cbv; try rfl)); (· (cbv; (try simp only [true_and, and_true]); (try ((repeat' apply And.intro) <;> (first | trivial | rfl | decide  | ((exact hk3 i hki)) | ((rw [x1 i (by omega) (by omega)]; exact RowLe.rfl' _)) | ((rw [wrap_nat har _ (by omega)]))))))); (· (cbv; (try simp only [true_and, and_true]); (try ((repeat' apply And.intro) <;> (first | trivial | rfl | exact RowLe.rfl' _  | ((exact hk3 i hki)) | ((rw [x1 i (by omega) (by omega)]; exact RowLe.rfl' _)) | ((rw [wrap_nat har _ (by omega)]))))))); (· rfl))
      | ((with_reducible apply go_fin_rows hT); (· (cbv; try rfl)); (· (cbv; try rfl)); (· (cbv; (try simp only [true_and, and_true]); (try ((repeat' apply And.intro) <;> (first | trivial | rfl | decide  | ((exact hk3 i hki)) | ((rw [x1 i (by omega) (by omega)]; exact RowLe.rfl' _)) | ((rw [wrap_nat har _ (by omega)]))))))); (· (cbv; (try simp only [true_and, and_true]); (try ((repeat' apply And.intro) <;> (first | trivial | rfl | exact RowLe.rfl' _  | ((exact hk3 i hki)) | ((rw [x1 i (by omega) (by omega)]; exact RowLe.rfl' _)) | ((rw [wrap_nat har _ (by omega)]))))))); (· rfl))
      | (((with_reducible apply go_need); (· exact Int.natCast_nonneg _); (· exact Int.ofNat_lt.2 (by assumption))))
      | ((with_reducible refine go_stop (⟨i + 1, by omega⟩ : {i : Nat // i ≤ (jn pb)}) ?_ ?_ ?_ ?_); (· exact Nat.lt_of_lt_of_eq (show (jn pb) - (i + 1) < (jn pb) - i from by omega) (Eq.symm (by assumption))); (· (refine le_mk ?_ ?_ ?_ ?_ <;> (cbv; (try simp only [true_and, and_true]); (try ((repeat' apply And.intro) <;> (first | trivial | rfl | exact RowLe.rfl' _ | (rw [wrap_nat har _ (by omega)]) | ((exact hk3 i hki)) | ((rw [x1 i (by omega) (by omega)]; exact RowLe.rfl' _)) | ((rw [wrap_nat har _ (by omega)])))))))); (· (cbv; try rfl)); (· simp))
      | (fail)
      )
    all_goals trace_state
  · have q2 : decide ((ja pb i).k = 2) = true := decide_eq_true hki
    have q3 : decide ((ja pb i).k = 3) = false := decide_eq_false (by omega)
    repeat' (first
      | ((with_reducible apply go_ev hT 400); (· (cbv; try rfl)); (fail_if_success with_reducible apply stuck_id))
      | ((with_reducible refine go_brt ?_ ?_); (· first | rfl | assumption | (rw [hcm]; decide)))
      | ((with_reducible refine go_brf ?_ ?_); (· first | rfl | assumption | (rw [hcm]; decide)))
      | ((with_reducible refine go_brnt hnt ?_ ?_); (· first | rfl | assumption))
      | ((with_reducible refine go_brnf hnt ?_ ?_); (· first | rfl | assumption))
      | (with_reducible refine go_brn hnt (fun h => ?_) (fun h => ?_))
      | (with_reducible refine go_brl hcm (fun hlt => ?_) (fun hge => ?_))
      | (with_reducible refine go_br (fun h => ?_) (fun h => ?_))
      | ((with_reducible apply go_ret_val hT); (· (cbv; try rfl)); (· (cbv; try rfl)))
      | ((with_reducible apply go_fin_val hT); (· (cbv; try rfl)); (· (cbv; try rfl)))
      | (with_reducible refine go_fork ?_)
      | (with_reducible refine fork_cons ?_ ?_)
      | (with_reducible exact fork_nil)
      | ((with_reducible refine go_need ?_ ?_ ?_); (· first | omega | (simp only [Int.ofNat_eq_natCast]; omega)); (· first | omega | (simp only [Int.ofNat_eq_natCast]; omega)))
      | ((with_reducible refine go_ob ?_ ?_); (· first | trivial | (refine ⟨trivial, ?_⟩; omega) | (rw [hzpl]; refine ⟨trivial, ?_⟩; show _ + _ ≤ 1073741824; omega) | (rw [hzpl]; show _ + _ ≤ 1073741824; omega) | ((rw [hzpl]; exact Nat.le_trans (Nat.add_le_add_right (xl2 i) 1) (show i + 1 ≤ 1073741824 from by omega))) | ((rw [hzpl]; exact Nat.le_trans (Nat.add_le_add_right (xl2 i) 2) (show i + 2 ≤ 1073741824 from by omega))) | ((rw [hzpl]; exact Nat.le_trans (Nat.add_le_add_right (xl2 i) 3) (show i + 3 ≤ 1073741824 from by omega))) | ((rw [hzpl]; exact Nat.le_trans (Nat.add_le_add_right (xl2 i) 4) (show i + 4 ≤ 1073741824 from by omega)))))
      | ((with_reducible apply go_ret_rows hT); (· (cbv; try rfl)); (· (cbv; try rfl)); (· (cbv; (try simp only [true_and, and_true]); (try ((repeat' apply And.intro) <;> (first | trivial | rfl | decide ))))); (· (cbv; (try simp only [true_and, and_true]); (try ((repeat' apply And.intro) <;> (first | trivial | rfl | exact RowLe.rfl' _ ))))); (· rfl))
      | ((with_reducible apply go_fin_rows hT); (· (cbv; try rfl)); (· (cbv; try rfl)); (· (cbv; (try simp only [true_and, and_true]); (try ((repeat' apply And.intro) <;> (first | trivial | rfl | decide ))))); (· (cbv; (try simp only [true_and, and_true]); (try ((repeat' apply And.intro) <;> (first | trivial | rfl | exact RowLe.rfl' _ ))))); (· rfl))
      | ((with_reducible apply go_call (f := 47) (hf := Try.call47)); (· (cbv; try rfl)); (· intro wc hbc hxc; exact hW _ _ _ wc))
      | ((with_reducible apply go_callq (f := 47) (hf := Try.call47)); (· (cbv; try rfl)); (· intro wc hbc hxc; exact hW _ _ _ wc))
      | ((with_reducible apply go_call (f := 48) (hf := Try.call48)); (· (cbv; try rfl)); (· intro wc hbc hxc; exact hP _ wc))
      | ((with_reducible apply go_callq (f := 48) (hf := Try.call48)); (· (cbv; try rfl)); (· intro wc hbc hxc; exact hP _ wc))
      | (((with_reducible refine go_drawE (by kernel_rfl) ?_); (refine go_boxT 8 4 rfl rfl rfl rfl rfl ⟨fun _ _ => rfl, trivial⟩ rfl (fam_qb (funX_qb _)) fam_n (fun a1 _ => ?_))))
      | (((with_reducible apply go_need); (· exact Int.natCast_nonneg _); (· exact Int.ofNat_lt.2 (by assumption))))
      | (((with_reducible apply go_need); (· exact hl0); (· exact hl1)))
      | (((with_reducible refine go_stopU 4 (⟨i + 1, by omega⟩ : {i : Nat // i ≤ (jn pb)}) (fun q i h => chiG_lt h) fam_n (box_qb0 (fam_qb (funX_qb _))) ?_ ?_ ?_ ?_ ?_ ?_); (· exact Nat.lt_of_lt_of_eq (show (jn pb) - (i + 1) < (jn pb) - i from by omega) (Eq.symm (by assumption))); (· (refine le_mk ?_ ?_ ?_ ?_ <;> (cbv; (try simp only [true_and, and_true]); (try ((repeat' apply And.intro) <;> (first | trivial | rfl | exact RowLe.rfl' _ | (rw [wrap_nat har _ (by omega)]) | (exact hk3 i hki) | (refine hk2 i _ hki ?_; first | exact hd1 _ (by assumption) | (rw [hnt]; exact hd2 _ (by assumption))) | (rw [x1 i (by omega) (by omega)]; exact RowLe.rfl' _))))))); (· (cbv; try rfl)); (· simp); (· (cbv; try rfl)); (· (cbv; exact ⟨fun _ _ => rfl, trivial⟩))))
      | (fail)
      )
    all_goals trace_state
  · have q2 : decide ((ja pb i).k = 2) = false := decide_eq_false (by omega)
    have q3 : decide ((ja pb i).k = 3) = true := decide_eq_true hki
    repeat' (first
      | ((with_reducible apply go_ev hT 400); (· (cbv; try rfl)); (fail_if_success with_reducible apply stuck_id))
      | ((with_reducible refine go_brt ?_ ?_); (· first | rfl | assumption | (rw [hcm]; decide)))
      | ((with_reducible refine go_brf ?_ ?_); (· first | rfl | assumption | (rw [hcm]; decide)))
      | ((with_reducible refine go_brnt hnt ?_ ?_); (· first | rfl | assumption))
      | ((with_reducible refine go_brnf hnt ?_ ?_); (· first | rfl | assumption))
      | (with_reducible refine go_brn hnt (fun h => ?_) (fun h => ?_))
      | (with_reducible refine go_brl hcm (fun hlt => ?_) (fun hge => ?_))
      | (with_reducible refine go_br (fun h => ?_) (fun h => ?_))
      | ((with_reducible apply go_ret_val hT); (· (cbv; try rfl)); (· (cbv; try rfl)))
      | ((with_reducible apply go_fin_val hT); (· (cbv; try rfl)); (· (cbv; try rfl)))
      | ((with_reducible apply go_drawE); (· kernel_rfl))
      | (with_reducible refine go_fork ?_)
      | (with_reducible refine fork_cons ?_ ?_)
      | (with_reducible exact fork_nil)
      | ((with_reducible refine go_need ?_ ?_ ?_); (· first | omega | (simp only [Int.ofNat_eq_natCast]; omega)); (· first | omega | (simp only [Int.ofNat_eq_natCast]; omega)))
      | ((with_reducible refine go_ob ?_ ?_); (· first | trivial | (refine ⟨trivial, ?_⟩; omega) | (rw [hzpl]; refine ⟨trivial, ?_⟩; show _ + _ ≤ 1073741824; omega) | (rw [hzpl]; show _ + _ ≤ 1073741824; omega) | ((rw [hzpl]; exact Nat.le_trans (Nat.add_le_add_right (xl2 i) 1) (show i + 1 ≤ 1073741824 from by omega))) | ((rw [hzpl]; exact Nat.le_trans (Nat.add_le_add_right (xl2 i) 2) (show i + 2 ≤ 1073741824 from by omega))) | ((rw [hzpl]; exact Nat.le_trans (Nat.add_le_add_right (xl2 i) 3) (show i + 3 ≤ 1073741824 from by omega))) | ((rw [hzpl]; exact Nat.le_trans (Nat.add_le_add_right (xl2 i) 4) (show i + 4 ≤ 1073741824 from by omega)))))
      | ((with_reducible apply go_ret_rows hT); (· (cbv; try rfl)); (· (cbv; try rfl)); (· (cbv; (try simp only [true_and, and_true]); (try ((repeat' apply And.intro) <;> (first | trivial | rfl | decide  | ((exact hk3 i hki)) | ((rw [x1 i (by omega) (by omega)]; exact RowLe.rfl' _)) | ((rw [wrap_nat har _ (by omega)]))))))); (· (cbv; (try simp only [true_and, and_true]); (try ((repeat' apply And.intro) <;> (first | trivial | rfl | exact RowLe.rfl' _  | ((exact hk3 i hki)) | ((rw [x1 i (by omega) (by omega)]; exact RowLe.rfl' _)) | ((rw [wrap_nat har _ (by omega)]))))))); (· rfl))
      | ((with_reducible apply go_fin_rows hT); (· (cbv; try rfl)); (· (cbv; try rfl)); (· (cbv; (try simp only [true_and, and_true]); (try ((repeat' apply And.intro) <;> (first | trivial | rfl | decide  | ((exact hk3 i hki)) | ((rw [x1 i (by omega) (by omega)]; exact RowLe.rfl' _)) | ((rw [wrap_nat har _ (by omega)]))))))); (· (cbv; (try simp only [true_and, and_true]); (try ((repeat' apply And.intro) <;> (first | trivial | rfl | exact RowLe.rfl' _  | ((exact hk3 i hki)) | ((rw [x1 i (by omega) (by omega)]; exact RowLe.rfl' _)) | ((rw [wrap_nat har _ (by omega)]))))))); (· rfl))
      | (((with_reducible apply go_need); (· exact Int.natCast_nonneg _); (· exact Int.ofNat_lt.2 (by assumption))))
      | ((with_reducible refine go_stop (⟨i + 1, by omega⟩ : {i : Nat // i ≤ (jn pb)}) ?_ ?_ ?_ ?_); (· exact Nat.lt_of_lt_of_eq (show (jn pb) - (i + 1) < (jn pb) - i from by omega) (Eq.symm (by assumption))); (· (refine le_mk ?_ ?_ ?_ ?_ <;> (cbv; (try simp only [true_and, and_true]); (try ((repeat' apply And.intro) <;> (first | trivial | rfl | exact RowLe.rfl' _ | (rw [wrap_nat har _ (by omega)]) | ((exact hk3 i hki)) | ((rw [x1 i (by omega) (by omega)]; exact RowLe.rfl' _)) | ((rw [wrap_nat har _ (by omega)])))))))); (· (cbv; try rfl)); (· simp))
      | (fail)
      )
  all_goals trace_state

end Go.Proofs.Ytgoeinkmndicfaa
