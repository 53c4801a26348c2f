/- Layer 23: Touches of the reference, and that they are the program's. No condition. -/
import Derived.Test.YtgoeinkmndicfaaClI
namespace Go.Proofs.Ytgoeinkmndicfaa
open Go.RowKit
set_option linter.unusedVariables false
set_option linter.unusedSimpArgs false

theorem told_st {F : GFun} {n : Nat} (h : isAt F n = true) (hk : StIn F.ln (stAt F n)) : toldT F n (opsT F (stG (stAt F n)) (stNO (stAt F n))) = stT F (stAt F n) := by
  unfold toldT tgW tgP
  simp only [h, if_true, true_and]
  generalize stAt F n = s at hk
  have h1 := hk.r
  rcases hk.k with k | k | k | k
  · rcases h1 k with ⟨g, _⟩ | ⟨g, _, _⟩ | g | g
    · simp [stT, rvT, stNO, rvN, k, g, opsT, stG, rvG]
    · have g' : ¬ s.r.k = 1 := by omega
      have g4 : ¬ 4 ≤ s.r.k := by omega
      simp [stT, rvT, stNO, rvN, k, g', g, g4, opsT, stG, rvG]
    · simp [stT, rvT, stNO, rvN, k, g, opsT, stG, rvG]
    · simp [stT, rvT, stNO, rvN, k, g, opsT, stG, rvG]
  · simp [stT, stNO, k, opsT, stG]
  · simp [stT, stNO, k, opsT, stG]
  · simp [stT, stNO, k, opsT, stG]
theorem told_br {F : GFun} {n : Nat} (h : isAt F n = false) (hj : F.jk (pbN F n) = 2) : toldT F n (opsT F (fun _ => F.jo (pbN F n)) 1) = jmT F (pbN F n) := by
  unfold toldT tgW tgP
  simp [h, hj, jmT, opsT]
theorem told_jm {F : GFun} {n : Nat} (hO : F.Ok) (hb : pbN F n < F.bn) (h : isAt F n = false) (hj : F.jk (pbN F n) ≠ 2) : toldT F n (opsT F (F.ja (pbN F n)) (F.jn (pbN F n))) = jmT F (pbN F n) := by
  have ho := hO.okJ hb
  simp only [GJump.ok, GFun.jump, GJump.bare, Bool.or_eq_true, Bool.and_eq_true, beq_iff_eq, List.isEmpty_iff] at ho
  have hn : F.jk (pbN F n) ≠ 4 → F.jn (pbN F n) = 0 := fun g => by
    have : argL (F.jn (pbN F n)) (F.ja (pbN F n)) = [] := by
      rcases ho with ((ho | ho) | ho) | ho
      · exact ho.1.1.1.2.1.2
      · exact absurd ho.1.1.1.1 hj
      · exact ho.1.1.1.2.1.2
      · exact absurd ho.1.1.1.1.1.1.1.1 g
    have := congrArg List.length this
    rw [argL_len] at this
    exact this
  unfold toldT tgW tgP jmT
  rw [if_neg hj]
  by_cases h4 : F.jk (pbN F n) = 4
  · simp [h, h4]
  · have h0 := hn h4
    rw [h0]
    by_cases h3 : F.jk (pbN F n) = 3
    · simp [h, h3, opsT, GTouch.zero, GPlace.zero]
    · simp [h, h3, h4, opsT]

theorem toldC (F : GFun) (w : World) (hF : F.At w) (hO : F.Ok) (n : Nat) (hn : n < stN F.sn F.bn) :
    Calls Try.prog 23 #[F.val, .int .i64 (.ofNat n)] w (RetR w (funX F) (.pt (.one (.rs 0))) [touR (ptT F (pbN F n) (piN F n))]) := by
  have hpb := (num_pt hn).1
  cases hi : isAt F n with
  | true =>
    have hi' : piN F n < F.sn (pbN F n) := by unfold isAt at hi; exact of_decide_eq_true hi
    have hs := isAt_st hi
    have hin : StIn F.ln (stAt F n) := by rw [hs]; exact st_in hO hpb hi'
    have h1 (wc : World) (hk : KB ⟨w, []⟩ wc) := rOpsSt F wc (hF.later hk) hO n hn (stAt F n) rfl hi hin.k
    have hop : ∀ i, i < stNO (stAt F n) → opIn F.ln (stG (stAt F n) i) := fun i hi => by
      have hr := hin.r
      have ha := hin.a
      generalize stAt F n = s at hi hr ha hin
      unfold stNO rvN at hi
      unfold stG rvG
      by_cases k1 : s.k = 1
      · rw [if_pos k1] at hi ⊢
        rcases hr k1 with ⟨g, h⟩ | ⟨g, h, h'⟩ | g | g
        · rw [if_pos g] at hi; rw [if_pos (by omega)]; exact h
        · rw [if_neg (by omega), if_pos g] at hi
          split
          · exact h
          · exact h'
        · rw [if_neg (by omega), if_neg (by omega)] at hi; omega
        · rw [if_neg (by omega), if_neg (by omega)] at hi; omega
      · rw [if_neg k1] at hi ⊢
        have := hin.k
        by_cases k3 : s.k = 3
        · rw [if_pos k3] at hi; omega
        · exact ha (by omega)
    have hn8 : stNO (stAt F n) ≤ 8 := by
      unfold stNO rvN
      repeat' split
      all_goals omega
    have := toldA F w hF hO n hn (stNO (stAt F n)) (stG (stAt F n)) hn8 hop h1
    rw [told_st hi hin] at this
    have e : ptT F (pbN F n) (piN F n) = stT F (stAt F n) := by unfold ptT; rw [if_pos hi', hs]
    rw [e]; exact this
  | false =>
    have hi' : ¬ piN F n < F.sn (pbN F n) := by unfold isAt at hi; exact of_decide_eq_false hi
    have e : ptT F (pbN F n) (piN F n) = jmT F (pbN F n) := by unfold ptT; rw [if_neg hi']
    rw [e]
    have h1 (wc : World) (hk : KB ⟨w, []⟩ wc) := rOpsJm F wc (hF.later hk) hO n hn hi
    by_cases h2 : F.jk (pbN F n) = 2
    · have := toldA F w hF hO n hn 1 (fun _ => F.jo (pbN F n)) (by decide) (fun _ _ => condIn hO hpb h2) (fun wc hk => (h1 wc hk).1 h2)
      rw [told_br hi h2] at this
      exact this
    · have := toldB F w hF hO n hn (pbN F n) rfl (hO.jn8 hpb) (fun i hi => ?_) (fun wc hk => (h1 wc hk).2 h2)
      · rw [told_jm hO hpb hi h2] at this
        exact this
      · by_cases h4 : F.jk (pbN F n) = 4
        · exact argIn hO hpb h4 hi
        · have ho := hO.okJ hpb
          simp only [GJump.ok, GFun.jump, GJump.bare, Bool.or_eq_true, Bool.and_eq_true, beq_iff_eq, List.isEmpty_iff] at ho
          have : argL (F.jn (pbN F n)) (F.ja (pbN F n)) = [] := by
            rcases ho with ((ho | ho) | ho) | ho
            · exact ho.1.1.1.2.1.2
            · exact absurd ho.1.1.1.1 h2
            · exact ho.1.1.1.2.1.2
            · exact absurd ho.1.1.1.1.1.1.1.1 h4
          have := congrArg List.length this
          rw [argL_len] at this
          simp only [List.length_nil] at this
          omega

set_option maxRecDepth 100000 in
set_option maxHeartbeats 4000000 in
theorem rTouchesBad (F : GFun) (w : World) (hF : F.At w) (hK : F.Ty8) (hz : fchkV F ≠ 0) (at_ : Int) :
    Calls Try.prog 8 #[F.val, .int .i64 at_] w (Ret w (.tuple #[.slice none 0 0, .int .i64 (fchkV F)])) := by
  have h1 (wc : World) (hk : KB ⟨w, []⟩ wc) := rFnChk F wc (hF.later hk) hK
  rw [rchk_eq] at h1
  generalize fchkV F = z at h1 hz ⊢
  have hq : decide (z = 0) = false := decide_eq_false hz
  clear hz hK
  obtain ⟨pa, un, lA, ln, lc, lk, lt, bA, bn, bc, sA, sn, sc, s, jA, jn, jc, ja, jk, jo, jf, jx, je, jd⟩ := F
  obtain ⟨hX, hl, hb, hs, hj⟩ := hF
  simp only at hl hb hs hj
  refine go_start (args := [.pt (.agg (GFun.dat ⟨pa, un, lA, ln, lc, lk, lt, bA, bn, bc, sA, sn, sc, s, jA, jn, jc, ja, jk, jo, jf, jx, je, jd⟩)), .pt (.one (.int .i64 at_))]) (c := (funX ⟨pa, un, lA, ln, lc, lk, lt, bA, bn, bc, sA, sn, sc, s, jA, jn, jc, ja, jk, jo, jf, jx, je, jd⟩)) Try.func8 rfl hX rfl rfl ?_
  obtain ⟨nd, hnd⟩ : ∃ f : Bool → Bool → Bool, f = and := ⟨_, rfl⟩
  obtain ⟨nt, hnt⟩ : ∃ f : Bool → Bool, f = not := ⟨_, rfl⟩
  obtain ⟨ar, har⟩ : ∃ f : BinOp → IntKind → Int → Int → Int, f = rAr := ⟨_, rfl⟩
  obtain ⟨cm, hcm⟩ : ∃ f : BinOp → Int → Int → Bool, f = rCm := ⟨_, rfl⟩
  obtain ⟨mx, hmx⟩ : ∃ f : Int → Int → Int, f = rMx := ⟨_, rfl⟩
  obtain ⟨mn, hmn⟩ : ∃ f : Int → Int → Int, f = rMn := ⟨_, rfl⟩
  have ar01 : ar .add .i64 0 1 = 1 := by rw [har]; decide
  have ar12 : ar .add .i64 1 1 = 2 := by rw [har]; decide
  obtain ⟨zpl, hzpl⟩ : ∃ f : Nat → Nat → Nat, f = fun x y => x + y := ⟨_, rfl⟩
  obtain ⟨zjn, hzjn⟩ : ∃ f : Nat → (Nat → List SC) → (Nat → List SC) → Nat → List SC, f = rJn := ⟨_, rfl⟩
  obtain ⟨zup, hzup⟩ : ∃ f : (Nat → List SC) → Nat → Nat → List SC → Nat → List SC, f = rUp := ⟨_, rfl⟩
  obtain ⟨zmi, hzmi⟩ : ∃ f : Nat → Nat → Nat, f = fun x y => x - y := ⟨_, rfl⟩
  obtain ⟨zdp, hzdp⟩ : ∃ f : Nat → (Nat → List SC) → Nat → List SC, f = rDp := ⟨_, rfl⟩
  have hT := T0_ok hnd hnt har hcm hmx hmn hzpl hzjn hzup hzmi hzdp
  repeat' (first
    | ((with_reducible apply go_ev hT 400); (· (cbv; try rfl)); (fail_if_success with_reducible apply stuck_id))
    | ((with_reducible refine go_brt ?_ ?_); (· first | rfl | assumption | (rw [hcm]; decide)))
    | ((with_reducible refine go_brf ?_ ?_); (· first | rfl | assumption | (rw [hcm]; decide)))
    | ((with_reducible refine go_brnt hnt ?_ ?_); (· first | rfl | assumption))
    | ((with_reducible refine go_brnf hnt ?_ ?_); (· first | rfl | assumption))
    | (with_reducible refine go_brn hnt (fun h => ?_) (fun h => ?_))
    | (with_reducible refine go_brl hcm (fun hlt => ?_) (fun hge => ?_))
    | (with_reducible refine go_br (fun h => ?_) (fun h => ?_))
    | ((with_reducible apply go_ret_val hT); (· (cbv; try rfl)); (· (cbv; try rfl)))
    | ((with_reducible apply go_fin_val hT); (· (cbv; try rfl)); (· (cbv; try rfl)))
    | ((with_reducible apply go_draw); (· rfl); (· kernel_rfl); (· kernel_rfl))
    | ((with_reducible apply go_drawE); (· kernel_rfl))
    | (with_reducible refine go_fork ?_)
    | (with_reducible refine fork_cons ?_ ?_)
    | (with_reducible exact fork_nil)
    | ((with_reducible refine go_need ?_ ?_ ?_); (· first | omega | (simp only [Int.ofNat_eq_natCast]; omega)); (· first | omega | (simp only [Int.ofNat_eq_natCast]; omega)))
    | ((with_reducible refine go_ob ?_ ?_); (· first | trivial | (refine ⟨trivial, ?_⟩; omega) | (rw [hzpl]; refine ⟨trivial, ?_⟩; show _ + _ ≤ 1073741824; omega) | (rw [hzpl]; show _ + _ ≤ 1073741824; omega)))
    | ((with_reducible apply go_ret_rows hT); (· (cbv; try rfl)); (· (cbv; try rfl)); (· (cbv; (try simp only [true_and, and_true]); (try ((repeat' apply And.intro) <;> (first | trivial | rfl | decide ))))); (· (cbv; (try simp only [true_and, and_true]); (try ((repeat' apply And.intro) <;> (first | trivial | rfl | exact RowLe.rfl' _ ))))); (· rfl))
    | ((with_reducible apply go_fin_rows hT); (· (cbv; try rfl)); (· (cbv; try rfl)); (· (cbv; (try simp only [true_and, and_true]); (try ((repeat' apply And.intro) <;> (first | trivial | rfl | decide ))))); (· (cbv; (try simp only [true_and, and_true]); (try ((repeat' apply And.intro) <;> (first | trivial | rfl | exact RowLe.rfl' _ ))))); (· rfl))
    | ((with_reducible apply go_call (f := 21) (hf := Try.call21)); (· (cbv; try rfl)); (· intro wc hbc hxc; exact h1 wc hbc))
    | ((with_reducible apply go_callq (f := 21) (hf := Try.call21)); (· (cbv; try rfl)); (· intro wc hbc hxc; exact h1 wc hbc))
    )
  all_goals rfl

set_option maxRecDepth 100000 in
set_option maxHeartbeats 4000000 in
theorem rTouchesOut (F : GFun) (w : World) (hF : F.At w) (hK : F.Ty8) (hO : F.Ok) (at_ : Int) (hz : at_ < 0 ∨ (stN F.sn F.bn : Int) ≤ at_) :
    Calls Try.prog 8 #[F.val, .int .i64 at_] w (Ret w (.tuple #[.slice none 0 0, .int .i64 2])) := by
  have h1 (wc : World) (hk : KB ⟨w, []⟩ wc) := rFnChk F wc (hF.later hk) hK
  rw [rchk_eq, show fchkV F = 0 from hO] at h1
  have h2 (wc : World) (hk : KB ⟨w, []⟩ wc) := sizeC F wc (hF.later hk) hO.small
  obtain ⟨N, hN⟩ : ∃ N, N = stN F.sn F.bn := ⟨_, rfl⟩
  rw [← hN] at hz h2
  clear hN hO hK
  obtain ⟨pa, un, lA, ln, lc, lk, lt, bA, bn, bc, sA, sn, sc, s, jA, jn, jc, ja, jk, jo, jf, jx, je, jd⟩ := F
  obtain ⟨hX, hl, hb, hs, hj⟩ := hF
  simp only at hl hb hs hj
  refine go_start (args := [.pt (.agg (GFun.dat ⟨pa, un, lA, ln, lc, lk, lt, bA, bn, bc, sA, sn, sc, s, jA, jn, jc, ja, jk, jo, jf, jx, je, jd⟩)), .pt (.one (.int .i64 at_))]) (c := (funX ⟨pa, un, lA, ln, lc, lk, lt, bA, bn, bc, sA, sn, sc, s, jA, jn, jc, ja, jk, jo, jf, jx, je, jd⟩)) Try.func8 rfl hX rfl rfl ?_
  obtain ⟨nd, hnd⟩ : ∃ f : Bool → Bool → Bool, f = and := ⟨_, rfl⟩
  obtain ⟨nt, hnt⟩ : ∃ f : Bool → Bool, f = not := ⟨_, rfl⟩
  obtain ⟨ar, har⟩ : ∃ f : BinOp → IntKind → Int → Int → Int, f = rAr := ⟨_, rfl⟩
  obtain ⟨cm, hcm⟩ : ∃ f : BinOp → Int → Int → Bool, f = rCm := ⟨_, rfl⟩
  obtain ⟨mx, hmx⟩ : ∃ f : Int → Int → Int, f = rMx := ⟨_, rfl⟩
  obtain ⟨mn, hmn⟩ : ∃ f : Int → Int → Int, f = rMn := ⟨_, rfl⟩
  have ar01 : ar .add .i64 0 1 = 1 := by rw [har]; decide
  have ar12 : ar .add .i64 1 1 = 2 := by rw [har]; decide
  obtain ⟨zpl, hzpl⟩ : ∃ f : Nat → Nat → Nat, f = fun x y => x + y := ⟨_, rfl⟩
  obtain ⟨zjn, hzjn⟩ : ∃ f : Nat → (Nat → List SC) → (Nat → List SC) → Nat → List SC, f = rJn := ⟨_, rfl⟩
  obtain ⟨zup, hzup⟩ : ∃ f : (Nat → List SC) → Nat → Nat → List SC → Nat → List SC, f = rUp := ⟨_, rfl⟩
  obtain ⟨zmi, hzmi⟩ : ∃ f : Nat → Nat → Nat, f = fun x y => x - y := ⟨_, rfl⟩
  obtain ⟨zdp, hzdp⟩ : ∃ f : Nat → (Nat → List SC) → Nat → List SC, f = rDp := ⟨_, rfl⟩
  have hT := T0_ok hnd hnt har hcm hmx hmn hzpl hzjn hzup hzmi hzdp
  repeat' (first
    | ((with_reducible apply go_ev hT 400); (· (cbv; try rfl)); (fail_if_success with_reducible apply stuck_id))
    | ((with_reducible refine go_brt ?_ ?_); (· first | rfl | assumption | (rw [hcm]; decide)))
    | ((with_reducible refine go_brf ?_ ?_); (· first | rfl | assumption | (rw [hcm]; decide)))
    | ((with_reducible refine go_brnt hnt ?_ ?_); (· first | rfl | assumption))
    | ((with_reducible refine go_brnf hnt ?_ ?_); (· first | rfl | assumption))
    | (with_reducible refine go_brn hnt (fun h => ?_) (fun h => ?_))
    | (with_reducible refine go_brl hcm (fun hlt => ?_) (fun hge => ?_))
    | (with_reducible refine go_br (fun h => ?_) (fun h => ?_))
    | ((with_reducible apply go_ret_val hT); (· (cbv; try rfl)); (· (cbv; try rfl)))
    | ((with_reducible apply go_fin_val hT); (· (cbv; try rfl)); (· (cbv; try rfl)))
    | ((with_reducible apply go_draw); (· rfl); (· kernel_rfl); (· kernel_rfl))
    | ((with_reducible apply go_drawE); (· kernel_rfl))
    | (with_reducible refine go_fork ?_)
    | (with_reducible refine fork_cons ?_ ?_)
    | (with_reducible exact fork_nil)
    | ((with_reducible refine go_need ?_ ?_ ?_); (· first | omega | (simp only [Int.ofNat_eq_natCast]; omega)); (· first | omega | (simp only [Int.ofNat_eq_natCast]; omega)))
    | ((with_reducible refine go_ob ?_ ?_); (· first | trivial | (refine ⟨trivial, ?_⟩; omega) | (rw [hzpl]; refine ⟨trivial, ?_⟩; show _ + _ ≤ 1073741824; omega) | (rw [hzpl]; show _ + _ ≤ 1073741824; omega)))
    | ((with_reducible apply go_ret_rows hT); (· (cbv; try rfl)); (· (cbv; try rfl)); (· (cbv; (try simp only [true_and, and_true]); (try ((repeat' apply And.intro) <;> (first | trivial | rfl | decide ))))); (· (cbv; (try simp only [true_and, and_true]); (try ((repeat' apply And.intro) <;> (first | trivial | rfl | exact RowLe.rfl' _ ))))); (· rfl))
    | ((with_reducible apply go_fin_rows hT); (· (cbv; try rfl)); (· (cbv; try rfl)); (· (cbv; (try simp only [true_and, and_true]); (try ((repeat' apply And.intro) <;> (first | trivial | rfl | decide ))))); (· (cbv; (try simp only [true_and, and_true]); (try ((repeat' apply And.intro) <;> (first | trivial | rfl | exact RowLe.rfl' _ ))))); (· rfl))
    | ((with_reducible apply go_call (f := 21) (hf := Try.call21)); (· (cbv; try rfl)); (· intro wc hbc hxc; exact h1 wc hbc))
    | ((with_reducible apply go_callq (f := 21) (hf := Try.call21)); (· (cbv; try rfl)); (· intro wc hbc hxc; exact h1 wc hbc))
    | ((with_reducible apply go_call (f := 22) (hf := Try.call22)); (· (cbv; try rfl)); (· intro wc hbc hxc; exact h2 wc hbc))
    | ((with_reducible apply go_callq (f := 22) (hf := Try.call22)); (· (cbv; try rfl)); (· intro wc hbc hxc; exact h2 wc hbc))
    )
  all_goals (try rfl)
  all_goals
    exfalso
    subst hcm
    have q1 := of_decide_eq_false (show decide (at_ < 0) = false by assumption)
    have q2 := of_decide_eq_false (show decide ((N : Int) ≤ at_) = false by assumption)
    omega

set_option maxRecDepth 100000 in
set_option maxHeartbeats 4000000 in
theorem rTouchesAt (F : GFun) (w : World) (hF : F.At w) (hK : F.Ty8) (hO : F.Ok) (n : Nat) (hn : n < stN F.sn F.bn) :
    Calls Try.prog 8 #[F.val, .int .i64 (.ofNat n)] w (RetR w (funX F) (.tup [.one (.rs 0), .one (.int .i64 0)]) [touR (ptT F (pbN F n) (piN F n))]) := by
  have h1 (wc : World) (hk : KB ⟨w, []⟩ wc) := rFnChk F wc (hF.later hk) hK
  rw [rchk_eq, show fchkV F = 0 from hO] at h1
  have h2 (wc : World) (hk : KB ⟨w, []⟩ wc) := sizeC F wc (hF.later hk) hO.small
  have h3 (wc : World) (hk : KB ⟨w, []⟩ wc) := toldC F wc (hF.later hk) hO n hn
  obtain ⟨R, hR⟩ : ∃ R, R = touR (ptT F (pbN F n) (piN F n)) := ⟨_, rfl⟩
  rw [← hR] at h3 ⊢
  obtain ⟨N, hN⟩ : ∃ N, N = stN F.sn F.bn := ⟨_, rfl⟩
  rw [← hN] at hn h2
  clear hR hN hO hK
  obtain ⟨pa, un, lA, ln, lc, lk, lt, bA, bn, bc, sA, sn, sc, s, jA, jn, jc, ja, jk, jo, jf, jx, je, jd⟩ := F
  obtain ⟨hX, hl, hb, hs, hj⟩ := hF
  simp only at hl hb hs hj
  refine go_start (args := [.pt (.agg (GFun.dat ⟨pa, un, lA, ln, lc, lk, lt, bA, bn, bc, sA, sn, sc, s, jA, jn, jc, ja, jk, jo, jf, jx, je, jd⟩)), .pt (.one (.int .i64 (.ofNat n)))]) (c := (funX ⟨pa, un, lA, ln, lc, lk, lt, bA, bn, bc, sA, sn, sc, s, jA, jn, jc, ja, jk, jo, jf, jx, je, jd⟩)) Try.func8 rfl hX rfl rfl ?_
  obtain ⟨nd, hnd⟩ : ∃ f : Bool → Bool → Bool, f = and := ⟨_, rfl⟩
  obtain ⟨nt, hnt⟩ : ∃ f : Bool → Bool, f = not := ⟨_, rfl⟩
  obtain ⟨ar, har⟩ : ∃ f : BinOp → IntKind → Int → Int → Int, f = rAr := ⟨_, rfl⟩
  obtain ⟨cm, hcm⟩ : ∃ f : BinOp → Int → Int → Bool, f = rCm := ⟨_, rfl⟩
  obtain ⟨mx, hmx⟩ : ∃ f : Int → Int → Int, f = rMx := ⟨_, rfl⟩
  obtain ⟨mn, hmn⟩ : ∃ f : Int → Int → Int, f = rMn := ⟨_, rfl⟩
  have ar01 : ar .add .i64 0 1 = 1 := by rw [har]; decide
  have ar12 : ar .add .i64 1 1 = 2 := by rw [har]; decide
  obtain ⟨zpl, hzpl⟩ : ∃ f : Nat → Nat → Nat, f = fun x y => x + y := ⟨_, rfl⟩
  obtain ⟨zjn, hzjn⟩ : ∃ f : Nat → (Nat → List SC) → (Nat → List SC) → Nat → List SC, f = rJn := ⟨_, rfl⟩
  obtain ⟨zup, hzup⟩ : ∃ f : (Nat → List SC) → Nat → Nat → List SC → Nat → List SC, f = rUp := ⟨_, rfl⟩
  obtain ⟨zmi, hzmi⟩ : ∃ f : Nat → Nat → Nat, f = fun x y => x - y := ⟨_, rfl⟩
  obtain ⟨zdp, hzdp⟩ : ∃ f : Nat → (Nat → List SC) → Nat → List SC, f = rDp := ⟨_, rfl⟩
  have hT := T0_ok hnd hnt har hcm hmx hmn hzpl hzjn hzup hzmi hzdp
  have q1 : cm .lss (.ofNat n) 0 = false := by rw [hcm]; exact decide_eq_false (Int.not_lt.2 (Int.natCast_nonneg n))
  have q2 : cm .geq (.ofNat n) (.ofNat N) = false := by rw [hcm]; exact decide_eq_false (fun g => absurd (Int.ofNat_le.1 g) (by omega))
  repeat' (first
    | ((with_reducible apply go_ev hT 400); (· (cbv; try rfl)); (fail_if_success with_reducible apply stuck_id))
    | ((with_reducible refine go_brt ?_ ?_); (· first | rfl | assumption | (rw [hcm]; decide)))
    | ((with_reducible refine go_brf ?_ ?_); (· first | rfl | assumption | (rw [hcm]; decide)))
    | ((with_reducible refine go_brnt hnt ?_ ?_); (· first | rfl | assumption))
    | ((with_reducible refine go_brnf hnt ?_ ?_); (· first | rfl | assumption))
    | (with_reducible refine go_brn hnt (fun h => ?_) (fun h => ?_))
    | (with_reducible refine go_brl hcm (fun hlt => ?_) (fun hge => ?_))
    | (with_reducible refine go_br (fun h => ?_) (fun h => ?_))
    | ((with_reducible apply go_ret_val hT); (· (cbv; try rfl)); (· (cbv; try rfl)))
    | ((with_reducible apply go_fin_val hT); (· (cbv; try rfl)); (· (cbv; try rfl)))
    | ((with_reducible apply go_drawE); (· kernel_rfl))
    | (with_reducible refine go_fork ?_)
    | (with_reducible refine fork_cons ?_ ?_)
    | (with_reducible exact fork_nil)
    | ((with_reducible refine go_need ?_ ?_ ?_); (· first | omega | (simp only [Int.ofNat_eq_natCast]; omega)); (· first | omega | (simp only [Int.ofNat_eq_natCast]; omega)))
    | ((with_reducible refine go_ob ?_ ?_); (· first | trivial | (refine ⟨trivial, ?_⟩; omega) | (rw [hzpl]; refine ⟨trivial, ?_⟩; show _ + _ ≤ 1073741824; omega) | (rw [hzpl]; show _ + _ ≤ 1073741824; omega)))
    | ((with_reducible apply go_ret_rows hT); (· (cbv; try rfl)); (· (cbv; try rfl)); (· (cbv; (try simp only [true_and, and_true]); (try ((repeat' apply And.intro) <;> (first | trivial | rfl | decide ))))); (· (cbv; (try simp only [true_and, and_true]); (try ((repeat' apply And.intro) <;> (first | trivial | rfl | exact RowLe.rfl' _ ))))); (· rfl))
    | ((with_reducible apply go_fin_rows hT); (· (cbv; try rfl)); (· (cbv; try rfl)); (· (cbv; (try simp only [true_and, and_true]); (try ((repeat' apply And.intro) <;> (first | trivial | rfl | decide ))))); (· (cbv; (try simp only [true_and, and_true]); (try ((repeat' apply And.intro) <;> (first | trivial | rfl | exact RowLe.rfl' _ ))))); (· rfl))
    | ((with_reducible apply go_call (f := 21) (hf := Try.call21)); (· (cbv; try rfl)); (· intro wc hbc hxc; exact h1 wc hbc))
    | ((with_reducible apply go_callq (f := 21) (hf := Try.call21)); (· (cbv; try rfl)); (· intro wc hbc hxc; exact h1 wc hbc))
    | ((with_reducible apply go_call (f := 22) (hf := Try.call22)); (· (cbv; try rfl)); (· intro wc hbc hxc; exact h2 wc hbc))
    | ((with_reducible apply go_callq (f := 22) (hf := Try.call22)); (· (cbv; try rfl)); (· intro wc hbc hxc; exact h2 wc hbc))
    | ((with_reducible apply go_callR (f := 23) (hf := Try.call23)); (· intro S; cbv; try rfl); (· intro wc S hbc hxc hrc; exact h3 wc hbc); (· rfl))
    )
  all_goals trace_state

def TwoR' (a : Option Addr) (n c size : Nat) (el : Nat → List SC) (a' : Option Addr) (n' c' size' : Nat) (el' : Nat → List SC) : Nat → Nat → Row := fun q _ => match q with
  | 0 => ⟨a, n, c, size, el⟩
  | _ + 1 => ⟨a', n', c', size', el'⟩
theorem RowIs.two' {c : Nat → Nat → Row} {w : World} {R R' : ORow} {v v' : Value} (h : RowIs c w R v) (h' : RowIs c w R' v') (hp : ∀ j, j < R.n → plainL (R.el j) = true) (hp' : ∀ j, j < R'.n → plainL (R'.el j) = true) : ∃ a cap a' cap', v = .slice a R.n cap ∧ v' = .slice a' R'.n cap' ∧ XOk ⟨[], TwoR' a R.n cap R.es R.el a' R'.n cap' R'.es R'.el, []⟩ ⟨w, []⟩ := by
  obtain ⟨a, cap, rfl⟩ := h.form
  obtain ⟨a', cap', rfl⟩ := h'.form
  refine ⟨a, cap, a', cap', rfl, rfl, fun q i j hj => ?_⟩
  match q, hj with
  | 0, hj =>
    obtain ⟨b, p, h1, h2, vs, h3, h4⟩ := h.row (c' := TwoR' a R.n cap R.es R.el a' R'.n cap' R'.es R'.el) hp (j := j) hj
    exact ⟨b, p, h1, h2, by simp, vs, h3, h4⟩
  | q + 1, hj =>
    obtain ⟨b, p, h1, h2, vs, h3, h4⟩ := h'.row (c' := TwoR' a R.n cap R.es R.el a' R'.n cap' R'.es R'.el) hp' (j := j) hj
    exact ⟨b, p, h1, h2, by simp, vs, h3, h4⟩
set_option maxRecDepth 100000 in
set_option maxHeartbeats 4000000 in
/-- Lists of accesses that are alike. -/
theorem sameTouchesC (L : List GTouch) (hn : L.length ≤ 1000000) (c : Nat → Nat → Row) (w : World) (v v' : Value) (hR : RowIs c w (touR L) v) (hR' : RowIs c w (touR L) v') :
    Calls Try.prog 11 #[v, v'] w (Ret w (.bool true)) := by
  obtain ⟨a, cap, a', cap', rfl, rfl, hX⟩ := hR.two' hR' (fun j _ => rfl) (fun j _ => rfl)
  clear hR hR'
  simp only [touR] at hX ⊢
  obtain ⟨g, hg⟩ : ∃ f : Nat → GTouch, f = fun j => L.getD j .zero := ⟨_, rfl⟩
  obtain ⟨n, hn'⟩ : ∃ n, n = L.length := ⟨_, rfl⟩
  have hX : XOk ⟨[], TwoR' a n cap 5 (fun j => (g j).sc) a' n cap' 5 (fun j => (g j).sc), []⟩ ⟨w, []⟩ := by rw [hg, hn']; exact hX
  rw [← hn'] at hn ⊢
  clear hg hn'
  refine go_start (args := [.pt (.one (.xs 0 0)), .pt (.one (.xs 1 0))]) (c := (TwoR' a n cap 5 (fun j => (g j).sc) a' n cap' 5 (fun j => (g j).sc))) Try.func11 rfl hX rfl rfl ?_
  obtain ⟨nd, hnd⟩ : ∃ f : Bool → Bool → Bool, f = and := ⟨_, rfl⟩
  obtain ⟨nt, hnt⟩ : ∃ f : Bool → Bool, f = not := ⟨_, rfl⟩
  obtain ⟨ar, har⟩ : ∃ f : BinOp → IntKind → Int → Int → Int, f = rAr := ⟨_, rfl⟩
  obtain ⟨cm, hcm⟩ : ∃ f : BinOp → Int → Int → Bool, f = rCm := ⟨_, rfl⟩
  obtain ⟨mx, hmx⟩ : ∃ f : Int → Int → Int, f = rMx := ⟨_, rfl⟩
  obtain ⟨mn, hmn⟩ : ∃ f : Int → Int → Int, f = rMn := ⟨_, rfl⟩
  have ar01 : ar .add .i64 0 1 = 1 := by rw [har]; decide
  have ar12 : ar .add .i64 1 1 = 2 := by rw [har]; decide
  obtain ⟨zpl, hzpl⟩ : ∃ f : Nat → Nat → Nat, f = fun x y => x + y := ⟨_, rfl⟩
  obtain ⟨zjn, hzjn⟩ : ∃ f : Nat → (Nat → List SC) → (Nat → List SC) → Nat → List SC, f = rJn := ⟨_, rfl⟩
  obtain ⟨zup, hzup⟩ : ∃ f : (Nat → List SC) → Nat → Nat → List SC → Nat → List SC, f = rUp := ⟨_, rfl⟩
  obtain ⟨zmi, hzmi⟩ : ∃ f : Nat → Nat → Nat, f = fun x y => x - y := ⟨_, rfl⟩
  obtain ⟨zdp, hzdp⟩ : ∃ f : Nat → (Nat → List SC) → Nat → List SC, f = rDp := ⟨_, rfl⟩
  have hT := T0_ok hnd hnt har hcm hmx hmn hzpl hzjn hzup hzmi hzdp
  repeat' (first
    | ((with_reducible apply go_ev hT 400); (· (cbv; try rfl)); (fail_if_success with_reducible apply stuck_id))
    | ((with_reducible refine go_brt ?_ ?_); (· first | rfl | assumption | (rw [hcm]; decide)))
    | ((with_reducible refine go_brf ?_ ?_); (· first | rfl | assumption | (rw [hcm]; decide)))
    | ((with_reducible refine go_brnt hnt ?_ ?_); (· first | rfl | assumption))
    | ((with_reducible refine go_brnf hnt ?_ ?_); (· first | rfl | assumption))
    | (with_reducible refine go_brn hnt (fun h => ?_) (fun h => ?_))
    | (with_reducible refine go_brl hcm (fun hlt => ?_) (fun hge => ?_))
    | (with_reducible refine go_br (fun h => ?_) (fun h => ?_))
    | ((with_reducible apply go_ret_val hT); (· (cbv; try rfl)); (· (cbv; try rfl)))
    | ((with_reducible apply go_fin_val hT); (· (cbv; try rfl)); (· (cbv; try rfl)))
    | ((with_reducible apply go_draw); (· rfl); (· kernel_rfl); (· kernel_rfl))
    | ((with_reducible apply go_drawE); (· kernel_rfl))
    | (with_reducible refine go_fork ?_)
    | (with_reducible refine fork_cons ?_ ?_)
    | (with_reducible exact fork_nil)
    | ((with_reducible refine go_need ?_ ?_ ?_); (· first | omega | (simp only [Int.ofNat_eq_natCast]; omega)); (· first | omega | (simp only [Int.ofNat_eq_natCast]; omega)))
    | ((with_reducible refine go_ob ?_ ?_); (· first | trivial | (refine ⟨trivial, ?_⟩; omega) | (rw [hzpl]; refine ⟨trivial, ?_⟩; show _ + _ ≤ 1073741824; omega) | (rw [hzpl]; show _ + _ ≤ 1073741824; omega)))
    | ((with_reducible apply go_ret_rows hT); (· (cbv; try rfl)); (· (cbv; try rfl)); (· (cbv; (try simp only [true_and, and_true]); (try ((repeat' apply And.intro) <;> (first | trivial | rfl | decide ))))); (· (cbv; (try simp only [true_and, and_true]); (try ((repeat' apply And.intro) <;> (first | trivial | rfl | exact RowLe.rfl' _ ))))); (· rfl))
    | ((with_reducible apply go_fin_rows hT); (· (cbv; try rfl)); (· (cbv; try rfl)); (· (cbv; (try simp only [true_and, and_true]); (try ((repeat' apply And.intro) <;> (first | trivial | rfl | decide ))))); (· (cbv; (try simp only [true_and, and_true]); (try ((repeat' apply And.intro) <;> (first | trivial | rfl | exact RowLe.rfl' _ ))))); (· rfl))
    | ((with_reducible refine go_loopk (σ := {i : Nat // i ≤ n}) [4, 11, 12, 13, 14, 15, 16, 17, 18, 19, 20, 21, 22, 23, 24, 25] (fun x => [(5, .pt (.one (.int .i64 (.ofNat x.1))))]) (fun x => []) (fun x => []) (fun x => n - x.1) ⟨0, by omega⟩ ?_ ?_ ?_ ?_); (· (refine le_mk ?_ ?_ ?_ ?_ <;> (cbv; (try simp only [true_and, and_true]); (try ((repeat' apply And.intro) <;> (first | trivial | rfl | exact RowLe.rfl' _ | (rw [wrap_nat har _ (by omega)]))))))); (· (cbv; try rfl)); (· simp); (rintro ⟨i, hi⟩ mm hmm))
    | ((with_reducible refine go_stop ⟨i + 1, by omega⟩ ?_ ?_ ?_ ?_); (· exact Nat.lt_of_lt_of_eq (show n - (i + 1) < n - i from by omega) (Eq.symm (by assumption))); (· (refine le_mk ?_ ?_ ?_ ?_ <;> (cbv; (try simp only [true_and, and_true]); (try ((repeat' apply And.intro) <;> (first | trivial | rfl | exact RowLe.rfl' _ | (rw [wrap_nat har _ (by omega)]))))))); (· (cbv; try rfl)); (· simp))
    )
  all_goals (try rfl)
  all_goals (exfalso; subst hnd hnt; simp_all)

end Go.Proofs.Ytgoeinkmndicfaa
