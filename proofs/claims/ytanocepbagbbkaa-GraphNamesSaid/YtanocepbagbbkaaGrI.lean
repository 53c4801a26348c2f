/- Layer 11, the chapter's examples. No condition. -/
import Derived.Test.YtanocepbagbbkaaGrH
namespace Go.Proofs.Ytanocepbagbbkaa
open Go.RowKit
set_option linter.unusedVariables false
set_option linter.unusedSimpArgs false

theorem ptPlain (L : List (Nat × Nat)) : plainR [ptR L] := ⟨fun _ _ => rfl, trivial⟩

theorem pointsN (F : GFun) (w : World) (hF : F.At w) (hO : F.Ok) :
    Calls Try.prog 12 #[F.val] w (RetR w (funX F) (.tup [.one (.rs 0), .one (.int .i64 0)]) [ptR (allPts F.sn F.bn)]) := by
  have h := pointsC F w hF hO.small hO.chk
  have hR : ptR (allPts F.sn F.bn) = ⟨stN F.sn F.bn, 2, fun j => [.int .i64 (.ofNat ((allPts F.sn F.bn).getD j (0, 0)).1), .int .i64 (.ofNat ((allPts F.sn F.bn).getD j (0, 0)).2)]⟩ := by rw [ptR, allPts_len]
  rw [hR]; exact h
/-- All of a literal. -/
theorem pointsLit {c c' : Nat → Nat → Row} {w : World} {S : Nat → Value} {B : Nat → Nat} {st : St} (hM : MemIs c w S B st) (pa : Int) (un : Bool) (l b : SC) (hok : litOk st.h l b = true) (hO : fchkV (litF st.h B pa un l b) = 0) (L : List (Nat × Nat)) (hL : allPts (litF st.h B pa un l b).sn (litF st.h B pa un l b).bn = L) :
    Calls Try.prog 12 #[(litF st.h B pa un l b).val] w (RetR w c' (.tup [.one (.rs 0), .one (.int .i64 0)]) [ptR L]) := by
  have hO : GFun.Ok (litF st.h B pa un l b) := hO
  subst hL
  exact Calls.to (ptPlain _) rfl (pointsN _ w (litF_at hM hok) hO)
theorem nextLit {c c' : Nat → Nat → Row} {w : World} {S : Nat → Value} {B : Nat → Nat} {st : St} (hM : MemIs c w S B st) (pa : Int) (un : Bool) (l b : SC) (x y : Nat) (hok : litOk st.h l b = true) (hO : fchkV (litF st.h B pa un l b) = 0) (hx : decide (x < (litF st.h B pa un l b).bn) = true) (hy : decide (y ≤ (litF st.h B pa un l b).sn x) = true) (L : List (Nat × Nat)) (hL : nextP (litF st.h B pa un l b) x y = L) :
    Calls Try.prog 13 #[(litF st.h B pa un l b).val, .agg #[.int .i64 (.ofNat x), .int .i64 (.ofNat y)]] w (RetR w c' (.tup [.one (.rs 0), .one (.int .i64 0)]) [ptR L]) := by
  have hO : GFun.Ok (litF st.h B pa un l b) := hO
  subst hL
  exact Calls.to (ptPlain _) rfl (nextPC _ w (litF_at hM hok) hO x y (of_decide_eq_true hx) (of_decide_eq_true hy))
theorem beforeLit {c c' : Nat → Nat → Row} {w : World} {S : Nat → Value} {B : Nat → Nat} {st : St} (hM : MemIs c w S B st) (pa : Int) (un : Bool) (l b : SC) (x y : Nat) (hok : litOk st.h l b = true) (hO : fchkV (litF st.h B pa un l b) = 0) (hx : decide (x < (litF st.h B pa un l b).bn) = true) (hy : decide (y ≤ (litF st.h B pa un l b).sn x) = true) (L : List (Nat × Nat)) (hL : befP (litF st.h B pa un l b) (x, y) (stN (litF st.h B pa un l b).sn (litF st.h B pa un l b).bn) = L) :
    Calls Try.prog 14 #[(litF st.h B pa un l b).val, .agg #[.int .i64 (.ofNat x), .int .i64 (.ofNat y)]] w (RetR w c' (.tup [.one (.rs 0), .one (.int .i64 0)]) [ptR L]) := by
  have hO : GFun.Ok (litF st.h B pa un l b) := hO
  subst hL
  exact Calls.to (ptPlain _) rfl (beforeC _ w (litF_at hM hok) hO x y (of_decide_eq_true hx) (of_decide_eq_true hy))

set_option maxRecDepth 100000 in
set_option maxHeartbeats 4000000 in
theorem alive11C (w : World) :
    Calls Try.prog 11 #[] w (Ret w (.bool true)) := by
  refine go_start (args := []) (c := NoRows) Try.func11 rfl (noRows_ok _) rfl rfl ?_
  obtain ⟨nd, hnd⟩ : ∃ f : Bool → Bool → Bool, f = and := ⟨_, rfl⟩
  obtain ⟨nt, hnt⟩ : ∃ f : Bool → Bool, f = not := ⟨_, rfl⟩
  obtain ⟨ar, har⟩ : ∃ f : BinOp → IntKind → Int → Int → Int, f = rAr := ⟨_, rfl⟩
  obtain ⟨cm, hcm⟩ : ∃ f : BinOp → Int → Int → Bool, f = rCm := ⟨_, rfl⟩
  obtain ⟨mx, hmx⟩ : ∃ f : Int → Int → Int, f = rMx := ⟨_, rfl⟩
  obtain ⟨mn, hmn⟩ : ∃ f : Int → Int → Int, f = rMn := ⟨_, rfl⟩
  have ar01 : ar .add .i64 0 1 = 1 := by rw [har]; decide
  have ar12 : ar .add .i64 1 1 = 2 := by rw [har]; decide
  obtain ⟨zpl, hzpl⟩ : ∃ f : Nat → Nat → Nat, f = fun x y => x + y := ⟨_, rfl⟩
  obtain ⟨zjn, hzjn⟩ : ∃ f : Nat → (Nat → List SC) → (Nat → List SC) → Nat → List SC, f = rJn := ⟨_, rfl⟩
  obtain ⟨zup, hzup⟩ : ∃ f : (Nat → List SC) → Nat → Nat → List SC → Nat → List SC, f = rUp := ⟨_, rfl⟩
  obtain ⟨zmi, hzmi⟩ : ∃ f : Nat → Nat → Nat, f = fun x y => x - y := ⟨_, rfl⟩
  obtain ⟨zdp, hzdp⟩ : ∃ f : Nat → (Nat → List SC) → Nat → List SC, f = rDp := ⟨_, rfl⟩
  have hT := T0_ok hnd hnt har hcm hmx hmn hzpl hzjn hzup hzmi hzdp
  subst hnd hnt har hcm hmx hmn hzpl hzjn hzup hzmi hzdp
  repeat' (first
    | ((with_reducible apply go_ev hT 400); (· (cbv; try rfl)); (fail_if_success with_reducible apply stuck_id); (try simp only [ar01, ar12]))
    | ((with_reducible refine go_brt ?_ ?_); (· first | rfl | assumption | (rw [hcm]; decide)))
    | ((with_reducible refine go_brf ?_ ?_); (· first | rfl | assumption | (rw [hcm]; decide)))
    | ((with_reducible refine go_brnt hnt ?_ ?_); (· first | rfl | assumption))
    | ((with_reducible refine go_brnf hnt ?_ ?_); (· first | rfl | assumption))
    | (with_reducible refine go_brn hnt (fun h => ?_) (fun h => ?_))
    | (with_reducible refine go_brl hcm (fun hlt => ?_) (fun hge => ?_))
    | (with_reducible refine go_br (fun h => ?_) (fun h => ?_))
    | ((with_reducible apply go_ret_val hT); (· (cbv; try rfl)); (· (cbv; try rfl)))
    | ((with_reducible apply go_fin_val hT); (· (cbv; try rfl)); (· (cbv; try rfl)))
    | ((with_reducible apply go_draw); (· rfl); (· kernel_rfl); (· kernel_rfl))
    | ((with_reducible apply go_drawE); (· kernel_rfl))
    | (with_reducible refine go_fork ?_)
    | (with_reducible refine fork_cons ?_ ?_)
    | (with_reducible exact fork_nil)
    | ((with_reducible refine go_need ?_ ?_ ?_); (· first | omega | (simp only [Int.ofNat_eq_natCast]; omega)); (· first | omega | (simp only [Int.ofNat_eq_natCast]; omega)))
    | ((with_reducible refine go_ob ?_ ?_); (· first | trivial | (refine ⟨trivial, ?_⟩; omega) | (rw [hzpl]; refine ⟨trivial, ?_⟩; show _ + _ ≤ 1073741824; omega) | (rw [hzpl]; show _ + _ ≤ 1073741824; omega)))
    | ((with_reducible apply go_ret_rows hT); (· (cbv; try rfl)); (· (cbv; try rfl)); (· (cbv; (try simp only [true_and, and_true]); (try ((repeat' apply And.intro) <;> (first | trivial | rfl | decide ))))); (· (cbv; (try simp only [true_and, and_true]); (try ((repeat' apply And.intro) <;> (first | trivial | rfl | exact RowLe.rfl' _ ))))); (· rfl))
    | ((with_reducible apply go_fin_rows hT); (· (cbv; try rfl)); (· (cbv; try rfl)); (· (cbv; (try simp only [true_and, and_true]); (try ((repeat' apply And.intro) <;> (first | trivial | rfl | decide ))))); (· (cbv; (try simp only [true_and, and_true]); (try ((repeat' apply And.intro) <;> (first | trivial | rfl | exact RowLe.rfl' _ ))))); (· rfl))
    | ((with_reducible apply go_inline (f := 19) (hf := Try.func19) (hr := Try.results19) (hcall := Try.call19)); (· rfl); (· (cbv; try rfl)))
    | ((with_reducible apply go_callB (f := 12) (hf := Try.call12)); (· intro S B; cbv; try rfl); (· intro wc S B hbc hxc hM; exact pointsLit hM 0 false (.sl 2 0 1 1) (.sl 4 0 2 2) (by kernel_rfl) (by kernel_rfl) [(0, 0), (0, 1), (1, 0)] (by kernel_rfl)); (· rfl))
    | ((with_reducible apply go_callB (f := 13) (hf := Try.call13)); (· intro S B; cbv; try rfl); (· intro wc S B hbc hxc hM; exact nextLit hM 0 false (.sl 7 0 1 1) (.sl 9 0 2 2) 0 1 (by kernel_rfl) (by kernel_rfl) (by kernel_rfl) (by kernel_rfl) [(0, 0), (1, 0)] (by kernel_rfl)); (· rfl))
    | ((with_reducible apply go_callB (f := 14) (hf := Try.call14)); (· intro S B; cbv; try rfl); (· intro wc S B hbc hxc hM; exact beforeLit hM 0 false (.sl 12 0 1 1) (.sl 14 0 2 2) 0 0 (by kernel_rfl) (by kernel_rfl) (by kernel_rfl) (by kernel_rfl) [(0, 1)] (by kernel_rfl)); (· rfl))
    | ((with_reducible apply go_inline (f := 22) (hf := Try.func22) (hr := Try.results22) (hcall := Try.call22)); (· rfl); (· (cbv; try rfl)))
    | (with_reducible apply go_rounds 6)
    )
  all_goals rfl

end Go.Proofs.Ytanocepbagbbkaa
