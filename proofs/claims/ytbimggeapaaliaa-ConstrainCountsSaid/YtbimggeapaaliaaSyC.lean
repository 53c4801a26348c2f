/- Layer 6 of the program: the check of a jump, walked the second way. No condition. -/
import Derived.Test.YtbimggeapaaliaaSyB
namespace Go.Proofs.Ytbimggeapaaliaa
open Go.RowKit
set_option linter.unusedVariables false
set_option linter.unusedSimpArgs false

/-- Whether a jump is right, by the number of its arguments and whether all of them are. -/
def jokB (k : Int) (a : GOper) (fn nx el : Int) (n : Nat) (ga : Bool) (d : GPlace) : Bool :=
  let call := k == 4
  let branch := k == 2
  let next := call || branch || k == 1
  !((!next && k != 3 && k != 5) || (!next && nx != 0) || !blk nx ||
    (!branch && (el != 0 || !a.eqB .zero)) || !blk el || (branch && !a.ok) ||
    (!call && (fn != 0 || !(n == 0) || !d.eqB .zero)) ||
    decide (fn < 0) || decide (8 ≤ fn) || decide (8 < n)) &&
  (!call || d.ok) && ga
theorem jokB_eq (k : Int) (a : GOper) (fn nx el : Int) (n : Nat) (g : Nat → GOper) (d : GPlace) : (GJump.mk k a fn nx el (argL n g) d).ok = jokB k a fn nx el n (allN n fun i => (g i).ok) d := by
  rw [← GJump.ok2_eq, GJump.ok2, jokB, argL_len, argL_all]
  have : (argL n g).isEmpty = (n == 0) := by
    cases n with
    | zero => rfl
    | succ n => simp [argL, List.range_succ]
  rw [this]; rfl

set_option maxRecDepth 100000 in
set_option maxHeartbeats 4000000 in
theorem jumpChk (k fn nx el ak an al af dl df : Int) (ad dd : Bool) (A : Option Addr) (n cap : Nat) (g : Nat → GOper) (w : World) (hn : n ≤ maxLen) (hX : XOk ⟨[], OneR A n cap 5 fun i => (g i).sc, []⟩ ⟨w, []⟩) :
    Calls Try.prog 66 #[.agg #[.int .u8 k, .int .u8 ak, .int .i64 an, .int .i64 al, .bool ad, .int .u8 af, .int .i64 fn, .int .i64 nx, .int .i64 el, .slice A n cap, .int .i64 dl, .bool dd, .int .u8 df]] w (Ret w (.int .i64 (okI (GJump.mk k ⟨ak, an, ⟨al, ad, af⟩⟩ fn nx el (argL n g) ⟨dl, dd, df⟩).ok))) := by
  unfold maxLen at hn
  rw [jokB_eq]
  obtain ⟨ga, hga⟩ : ∃ b, b = allN n fun i => (g i).ok := ⟨_, rfl⟩
  rw [← hga]
  refine go_start (args := [.pt (.agg [.int .u8 k, .int .u8 ak, .int .i64 an, .int .i64 al, .bool ad, .int .u8 af, .int .i64 fn, .int .i64 nx, .int .i64 el, .xs 0 0, .int .i64 dl, .bool dd, .int .u8 df])]) (c := (OneR A n cap 5 fun i => (g i).sc)) Try.func66 rfl hX rfl rfl ?_
  obtain ⟨nd, hnd⟩ : ∃ f : Bool → Bool → Bool, f = and := ⟨_, rfl⟩
  obtain ⟨nt, hnt⟩ : ∃ f : Bool → Bool, f = not := ⟨_, rfl⟩
  obtain ⟨ar, har⟩ : ∃ f : BinOp → IntKind → Int → Int → Int, f = rAr := ⟨_, rfl⟩
  obtain ⟨cm, hcm⟩ : ∃ f : BinOp → Int → Int → Bool, f = rCm := ⟨_, rfl⟩
  obtain ⟨mx, hmx⟩ : ∃ f : Int → Int → Int, f = rMx := ⟨_, rfl⟩
  obtain ⟨mn, hmn⟩ : ∃ f : Int → Int → Int, f = rMn := ⟨_, rfl⟩
  have ar01 : ar .add .i64 0 1 = 1 := by rw [har]; decide
  have ar12 : ar .add .i64 1 1 = 2 := by rw [har]; decide
  obtain ⟨zpl, hzpl⟩ : ∃ f : Nat → Nat → Nat, f = fun x y => x + y := ⟨_, rfl⟩
  obtain ⟨zjn, hzjn⟩ : ∃ f : Nat → (Nat → List SC) → (Nat → List SC) → Nat → List SC, f = rJn := ⟨_, rfl⟩
  obtain ⟨zup, hzup⟩ : ∃ f : (Nat → List SC) → Nat → Nat → List SC → Nat → List SC, f = rUp := ⟨_, rfl⟩
  obtain ⟨zmi, hzmi⟩ : ∃ f : Nat → Nat → Nat, f = fun x y => x - y := ⟨_, rfl⟩
  obtain ⟨zdp, hzdp⟩ : ∃ f : Nat → (Nat → List SC) → Nat → List SC, f = rDp := ⟨_, rfl⟩
  have hT := T0_ok hnd hnt har hcm hmx hmn hzpl hzjn hzup hzmi hzdp
  by_cases h4 : k = 4
  · subst h4
    repeat' (first
      | ((with_reducible apply go_ev hT 400); (· (cbv; try rfl)); (fail_if_success with_reducible apply stuck_id))
      | ((with_reducible refine go_brt ?_ ?_); (· first | rfl | assumption | (rw [hcm]; decide)))
      | ((with_reducible refine go_brf ?_ ?_); (· first | rfl | assumption | (rw [hcm]; decide)))
      | ((with_reducible refine go_brnt hnt ?_ ?_); (· first | rfl | assumption))
      | ((with_reducible refine go_brnf hnt ?_ ?_); (· first | rfl | assumption))
      | (with_reducible refine go_brn hnt (fun h => ?_) (fun h => ?_))
      | (with_reducible refine go_brl hcm (fun hlt => ?_) (fun hge => ?_))
      | (with_reducible refine go_br (fun h => ?_) (fun h => ?_))
      | ((with_reducible apply go_ret_val hT); (· (cbv; try rfl)); (· (cbv; try rfl)))
      | ((with_reducible apply go_fin_val hT); (· (cbv; try rfl)); (· (cbv; try rfl)))
      | ((with_reducible apply go_draw); (· rfl); (· kernel_rfl); (· kernel_rfl))
      | ((with_reducible apply go_drawE); (· kernel_rfl))
      | (with_reducible refine go_fork ?_)
      | (with_reducible refine fork_cons ?_ ?_)
      | (with_reducible exact fork_nil)
      | ((with_reducible refine go_need ?_ ?_ ?_); (· first | omega | (simp only [Int.ofNat_eq_natCast]; omega)); (· first | omega | (simp only [Int.ofNat_eq_natCast]; omega)))
      | ((with_reducible refine go_ob ?_ ?_); (· first | trivial | (refine ⟨trivial, ?_⟩; omega) | (rw [hzpl]; refine ⟨trivial, ?_⟩; show _ + _ ≤ 1073741824; omega) | (rw [hzpl]; show _ + _ ≤ 1073741824; omega)))
      | ((with_reducible apply go_ret_rows hT); (· (cbv; try rfl)); (· (cbv; try rfl)); (· (cbv; (try simp only [true_and, and_true]); (try ((repeat' apply And.intro) <;> (first | trivial | rfl | decide ))))); (· (cbv; (try simp only [true_and, and_true]); (try ((repeat' apply And.intro) <;> (first | trivial | rfl | exact RowLe.rfl' _ ))))); (· rfl))
      | ((with_reducible apply go_fin_rows hT); (· (cbv; try rfl)); (· (cbv; try rfl)); (· (cbv; (try simp only [true_and, and_true]); (try ((repeat' apply And.intro) <;> (first | trivial | rfl | decide ))))); (· (cbv; (try simp only [true_and, and_true]); (try ((repeat' apply And.intro) <;> (first | trivial | rfl | exact RowLe.rfl' _ ))))); (· rfl))
      | ((with_reducible apply go_call_int (f := 62) (hf := Try.call62)); (· (cbv; try rfl)); (· intro wc hbc hxc; exact placeChkF _ _ _ wc); intro z hz)
      | ((with_reducible apply go_callq_int (f := 62) (hf := Try.call62)); (· (cbv; try rfl)); (· intro wc hbc hxc; exact placeChkF _ _ _ wc); intro z hz)
      | ((with_reducible apply go_call_int (f := 64) (hf := Try.call64)); (· (cbv; try rfl)); (· intro wc hbc hxc; exact operChkF _ _ _ _ _ wc); intro z hz)
      | ((with_reducible apply go_callq_int (f := 64) (hf := Try.call64)); (· (cbv; try rfl)); (· intro wc hbc hxc; exact operChkF _ _ _ _ _ wc); intro z hz)
      | ((with_reducible apply go_inline (f := 73) (hf := Try.func73) (hr := Try.results73) (hcall := Try.call73)); (· rfl); (· (cbv; try rfl)))
      | ((with_reducible refine go_loopk (σ := {i : Nat // i ≤ n ∧ ∀ j, j < i → (g j).ok = true}) [8, 9, 119, 120, 121, 122, 123, 124, 125, 126, 127] (fun x => [(118, .pt (.one (.int .i64 (.ofNat x.1))))]) (fun x => []) (fun x => []) (fun x => n - x.1) ⟨0, by omega, fun j hj => by omega⟩ ?_ ?_ ?_ ?_); (· (refine le_mk ?_ ?_ ?_ ?_ <;> (cbv; (try simp only [true_and, and_true]); (try ((repeat' apply And.intro) <;> (first | trivial | rfl | exact RowLe.rfl' _ | (rw [wrap_nat har _ (by omega)]))))))); (· (cbv; try rfl)); (· simp); (rintro ⟨i, hi, hok⟩ mm hmm))
      | ((with_reducible refine go_stop ⟨i + 1, by omega, all_succ hok (okI_inv hz h)⟩ ?_ ?_ ?_ ?_); (· exact Nat.lt_of_lt_of_eq (show n - (i + 1) < n - i from by omega) (Eq.symm (by assumption))); (· (refine le_mk ?_ ?_ ?_ ?_ <;> (cbv; (try simp only [true_and, and_true]); (try ((repeat' apply And.intro) <;> (first | trivial | rfl | exact RowLe.rfl' _ | (rw [wrap_nat har _ (by omega)]))))))); (· (cbv; try rfl)); (· simp))
      )
    all_goals (first | have hgb := hga.trans (allN_false (p := fun i => (g i).ok) hlt (okI_inv' hz h)) | have hgb := hga.trans ((allN_iff (p := fun i => (g i).ok)).2 (fun j hj => hok j (by omega))) | skip)
    all_goals (refine int_eq ?_; clear ar01 ar12 hT hX hga; subst hnd hnt hmx hmn har hcm)
    all_goals try (grind [jokB, okI, rCm, blk, GOper.eqB, GPlace.eqB, GPlace.zero, GOper.zero])
    all_goals trace_state
  by_cases h2 : k = 2
  · subst h2
    repeat' (first
      | ((with_reducible apply go_ev hT 400); (· (cbv; try rfl)); (fail_if_success with_reducible apply stuck_id))
      | ((with_reducible refine go_brt ?_ ?_); (· first | rfl | assumption | (rw [hcm]; decide)))
      | ((with_reducible refine go_brf ?_ ?_); (· first | rfl | assumption | (rw [hcm]; decide)))
      | ((with_reducible refine go_brnt hnt ?_ ?_); (· first | rfl | assumption))
      | ((with_reducible refine go_brnf hnt ?_ ?_); (· first | rfl | assumption))
      | (with_reducible refine go_brn hnt (fun h => ?_) (fun h => ?_))
      | (with_reducible refine go_brl hcm (fun hlt => ?_) (fun hge => ?_))
      | (with_reducible refine go_br (fun h => ?_) (fun h => ?_))
      | ((with_reducible apply go_ret_val hT); (· (cbv; try rfl)); (· (cbv; try rfl)))
      | ((with_reducible apply go_fin_val hT); (· (cbv; try rfl)); (· (cbv; try rfl)))
      | ((with_reducible apply go_draw); (· rfl); (· kernel_rfl); (· kernel_rfl))
      | ((with_reducible apply go_drawE); (· kernel_rfl))
      | (with_reducible refine go_fork ?_)
      | (with_reducible refine fork_cons ?_ ?_)
      | (with_reducible exact fork_nil)
      | ((with_reducible refine go_need ?_ ?_ ?_); (· first | omega | (simp only [Int.ofNat_eq_natCast]; omega)); (· first | omega | (simp only [Int.ofNat_eq_natCast]; omega)))
      | ((with_reducible refine go_ob ?_ ?_); (· first | trivial | (refine ⟨trivial, ?_⟩; omega) | (rw [hzpl]; refine ⟨trivial, ?_⟩; show _ + _ ≤ 1073741824; omega) | (rw [hzpl]; show _ + _ ≤ 1073741824; omega)))
      | ((with_reducible apply go_ret_rows hT); (· (cbv; try rfl)); (· (cbv; try rfl)); (· (cbv; (try simp only [true_and, and_true]); (try ((repeat' apply And.intro) <;> (first | trivial | rfl | decide ))))); (· (cbv; (try simp only [true_and, and_true]); (try ((repeat' apply And.intro) <;> (first | trivial | rfl | exact RowLe.rfl' _ ))))); (· rfl))
      | ((with_reducible apply go_fin_rows hT); (· (cbv; try rfl)); (· (cbv; try rfl)); (· (cbv; (try simp only [true_and, and_true]); (try ((repeat' apply And.intro) <;> (first | trivial | rfl | decide ))))); (· (cbv; (try simp only [true_and, and_true]); (try ((repeat' apply And.intro) <;> (first | trivial | rfl | exact RowLe.rfl' _ ))))); (· rfl))
      | ((with_reducible apply go_call_int (f := 62) (hf := Try.call62)); (· (cbv; try rfl)); (· intro wc hbc hxc; exact placeChkF _ _ _ wc); intro z hz)
      | ((with_reducible apply go_callq_int (f := 62) (hf := Try.call62)); (· (cbv; try rfl)); (· intro wc hbc hxc; exact placeChkF _ _ _ wc); intro z hz)
      | ((with_reducible apply go_call_int (f := 64) (hf := Try.call64)); (· (cbv; try rfl)); (· intro wc hbc hxc; exact operChkF _ _ _ _ _ wc); intro z hz)
      | ((with_reducible apply go_callq_int (f := 64) (hf := Try.call64)); (· (cbv; try rfl)); (· intro wc hbc hxc; exact operChkF _ _ _ _ _ wc); intro z hz)
      | ((with_reducible apply go_inline (f := 73) (hf := Try.func73) (hr := Try.results73) (hcall := Try.call73)); (· rfl); (· (cbv; try rfl)))
      | ((with_reducible refine go_loopk (σ := {i : Nat // i ≤ n ∧ ∀ j, j < i → (g j).ok = true}) [8, 9, 119, 120, 121, 122, 123, 124, 125, 126, 127] (fun x => [(118, .pt (.one (.int .i64 (.ofNat x.1))))]) (fun x => []) (fun x => []) (fun x => n - x.1) ⟨0, by omega, fun j hj => by omega⟩ ?_ ?_ ?_ ?_); (· (refine le_mk ?_ ?_ ?_ ?_ <;> (cbv; (try simp only [true_and, and_true]); (try ((repeat' apply And.intro) <;> (first | trivial | rfl | exact RowLe.rfl' _ | (rw [wrap_nat har _ (by omega)]))))))); (· (cbv; try rfl)); (· simp); (rintro ⟨i, hi, hok⟩ mm hmm))
      | ((with_reducible refine go_stop ⟨i + 1, by omega, all_succ hok (okI_inv hz h)⟩ ?_ ?_ ?_ ?_); (· exact Nat.lt_of_lt_of_eq (show n - (i + 1) < n - i from by omega) (Eq.symm (by assumption))); (· (refine le_mk ?_ ?_ ?_ ?_ <;> (cbv; (try simp only [true_and, and_true]); (try ((repeat' apply And.intro) <;> (first | trivial | rfl | exact RowLe.rfl' _ | (rw [wrap_nat har _ (by omega)]))))))); (· (cbv; try rfl)); (· simp))
      )
    all_goals (first | have hgb := hga.trans (allN_false (p := fun i => (g i).ok) hlt (okI_inv' hz h)) | have hgb := hga.trans ((allN_iff (p := fun i => (g i).ok)).2 (fun j hj => hok j (by omega))) | skip)
    all_goals (refine int_eq ?_; clear ar01 ar12 hT hX hga; subst hnd hnt hmx hmn har hcm)
    all_goals try (grind [jokB, okI, rCm, blk, GOper.eqB, GPlace.eqB, GPlace.zero, GOper.zero])
    all_goals trace_state
  by_cases h1 : k = 1
  · subst h1
    repeat' (first
      | ((with_reducible apply go_ev hT 400); (· (cbv; try rfl)); (fail_if_success with_reducible apply stuck_id))
      | ((with_reducible refine go_brt ?_ ?_); (· first | rfl | assumption | (rw [hcm]; decide)))
      | ((with_reducible refine go_brf ?_ ?_); (· first | rfl | assumption | (rw [hcm]; decide)))
      | ((with_reducible refine go_brnt hnt ?_ ?_); (· first | rfl | assumption))
      | ((with_reducible refine go_brnf hnt ?_ ?_); (· first | rfl | assumption))
      | (with_reducible refine go_brn hnt (fun h => ?_) (fun h => ?_))
      | (with_reducible refine go_brl hcm (fun hlt => ?_) (fun hge => ?_))
      | (with_reducible refine go_br (fun h => ?_) (fun h => ?_))
      | ((with_reducible apply go_ret_val hT); (· (cbv; try rfl)); (· (cbv; try rfl)))
      | ((with_reducible apply go_fin_val hT); (· (cbv; try rfl)); (· (cbv; try rfl)))
      | ((with_reducible apply go_draw); (· rfl); (· kernel_rfl); (· kernel_rfl))
      | ((with_reducible apply go_drawE); (· kernel_rfl))
      | (with_reducible refine go_fork ?_)
      | (with_reducible refine fork_cons ?_ ?_)
      | (with_reducible exact fork_nil)
      | ((with_reducible refine go_need ?_ ?_ ?_); (· first | omega | (simp only [Int.ofNat_eq_natCast]; omega)); (· first | omega | (simp only [Int.ofNat_eq_natCast]; omega)))
      | ((with_reducible refine go_ob ?_ ?_); (· first | trivial | (refine ⟨trivial, ?_⟩; omega) | (rw [hzpl]; refine ⟨trivial, ?_⟩; show _ + _ ≤ 1073741824; omega) | (rw [hzpl]; show _ + _ ≤ 1073741824; omega)))
      | ((with_reducible apply go_ret_rows hT); (· (cbv; try rfl)); (· (cbv; try rfl)); (· (cbv; (try simp only [true_and, and_true]); (try ((repeat' apply And.intro) <;> (first | trivial | rfl | decide ))))); (· (cbv; (try simp only [true_and, and_true]); (try ((repeat' apply And.intro) <;> (first | trivial | rfl | exact RowLe.rfl' _ ))))); (· rfl))
      | ((with_reducible apply go_fin_rows hT); (· (cbv; try rfl)); (· (cbv; try rfl)); (· (cbv; (try simp only [true_and, and_true]); (try ((repeat' apply And.intro) <;> (first | trivial | rfl | decide ))))); (· (cbv; (try simp only [true_and, and_true]); (try ((repeat' apply And.intro) <;> (first | trivial | rfl | exact RowLe.rfl' _ ))))); (· rfl))
      | ((with_reducible apply go_call_int (f := 62) (hf := Try.call62)); (· (cbv; try rfl)); (· intro wc hbc hxc; exact placeChkF _ _ _ wc); intro z hz)
      | ((with_reducible apply go_callq_int (f := 62) (hf := Try.call62)); (· (cbv; try rfl)); (· intro wc hbc hxc; exact placeChkF _ _ _ wc); intro z hz)
      | ((with_reducible apply go_call_int (f := 64) (hf := Try.call64)); (· (cbv; try rfl)); (· intro wc hbc hxc; exact operChkF _ _ _ _ _ wc); intro z hz)
      | ((with_reducible apply go_callq_int (f := 64) (hf := Try.call64)); (· (cbv; try rfl)); (· intro wc hbc hxc; exact operChkF _ _ _ _ _ wc); intro z hz)
      | ((with_reducible apply go_inline (f := 73) (hf := Try.func73) (hr := Try.results73) (hcall := Try.call73)); (· rfl); (· (cbv; try rfl)))
      | ((with_reducible refine go_loopk (σ := {i : Nat // i ≤ n ∧ ∀ j, j < i → (g j).ok = true}) [8, 9, 119, 120, 121, 122, 123, 124, 125, 126, 127] (fun x => [(118, .pt (.one (.int .i64 (.ofNat x.1))))]) (fun x => []) (fun x => []) (fun x => n - x.1) ⟨0, by omega, fun j hj => by omega⟩ ?_ ?_ ?_ ?_); (· (refine le_mk ?_ ?_ ?_ ?_ <;> (cbv; (try simp only [true_and, and_true]); (try ((repeat' apply And.intro) <;> (first | trivial | rfl | exact RowLe.rfl' _ | (rw [wrap_nat har _ (by omega)]))))))); (· (cbv; try rfl)); (· simp); (rintro ⟨i, hi, hok⟩ mm hmm))
      | ((with_reducible refine go_stop ⟨i + 1, by omega, all_succ hok (okI_inv hz h)⟩ ?_ ?_ ?_ ?_); (· exact Nat.lt_of_lt_of_eq (show n - (i + 1) < n - i from by omega) (Eq.symm (by assumption))); (· (refine le_mk ?_ ?_ ?_ ?_ <;> (cbv; (try simp only [true_and, and_true]); (try ((repeat' apply And.intro) <;> (first | trivial | rfl | exact RowLe.rfl' _ | (rw [wrap_nat har _ (by omega)]))))))); (· (cbv; try rfl)); (· simp))
      )
    all_goals (first | have hgb := hga.trans (allN_false (p := fun i => (g i).ok) hlt (okI_inv' hz h)) | have hgb := hga.trans ((allN_iff (p := fun i => (g i).ok)).2 (fun j hj => hok j (by omega))) | skip)
    all_goals (refine int_eq ?_; clear ar01 ar12 hT hX hga; subst hnd hnt hmx hmn har hcm)
    all_goals try (grind [jokB, okI, rCm, blk, GOper.eqB, GPlace.eqB, GPlace.zero, GOper.zero])
    all_goals trace_state
  by_cases h3 : k = 3
  · subst h3
    repeat' (first
      | ((with_reducible apply go_ev hT 400); (· (cbv; try rfl)); (fail_if_success with_reducible apply stuck_id))
      | ((with_reducible refine go_brt ?_ ?_); (· first | rfl | assumption | (rw [hcm]; decide)))
      | ((with_reducible refine go_brf ?_ ?_); (· first | rfl | assumption | (rw [hcm]; decide)))
      | ((with_reducible refine go_brnt hnt ?_ ?_); (· first | rfl | assumption))
      | ((with_reducible refine go_brnf hnt ?_ ?_); (· first | rfl | assumption))
      | (with_reducible refine go_brn hnt (fun h => ?_) (fun h => ?_))
      | (with_reducible refine go_brl hcm (fun hlt => ?_) (fun hge => ?_))
      | (with_reducible refine go_br (fun h => ?_) (fun h => ?_))
      | ((with_reducible apply go_ret_val hT); (· (cbv; try rfl)); (· (cbv; try rfl)))
      | ((with_reducible apply go_fin_val hT); (· (cbv; try rfl)); (· (cbv; try rfl)))
      | ((with_reducible apply go_draw); (· rfl); (· kernel_rfl); (· kernel_rfl))
      | ((with_reducible apply go_drawE); (· kernel_rfl))
      | (with_reducible refine go_fork ?_)
      | (with_reducible refine fork_cons ?_ ?_)
      | (with_reducible exact fork_nil)
      | ((with_reducible refine go_need ?_ ?_ ?_); (· first | omega | (simp only [Int.ofNat_eq_natCast]; omega)); (· first | omega | (simp only [Int.ofNat_eq_natCast]; omega)))
      | ((with_reducible refine go_ob ?_ ?_); (· first | trivial | (refine ⟨trivial, ?_⟩; omega) | (rw [hzpl]; refine ⟨trivial, ?_⟩; show _ + _ ≤ 1073741824; omega) | (rw [hzpl]; show _ + _ ≤ 1073741824; omega)))
      | ((with_reducible apply go_ret_rows hT); (· (cbv; try rfl)); (· (cbv; try rfl)); (· (cbv; (try simp only [true_and, and_true]); (try ((repeat' apply And.intro) <;> (first | trivial | rfl | decide ))))); (· (cbv; (try simp only [true_and, and_true]); (try ((repeat' apply And.intro) <;> (first | trivial | rfl | exact RowLe.rfl' _ ))))); (· rfl))
      | ((with_reducible apply go_fin_rows hT); (· (cbv; try rfl)); (· (cbv; try rfl)); (· (cbv; (try simp only [true_and, and_true]); (try ((repeat' apply And.intro) <;> (first | trivial | rfl | decide ))))); (· (cbv; (try simp only [true_and, and_true]); (try ((repeat' apply And.intro) <;> (first | trivial | rfl | exact RowLe.rfl' _ ))))); (· rfl))
      | ((with_reducible apply go_call_int (f := 62) (hf := Try.call62)); (· (cbv; try rfl)); (· intro wc hbc hxc; exact placeChkF _ _ _ wc); intro z hz)
      | ((with_reducible apply go_callq_int (f := 62) (hf := Try.call62)); (· (cbv; try rfl)); (· intro wc hbc hxc; exact placeChkF _ _ _ wc); intro z hz)
      | ((with_reducible apply go_call_int (f := 64) (hf := Try.call64)); (· (cbv; try rfl)); (· intro wc hbc hxc; exact operChkF _ _ _ _ _ wc); intro z hz)
      | ((with_reducible apply go_callq_int (f := 64) (hf := Try.call64)); (· (cbv; try rfl)); (· intro wc hbc hxc; exact operChkF _ _ _ _ _ wc); intro z hz)
      | ((with_reducible apply go_inline (f := 73) (hf := Try.func73) (hr := Try.results73) (hcall := Try.call73)); (· rfl); (· (cbv; try rfl)))
      | ((with_reducible refine go_loopk (σ := {i : Nat // i ≤ n ∧ ∀ j, j < i → (g j).ok = true}) [8, 9, 119, 120, 121, 122, 123, 124, 125, 126, 127] (fun x => [(118, .pt (.one (.int .i64 (.ofNat x.1))))]) (fun x => []) (fun x => []) (fun x => n - x.1) ⟨0, by omega, fun j hj => by omega⟩ ?_ ?_ ?_ ?_); (· (refine le_mk ?_ ?_ ?_ ?_ <;> (cbv; (try simp only [true_and, and_true]); (try ((repeat' apply And.intro) <;> (first | trivial | rfl | exact RowLe.rfl' _ | (rw [wrap_nat har _ (by omega)]))))))); (· (cbv; try rfl)); (· simp); (rintro ⟨i, hi, hok⟩ mm hmm))
      | ((with_reducible refine go_stop ⟨i + 1, by omega, all_succ hok (okI_inv hz h)⟩ ?_ ?_ ?_ ?_); (· exact Nat.lt_of_lt_of_eq (show n - (i + 1) < n - i from by omega) (Eq.symm (by assumption))); (· (refine le_mk ?_ ?_ ?_ ?_ <;> (cbv; (try simp only [true_and, and_true]); (try ((repeat' apply And.intro) <;> (first | trivial | rfl | exact RowLe.rfl' _ | (rw [wrap_nat har _ (by omega)]))))))); (· (cbv; try rfl)); (· simp))
      )
    all_goals (first | have hgb := hga.trans (allN_false (p := fun i => (g i).ok) hlt (okI_inv' hz h)) | have hgb := hga.trans ((allN_iff (p := fun i => (g i).ok)).2 (fun j hj => hok j (by omega))) | skip)
    all_goals (refine int_eq ?_; clear ar01 ar12 hT hX hga; subst hnd hnt hmx hmn har hcm)
    all_goals try (grind [jokB, okI, rCm, blk, GOper.eqB, GPlace.eqB, GPlace.zero, GOper.zero])
    all_goals trace_state
  by_cases h5 : k = 5
  · subst h5
    repeat' (first
      | ((with_reducible apply go_ev hT 400); (· (cbv; try rfl)); (fail_if_success with_reducible apply stuck_id))
      | ((with_reducible refine go_brt ?_ ?_); (· first | rfl | assumption | (rw [hcm]; decide)))
      | ((with_reducible refine go_brf ?_ ?_); (· first | rfl | assumption | (rw [hcm]; decide)))
      | ((with_reducible refine go_brnt hnt ?_ ?_); (· first | rfl | assumption))
      | ((with_reducible refine go_brnf hnt ?_ ?_); (· first | rfl | assumption))
      | (with_reducible refine go_brn hnt (fun h => ?_) (fun h => ?_))
      | (with_reducible refine go_brl hcm (fun hlt => ?_) (fun hge => ?_))
      | (with_reducible refine go_br (fun h => ?_) (fun h => ?_))
      | ((with_reducible apply go_ret_val hT); (· (cbv; try rfl)); (· (cbv; try rfl)))
      | ((with_reducible apply go_fin_val hT); (· (cbv; try rfl)); (· (cbv; try rfl)))
      | ((with_reducible apply go_draw); (· rfl); (· kernel_rfl); (· kernel_rfl))
      | ((with_reducible apply go_drawE); (· kernel_rfl))
      | (with_reducible refine go_fork ?_)
      | (with_reducible refine fork_cons ?_ ?_)
      | (with_reducible exact fork_nil)
      | ((with_reducible refine go_need ?_ ?_ ?_); (· first | omega | (simp only [Int.ofNat_eq_natCast]; omega)); (· first | omega | (simp only [Int.ofNat_eq_natCast]; omega)))
      | ((with_reducible refine go_ob ?_ ?_); (· first | trivial | (refine ⟨trivial, ?_⟩; omega) | (rw [hzpl]; refine ⟨trivial, ?_⟩; show _ + _ ≤ 1073741824; omega) | (rw [hzpl]; show _ + _ ≤ 1073741824; omega)))
      | ((with_reducible apply go_ret_rows hT); (· (cbv; try rfl)); (· (cbv; try rfl)); (· (cbv; (try simp only [true_and, and_true]); (try ((repeat' apply And.intro) <;> (first | trivial | rfl | decide ))))); (· (cbv; (try simp only [true_and, and_true]); (try ((repeat' apply And.intro) <;> (first | trivial | rfl | exact RowLe.rfl' _ ))))); (· rfl))
      | ((with_reducible apply go_fin_rows hT); (· (cbv; try rfl)); (· (cbv; try rfl)); (· (cbv; (try simp only [true_and, and_true]); (try ((repeat' apply And.intro) <;> (first | trivial | rfl | decide ))))); (· (cbv; (try simp only [true_and, and_true]); (try ((repeat' apply And.intro) <;> (first | trivial | rfl | exact RowLe.rfl' _ ))))); (· rfl))
      | ((with_reducible apply go_call_int (f := 62) (hf := Try.call62)); (· (cbv; try rfl)); (· intro wc hbc hxc; exact placeChkF _ _ _ wc); intro z hz)
      | ((with_reducible apply go_callq_int (f := 62) (hf := Try.call62)); (· (cbv; try rfl)); (· intro wc hbc hxc; exact placeChkF _ _ _ wc); intro z hz)
      | ((with_reducible apply go_call_int (f := 64) (hf := Try.call64)); (· (cbv; try rfl)); (· intro wc hbc hxc; exact operChkF _ _ _ _ _ wc); intro z hz)
      | ((with_reducible apply go_callq_int (f := 64) (hf := Try.call64)); (· (cbv; try rfl)); (· intro wc hbc hxc; exact operChkF _ _ _ _ _ wc); intro z hz)
      | ((with_reducible apply go_inline (f := 73) (hf := Try.func73) (hr := Try.results73) (hcall := Try.call73)); (· rfl); (· (cbv; try rfl)))
      | ((with_reducible refine go_loopk (σ := {i : Nat // i ≤ n ∧ ∀ j, j < i → (g j).ok = true}) [8, 9, 119, 120, 121, 122, 123, 124, 125, 126, 127] (fun x => [(118, .pt (.one (.int .i64 (.ofNat x.1))))]) (fun x => []) (fun x => []) (fun x => n - x.1) ⟨0, by omega, fun j hj => by omega⟩ ?_ ?_ ?_ ?_); (· (refine le_mk ?_ ?_ ?_ ?_ <;> (cbv; (try simp only [true_and, and_true]); (try ((repeat' apply And.intro) <;> (first | trivial | rfl | exact RowLe.rfl' _ | (rw [wrap_nat har _ (by omega)]))))))); (· (cbv; try rfl)); (· simp); (rintro ⟨i, hi, hok⟩ mm hmm))
      | ((with_reducible refine go_stop ⟨i + 1, by omega, all_succ hok (okI_inv hz h)⟩ ?_ ?_ ?_ ?_); (· exact Nat.lt_of_lt_of_eq (show n - (i + 1) < n - i from by omega) (Eq.symm (by assumption))); (· (refine le_mk ?_ ?_ ?_ ?_ <;> (cbv; (try simp only [true_and, and_true]); (try ((repeat' apply And.intro) <;> (first | trivial | rfl | exact RowLe.rfl' _ | (rw [wrap_nat har _ (by omega)]))))))); (· (cbv; try rfl)); (· simp))
      )
    all_goals (first | have hgb := hga.trans (allN_false (p := fun i => (g i).ok) hlt (okI_inv' hz h)) | have hgb := hga.trans ((allN_iff (p := fun i => (g i).ok)).2 (fun j hj => hok j (by omega))) | skip)
    all_goals (refine int_eq ?_; clear ar01 ar12 hT hX hga; subst hnd hnt hmx hmn har hcm)
    all_goals try (grind [jokB, okI, rCm, blk, GOper.eqB, GPlace.eqB, GPlace.zero, GOper.zero])
    all_goals trace_state
  have q4 : decide (k = 4) = false := by simpa using h4
  have q2 : decide (k = 2) = false := by simpa using h2
  have q1 : decide (k = 1) = false := by simpa using h1
  have q3 : decide (k = 3) = false := by simpa using h3
  have q5 : decide (k = 5) = false := by simpa using h5
  repeat' (first
    | ((with_reducible apply go_ev hT 400); (· (cbv; try rfl)); (fail_if_success with_reducible apply stuck_id))
    | ((with_reducible refine go_brt ?_ ?_); (· first | rfl | assumption | (rw [hcm]; decide)))
    | ((with_reducible refine go_brf ?_ ?_); (· first | rfl | assumption | (rw [hcm]; decide)))
    | ((with_reducible refine go_brnt hnt ?_ ?_); (· first | rfl | assumption))
    | ((with_reducible refine go_brnf hnt ?_ ?_); (· first | rfl | assumption))
    | (with_reducible refine go_brn hnt (fun h => ?_) (fun h => ?_))
    | (with_reducible refine go_brl hcm (fun hlt => ?_) (fun hge => ?_))
    | (with_reducible refine go_br (fun h => ?_) (fun h => ?_))
    | ((with_reducible apply go_ret_val hT); (· (cbv; try rfl)); (· (cbv; try rfl)))
    | ((with_reducible apply go_fin_val hT); (· (cbv; try rfl)); (· (cbv; try rfl)))
    | ((with_reducible apply go_draw); (· rfl); (· kernel_rfl); (· kernel_rfl))
    | ((with_reducible apply go_drawE); (· kernel_rfl))
    | (with_reducible refine go_fork ?_)
    | (with_reducible refine fork_cons ?_ ?_)
    | (with_reducible exact fork_nil)
    | ((with_reducible refine go_need ?_ ?_ ?_); (· first | omega | (simp only [Int.ofNat_eq_natCast]; omega)); (· first | omega | (simp only [Int.ofNat_eq_natCast]; omega)))
    | ((with_reducible refine go_ob ?_ ?_); (· first | trivial | (refine ⟨trivial, ?_⟩; omega) | (rw [hzpl]; refine ⟨trivial, ?_⟩; show _ + _ ≤ 1073741824; omega) | (rw [hzpl]; show _ + _ ≤ 1073741824; omega)))
    | ((with_reducible apply go_ret_rows hT); (· (cbv; try rfl)); (· (cbv; try rfl)); (· (cbv; (try simp only [true_and, and_true]); (try ((repeat' apply And.intro) <;> (first | trivial | rfl | decide ))))); (· (cbv; (try simp only [true_and, and_true]); (try ((repeat' apply And.intro) <;> (first | trivial | rfl | exact RowLe.rfl' _ ))))); (· rfl))
    | ((with_reducible apply go_fin_rows hT); (· (cbv; try rfl)); (· (cbv; try rfl)); (· (cbv; (try simp only [true_and, and_true]); (try ((repeat' apply And.intro) <;> (first | trivial | rfl | decide ))))); (· (cbv; (try simp only [true_and, and_true]); (try ((repeat' apply And.intro) <;> (first | trivial | rfl | exact RowLe.rfl' _ ))))); (· rfl))
    | ((with_reducible apply go_call_int (f := 62) (hf := Try.call62)); (· (cbv; try rfl)); (· intro wc hbc hxc; exact placeChkF _ _ _ wc); intro z hz)
    | ((with_reducible apply go_callq_int (f := 62) (hf := Try.call62)); (· (cbv; try rfl)); (· intro wc hbc hxc; exact placeChkF _ _ _ wc); intro z hz)
    | ((with_reducible apply go_call_int (f := 64) (hf := Try.call64)); (· (cbv; try rfl)); (· intro wc hbc hxc; exact operChkF _ _ _ _ _ wc); intro z hz)
    | ((with_reducible apply go_callq_int (f := 64) (hf := Try.call64)); (· (cbv; try rfl)); (· intro wc hbc hxc; exact operChkF _ _ _ _ _ wc); intro z hz)
    | ((with_reducible apply go_inline (f := 73) (hf := Try.func73) (hr := Try.results73) (hcall := Try.call73)); (· rfl); (· (cbv; try rfl)))
    | ((with_reducible refine go_loopk (σ := {i : Nat // i ≤ n ∧ ∀ j, j < i → (g j).ok = true}) [8, 9, 119, 120, 121, 122, 123, 124, 125, 126, 127] (fun x => [(118, .pt (.one (.int .i64 (.ofNat x.1))))]) (fun x => []) (fun x => []) (fun x => n - x.1) ⟨0, by omega, fun j hj => by omega⟩ ?_ ?_ ?_ ?_); (· (refine le_mk ?_ ?_ ?_ ?_ <;> (cbv; (try simp only [true_and, and_true]); (try ((repeat' apply And.intro) <;> (first | trivial | rfl | exact RowLe.rfl' _ | (rw [wrap_nat har _ (by omega)]))))))); (· (cbv; try rfl)); (· simp); (rintro ⟨i, hi, hok⟩ mm hmm))
    | ((with_reducible refine go_stop ⟨i + 1, by omega, all_succ hok (okI_inv hz h)⟩ ?_ ?_ ?_ ?_); (· exact Nat.lt_of_lt_of_eq (show n - (i + 1) < n - i from by omega) (Eq.symm (by assumption))); (· (refine le_mk ?_ ?_ ?_ ?_ <;> (cbv; (try simp only [true_and, and_true]); (try ((repeat' apply And.intro) <;> (first | trivial | rfl | exact RowLe.rfl' _ | (rw [wrap_nat har _ (by omega)]))))))); (· (cbv; try rfl)); (· simp))
    )
  all_goals (first | have hgb := hga.trans (allN_false (p := fun i => (g i).ok) hlt (okI_inv' hz h)) | have hgb := hga.trans ((allN_iff (p := fun i => (g i).ok)).2 (fun j hj => hok j (by omega))) | skip)
  all_goals (refine int_eq ?_; clear ar01 ar12 hT hX hga; subst hnd hnt hmx hmn har hcm)
  all_goals try (grind [jokB, okI, rCm, blk, GOper.eqB, GPlace.eqB, GPlace.zero, GOper.zero])
  all_goals trace_state

end Go.Proofs.Ytbimggeapaaliaa
