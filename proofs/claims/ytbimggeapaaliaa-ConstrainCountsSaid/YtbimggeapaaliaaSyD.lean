/- Layer 7 of the program: functions as they lie in memory; too large, the head. No condition. -/
import Derived.Test.YtbimggeapaaliaaSyC
namespace Go.Proofs.Ytbimggeapaaliaa
open Go.RowKit
set_option linter.unusedVariables false
set_option linter.unusedSimpArgs false

/-- A function, as it lies in memory. -/

structure GFun where
  pa : Int
  un : Bool
  lA : Option Addr
  ln : Nat
  lc : Nat
  lk : Nat → Int
  lt : Nat → Int
  bA : Option Addr
  bn : Nat
  bc : Nat
  sA : Nat → Option Addr
  sn : Nat → Nat
  sc : Nat → Nat
  s : Nat → Nat → GStmt
  jA : Nat → Option Addr
  jn : Nat → Nat
  jc : Nat → Nat
  ja : Nat → Nat → GOper
  jk : Nat → Int
  jo : Nat → GOper
  jf : Nat → Int
  jx : Nat → Int
  je : Nat → Int
  jd : Nat → GPlace
def GFun.val (F : GFun) : Value := .agg #[.int .i64 F.pa, .bool F.un, .slice F.lA F.ln F.lc, .slice F.bA F.bn F.bc]
def GFun.dat (F : GFun) : List SC := [.int .i64 F.pa, .bool F.un, .xs 0 0, .xs 1 0]
def GFun.blkC (F : GFun) (b : Nat) : List SC := [.xs 2 b, .int .u8 (F.jk b), .int .u8 (F.jo b).k, .int .i64 (F.jo b).n, .int .i64 (F.jo b).p.l, .bool (F.jo b).p.d, .int .u8 (F.jo b).p.f, .int .i64 (F.jf b), .int .i64 (F.jx b), .int .i64 (F.je b), .xs 3 b, .int .i64 (F.jd b).l, .bool (F.jd b).d, .int .u8 (F.jd b).f]
def funX (F : GFun) : Nat → Nat → Row
  | 0, _ => ⟨F.lA, F.ln, F.lc, 2, fun i => [.int .u8 (F.lk i), .int .u8 (F.lt i)]⟩
  | 1, _ => ⟨F.bA, F.bn, F.bc, 14, fun b => F.blkC b⟩
  | 2, b => ⟨F.sA b, F.sn b, F.sc b, 26, fun i => (F.s b i).sc⟩
  | _, b => ⟨F.jA b, F.jn b, F.jc b, 5, fun i => (F.ja b i).sc⟩
/-- Its memory is as it says, and its rows are no longer than rows can be. -/
structure GFun.At (F : GFun) (w : World) : Prop where
  ok : XOk ⟨[], funX F, []⟩ ⟨w, []⟩
  l : F.ln ≤ 9223372036854775807
  b : F.bn ≤ 9223372036854775807
  s : ∀ b, F.sn b ≤ 9223372036854775807
  j : ∀ b, F.jn b ≤ 9223372036854775807
theorem GFun.At.later {F : GFun} {w w' : World} (h : F.At w) (hb : KB ⟨w, []⟩ w') : F.At w' :=
  ⟨XOk.at (e := ⟨[], funX F, []⟩) [] h.ok hb (fun b hb => by simp at hb), h.l, h.b, h.s, h.j⟩
/-- The jump of a block. -/
def GFun.jump (F : GFun) (b : Nat) : GJump := ⟨F.jk b, F.jo b, F.jf b, F.jx b, F.je b, argL (F.jn b) (F.ja b), F.jd b⟩

/-! What layer 2 says of types. -/
def tyOk (k t : Int) : Bool := ((k == 1 || k == 2) && t == 0) || (decide (3 ≤ k) && decide (k ≤ 5) && (t == 1 || t == 2))

set_option maxRecDepth 100000 in
theorem typChk (k t : Int) (w : World) :
    Calls Try.prog 60 #[.agg #[.int .u8 k, .int .u8 t]] w (Ret w (.int .i64 (okI (tyOk k t)))) := by
  refine go_start (args := [.pt (.agg [.int .u8 k, .int .u8 t])]) (c := NoRows) Try.func60 rfl (noRows_ok _) rfl rfl ?_
  obtain ⟨nd, hnd⟩ : ∃ f : Bool → Bool → Bool, f = and := ⟨_, rfl⟩
  obtain ⟨nt, hnt⟩ : ∃ f : Bool → Bool, f = not := ⟨_, rfl⟩
  obtain ⟨ar, har⟩ : ∃ f : BinOp → IntKind → Int → Int → Int, f = rAr := ⟨_, rfl⟩
  obtain ⟨cm, hcm⟩ : ∃ f : BinOp → Int → Int → Bool, f = rCm := ⟨_, rfl⟩
  obtain ⟨mx, hmx⟩ : ∃ f : Int → Int → Int, f = rMx := ⟨_, rfl⟩
  obtain ⟨mn, hmn⟩ : ∃ f : Int → Int → Int, f = rMn := ⟨_, rfl⟩
  have ar01 : ar .add .i64 0 1 = 1 := by rw [har]; decide
  have ar12 : ar .add .i64 1 1 = 2 := by rw [har]; decide
  obtain ⟨zpl, hzpl⟩ : ∃ f : Nat → Nat → Nat, f = fun x y => x + y := ⟨_, rfl⟩
  obtain ⟨zjn, hzjn⟩ : ∃ f : Nat → (Nat → List SC) → (Nat → List SC) → Nat → List SC, f = rJn := ⟨_, rfl⟩
  obtain ⟨zup, hzup⟩ : ∃ f : (Nat → List SC) → Nat → Nat → List SC → Nat → List SC, f = rUp := ⟨_, rfl⟩
  obtain ⟨zmi, hzmi⟩ : ∃ f : Nat → Nat → Nat, f = fun x y => x - y := ⟨_, rfl⟩
  obtain ⟨zdp, hzdp⟩ : ∃ f : Nat → (Nat → List SC) → Nat → List SC, f = rDp := ⟨_, rfl⟩
  have hT := T0_ok hnd hnt har hcm hmx hmn hzpl hzjn hzup hzmi hzdp
  repeat' (first
    | ((with_reducible apply go_ev hT 400); (· (cbv; try rfl)); (fail_if_success with_reducible apply stuck_id))
    | ((with_reducible refine go_brt ?_ ?_); (· first | rfl | assumption | (rw [hcm]; decide)))
    | ((with_reducible refine go_brf ?_ ?_); (· first | rfl | assumption | (rw [hcm]; decide)))
    | ((with_reducible refine go_brnt hnt ?_ ?_); (· first | rfl | assumption))
    | ((with_reducible refine go_brnf hnt ?_ ?_); (· first | rfl | assumption))
    | (with_reducible refine go_brn hnt (fun h => ?_) (fun h => ?_))
    | (with_reducible refine go_brl hcm (fun hlt => ?_) (fun hge => ?_))
    | (with_reducible refine go_br (fun h => ?_) (fun h => ?_))
    | ((with_reducible apply go_ret_val hT); (· (cbv; try rfl)); (· (cbv; try rfl)))
    | ((with_reducible apply go_fin_val hT); (· (cbv; try rfl)); (· (cbv; try rfl)))
    | ((with_reducible apply go_draw); (· rfl); (· kernel_rfl); (· kernel_rfl))
    | ((with_reducible apply go_drawE); (· kernel_rfl))
    | (with_reducible refine go_fork ?_)
    | (with_reducible refine fork_cons ?_ ?_)
    | (with_reducible exact fork_nil)
    | ((with_reducible refine go_need ?_ ?_ ?_); (· first | omega | (simp only [Int.ofNat_eq_natCast]; omega)); (· first | omega | (simp only [Int.ofNat_eq_natCast]; omega)))
    | ((with_reducible refine go_ob ?_ ?_); (· first | trivial | (refine ⟨trivial, ?_⟩; omega) | (rw [hzpl]; refine ⟨trivial, ?_⟩; show _ + _ ≤ 1073741824; omega) | (rw [hzpl]; show _ + _ ≤ 1073741824; omega)))
    | ((with_reducible apply go_ret_rows hT); (· (cbv; try rfl)); (· (cbv; try rfl)); (· (cbv; (try simp only [true_and, and_true]); (try ((repeat' apply And.intro) <;> (first | trivial | rfl | decide ))))); (· (cbv; (try simp only [true_and, and_true]); (try ((repeat' apply And.intro) <;> (first | trivial | rfl | exact RowLe.rfl' _ ))))); (· rfl))
    | ((with_reducible apply go_fin_rows hT); (· (cbv; try rfl)); (· (cbv; try rfl)); (· (cbv; (try simp only [true_and, and_true]); (try ((repeat' apply And.intro) <;> (first | trivial | rfl | decide ))))); (· (cbv; (try simp only [true_and, and_true]); (try ((repeat' apply And.intro) <;> (first | trivial | rfl | exact RowLe.rfl' _ ))))); (· rfl))
    )
  all_goals
    subst hnd hnt hcm
    refine int_eq ?_
    grind [okI, tyOk, rCm]

theorem bool_eq {a b : Bool} (h : a = b) : Value.bool a = Value.bool b := by rw [h]

def largeB (F : GFun) : Bool := decide (16 < F.ln) || decide (24 < F.bn) || !(allN F.bn fun b => decide (F.sn b ≤ 24))

theorem gtr_lit {x m : Nat} {b : Bool} (h : rCm .gtr (.ofNat x) (.ofNat m) = b) : decide (x ≤ m) = !b := by
  subst h
  show _ = !decide ((m : Int) < (x : Int))
  by_cases h : x ≤ m <;> simp [h] <;> omega
set_option maxRecDepth 100000 in
set_option maxHeartbeats 4000000 in
theorem largeC (F : GFun) (w : World) (hF : F.At w) :
    Calls Try.prog 31 #[F.val] w (Ret w (.bool (largeB F))) := by
  obtain ⟨pa, un, lA, ln, lc, lk, lt, bA, bn, bc, sA, sn, sc, s, jA, jn, jc, ja, jk, jo, jf, jx, je, jd⟩ := F
  obtain ⟨hX, hl, hb, hs, hj⟩ := hF
  simp only at hl hb hs hj
  unfold largeB
  simp only
  obtain ⟨ga, hga⟩ : ∃ b, b = allN bn fun b => decide (sn b ≤ 24) := ⟨_, rfl⟩
  rw [← hga]
  refine go_start (args := [.pt (.agg (GFun.dat _))]) (c := (funX _)) Try.func31 rfl hX rfl rfl ?_
  obtain ⟨nd, hnd⟩ : ∃ f : Bool → Bool → Bool, f = and := ⟨_, rfl⟩
  obtain ⟨nt, hnt⟩ : ∃ f : Bool → Bool, f = not := ⟨_, rfl⟩
  obtain ⟨ar, har⟩ : ∃ f : BinOp → IntKind → Int → Int → Int, f = rAr := ⟨_, rfl⟩
  obtain ⟨cm, hcm⟩ : ∃ f : BinOp → Int → Int → Bool, f = rCm := ⟨_, rfl⟩
  obtain ⟨mx, hmx⟩ : ∃ f : Int → Int → Int, f = rMx := ⟨_, rfl⟩
  obtain ⟨mn, hmn⟩ : ∃ f : Int → Int → Int, f = rMn := ⟨_, rfl⟩
  have ar01 : ar .add .i64 0 1 = 1 := by rw [har]; decide
  have ar12 : ar .add .i64 1 1 = 2 := by rw [har]; decide
  obtain ⟨zpl, hzpl⟩ : ∃ f : Nat → Nat → Nat, f = fun x y => x + y := ⟨_, rfl⟩
  obtain ⟨zjn, hzjn⟩ : ∃ f : Nat → (Nat → List SC) → (Nat → List SC) → Nat → List SC, f = rJn := ⟨_, rfl⟩
  obtain ⟨zup, hzup⟩ : ∃ f : (Nat → List SC) → Nat → Nat → List SC → Nat → List SC, f = rUp := ⟨_, rfl⟩
  obtain ⟨zmi, hzmi⟩ : ∃ f : Nat → Nat → Nat, f = fun x y => x - y := ⟨_, rfl⟩
  obtain ⟨zdp, hzdp⟩ : ∃ f : Nat → (Nat → List SC) → Nat → List SC, f = rDp := ⟨_, rfl⟩
  have hT := T0_ok hnd hnt har hcm hmx hmn hzpl hzjn hzup hzmi hzdp
  repeat' (first
    | ((with_reducible apply go_ev hT 400); (· (cbv; try rfl)); (fail_if_success with_reducible apply stuck_id))
    | ((with_reducible refine go_brt ?_ ?_); (· first | rfl | assumption | (rw [hcm]; decide)))
    | ((with_reducible refine go_brf ?_ ?_); (· first | rfl | assumption | (rw [hcm]; decide)))
    | ((with_reducible refine go_brnt hnt ?_ ?_); (· first | rfl | assumption))
    | ((with_reducible refine go_brnf hnt ?_ ?_); (· first | rfl | assumption))
    | (with_reducible refine go_brn hnt (fun h => ?_) (fun h => ?_))
    | (with_reducible refine go_brl hcm (fun hlt => ?_) (fun hge => ?_))
    | (with_reducible refine go_br (fun h => ?_) (fun h => ?_))
    | ((with_reducible apply go_ret_val hT); (· (cbv; try rfl)); (· (cbv; try rfl)))
    | ((with_reducible apply go_fin_val hT); (· (cbv; try rfl)); (· (cbv; try rfl)))
    | ((with_reducible apply go_draw); (· rfl); (· kernel_rfl); (· kernel_rfl))
    | ((with_reducible apply go_drawE); (· kernel_rfl))
    | (with_reducible refine go_fork ?_)
    | (with_reducible refine fork_cons ?_ ?_)
    | (with_reducible exact fork_nil)
    | ((with_reducible refine go_need ?_ ?_ ?_); (· first | omega | (simp only [Int.ofNat_eq_natCast]; omega)); (· first | omega | (simp only [Int.ofNat_eq_natCast]; omega)))
    | ((with_reducible refine go_ob ?_ ?_); (· first | trivial | (refine ⟨trivial, ?_⟩; omega) | (rw [hzpl]; refine ⟨trivial, ?_⟩; show _ + _ ≤ 1073741824; omega) | (rw [hzpl]; show _ + _ ≤ 1073741824; omega)))
    | ((with_reducible apply go_ret_rows hT); (· (cbv; try rfl)); (· (cbv; try rfl)); (· (cbv; (try simp only [true_and, and_true]); (try ((repeat' apply And.intro) <;> (first | trivial | rfl | decide ))))); (· (cbv; (try simp only [true_and, and_true]); (try ((repeat' apply And.intro) <;> (first | trivial | rfl | exact RowLe.rfl' _ ))))); (· rfl))
    | ((with_reducible apply go_fin_rows hT); (· (cbv; try rfl)); (· (cbv; try rfl)); (· (cbv; (try simp only [true_and, and_true]); (try ((repeat' apply And.intro) <;> (first | trivial | rfl | decide ))))); (· (cbv; (try simp only [true_and, and_true]); (try ((repeat' apply And.intro) <;> (first | trivial | rfl | exact RowLe.rfl' _ ))))); (· rfl))
    | ((with_reducible refine go_loopk (σ := {i : Nat // i ≤ bn ∧ ∀ j, j < i → (fun j => decide (sn j ≤ 24) = true) j}) [4, 19, 20, 21, 22, 23, 24, 25, 26] (fun x => [(18, .pt (.one (.int .i64 (.ofNat x.1))))]) (fun x => []) (fun x => []) (fun x => bn - x.1) ⟨0, by omega, fun j hj => by omega⟩ ?_ ?_ ?_ ?_); (· (refine le_mk ?_ ?_ ?_ ?_ <;> (cbv; (try simp only [true_and, and_true]); (try ((repeat' apply And.intro) <;> (first | trivial | rfl | exact RowLe.rfl' _ | (rw [wrap_nat har _ (by omega)]))))))); (· (cbv; try rfl)); (· simp); (rintro ⟨i, hi, hok⟩ mm hmm))
    | ((with_reducible refine go_stop ⟨i + 1, by omega, all_succ hok ((gtr_lit (hcm ▸ h)))⟩ ?_ ?_ ?_ ?_); (· exact Nat.lt_of_lt_of_eq (show bn - (i + 1) < bn - i from by omega) (Eq.symm (by assumption))); (· (refine le_mk ?_ ?_ ?_ ?_ <;> (cbv; (try simp only [true_and, and_true]); (try ((repeat' apply And.intro) <;> (first | trivial | rfl | exact RowLe.rfl' _ | (rw [wrap_nat har _ (by omega)]))))))); (· (cbv; try rfl)); (· simp))
    )
  all_goals (first | have hgb := hga.trans (allN_false (p := fun i => decide (sn i ≤ 24)) hlt (gtr_lit (hcm ▸ h))) | have hgb := hga.trans ((allN_iff (p := fun i => decide (sn i ≤ 24))).2 (fun j hj => hok j (by omega))) | skip)
  all_goals (refine bool_eq ?_; clear ar01 ar12 hT hX hga; subst hnd hnt hmx hmn har hcm)
  all_goals grind [rCm]

def headB (F : GFun) : Bool := !(F.ln == 0) && decide (0 ≤ F.pa) && decide (F.pa ≤ 8) && decide (F.pa < F.ln) && (allN F.ln fun i => tyOk (F.lk i) (F.lt i)) && F.lt 0 == 0

set_option maxRecDepth 100000 in
set_option maxHeartbeats 4000000 in
theorem headC (F : GFun) (w : World) (hF : F.At w) :
    Calls Try.prog 45 #[F.val] w (Ret w (.bool (headB F))) := by
  obtain ⟨pa, un, lA, ln, lc, lk, lt, bA, bn, bc, sA, sn, sc, s, jA, jn, jc, ja, jk, jo, jf, jx, je, jd⟩ := F
  obtain ⟨hX, hl, hb, hs, hj⟩ := hF
  simp only at hl hb hs hj
  unfold headB
  simp only
  obtain ⟨ga, hga⟩ : ∃ b, b = allN ln fun i => tyOk (lk i) (lt i) := ⟨_, rfl⟩
  rw [← hga]
  refine go_start (args := [.pt (.agg (GFun.dat _))]) (c := (funX _)) Try.func45 rfl hX rfl rfl ?_
  obtain ⟨nd, hnd⟩ : ∃ f : Bool → Bool → Bool, f = and := ⟨_, rfl⟩
  obtain ⟨nt, hnt⟩ : ∃ f : Bool → Bool, f = not := ⟨_, rfl⟩
  obtain ⟨ar, har⟩ : ∃ f : BinOp → IntKind → Int → Int → Int, f = rAr := ⟨_, rfl⟩
  obtain ⟨cm, hcm⟩ : ∃ f : BinOp → Int → Int → Bool, f = rCm := ⟨_, rfl⟩
  obtain ⟨mx, hmx⟩ : ∃ f : Int → Int → Int, f = rMx := ⟨_, rfl⟩
  obtain ⟨mn, hmn⟩ : ∃ f : Int → Int → Int, f = rMn := ⟨_, rfl⟩
  have ar01 : ar .add .i64 0 1 = 1 := by rw [har]; decide
  have ar12 : ar .add .i64 1 1 = 2 := by rw [har]; decide
  obtain ⟨zpl, hzpl⟩ : ∃ f : Nat → Nat → Nat, f = fun x y => x + y := ⟨_, rfl⟩
  obtain ⟨zjn, hzjn⟩ : ∃ f : Nat → (Nat → List SC) → (Nat → List SC) → Nat → List SC, f = rJn := ⟨_, rfl⟩
  obtain ⟨zup, hzup⟩ : ∃ f : (Nat → List SC) → Nat → Nat → List SC → Nat → List SC, f = rUp := ⟨_, rfl⟩
  obtain ⟨zmi, hzmi⟩ : ∃ f : Nat → Nat → Nat, f = fun x y => x - y := ⟨_, rfl⟩
  obtain ⟨zdp, hzdp⟩ : ∃ f : Nat → (Nat → List SC) → Nat → List SC, f = rDp := ⟨_, rfl⟩
  have hT := T0_ok hnd hnt har hcm hmx hmn hzpl hzjn hzup hzmi hzdp
  by_cases h0 : ln = 0
  · subst h0
    repeat' (first
      | ((with_reducible apply go_ev hT 400); (· (cbv; try rfl)); (fail_if_success with_reducible apply stuck_id))
      | ((with_reducible refine go_brt ?_ ?_); (· first | rfl | assumption | (rw [hcm]; decide)))
      | ((with_reducible refine go_brf ?_ ?_); (· first | rfl | assumption | (rw [hcm]; decide)))
      | ((with_reducible refine go_brnt hnt ?_ ?_); (· first | rfl | assumption))
      | ((with_reducible refine go_brnf hnt ?_ ?_); (· first | rfl | assumption))
      | (with_reducible refine go_brn hnt (fun h => ?_) (fun h => ?_))
      | (with_reducible refine go_brl hcm (fun hlt => ?_) (fun hge => ?_))
      | (with_reducible refine go_br (fun h => ?_) (fun h => ?_))
      | ((with_reducible apply go_ret_val hT); (· (cbv; try rfl)); (· (cbv; try rfl)))
      | ((with_reducible apply go_fin_val hT); (· (cbv; try rfl)); (· (cbv; try rfl)))
      | ((with_reducible apply go_draw); (· rfl); (· kernel_rfl); (· kernel_rfl))
      | ((with_reducible apply go_drawE); (· kernel_rfl))
      | (with_reducible refine go_fork ?_)
      | (with_reducible refine fork_cons ?_ ?_)
      | (with_reducible exact fork_nil)
      | ((with_reducible refine go_need ?_ ?_ ?_); (· first | omega | (simp only [Int.ofNat_eq_natCast]; omega)); (· first | omega | (simp only [Int.ofNat_eq_natCast]; omega)))
      | ((with_reducible refine go_ob ?_ ?_); (· first | trivial | (refine ⟨trivial, ?_⟩; omega) | (rw [hzpl]; refine ⟨trivial, ?_⟩; show _ + _ ≤ 1073741824; omega) | (rw [hzpl]; show _ + _ ≤ 1073741824; omega)))
      | ((with_reducible apply go_ret_rows hT); (· (cbv; try rfl)); (· (cbv; try rfl)); (· (cbv; (try simp only [true_and, and_true]); (try ((repeat' apply And.intro) <;> (first | trivial | rfl | decide ))))); (· (cbv; (try simp only [true_and, and_true]); (try ((repeat' apply And.intro) <;> (first | trivial | rfl | exact RowLe.rfl' _ ))))); (· rfl))
      | ((with_reducible apply go_fin_rows hT); (· (cbv; try rfl)); (· (cbv; try rfl)); (· (cbv; (try simp only [true_and, and_true]); (try ((repeat' apply And.intro) <;> (first | trivial | rfl | decide ))))); (· (cbv; (try simp only [true_and, and_true]); (try ((repeat' apply And.intro) <;> (first | trivial | rfl | exact RowLe.rfl' _ ))))); (· rfl))
      | ((with_reducible apply go_call_int (f := 60) (hf := Try.call60)); (· (cbv; try rfl)); (· intro wc hbc hxc; exact typChk _ _ wc); intro z hz)
      | ((with_reducible apply go_callq_int (f := 60) (hf := Try.call60)); (· (cbv; try rfl)); (· intro wc hbc hxc; exact typChk _ _ wc); intro z hz)
      | ((with_reducible apply go_inline (f := 61) (hf := Try.func61) (hr := Try.results61) (hcall := Try.call61)); (· rfl); (· (cbv; try rfl)))
      | ((with_reducible refine go_loopk (σ := {i : Nat // i ≤ ln ∧ ∀ j, j < i → (fun j => tyOk (lk j) (lt j) = true) j}) [4, 33, 34, 35, 36, 37, 38, 39] (fun x => [(32, .pt (.one (.int .i64 (.ofNat x.1))))]) (fun x => []) (fun x => []) (fun x => ln - x.1) ⟨0, by omega, fun j hj => by omega⟩ ?_ ?_ ?_ ?_); (· (refine le_mk ?_ ?_ ?_ ?_ <;> (cbv; (try simp only [true_and, and_true]); (try ((repeat' apply And.intro) <;> (first | trivial | rfl | exact RowLe.rfl' _ | (rw [wrap_nat har _ (by omega)]))))))); (· (cbv; try rfl)); (· simp); (rintro ⟨i, hi, hok⟩ mm hmm))
      | ((with_reducible refine go_stop ⟨i + 1, by omega, all_succ hok ((okI_inv hz h))⟩ ?_ ?_ ?_ ?_); (· exact Nat.lt_of_lt_of_eq (show ln - (i + 1) < ln - i from by omega) (Eq.symm (by assumption))); (· (refine le_mk ?_ ?_ ?_ ?_ <;> (cbv; (try simp only [true_and, and_true]); (try ((repeat' apply And.intro) <;> (first | trivial | rfl | exact RowLe.rfl' _ | (rw [wrap_nat har _ (by omega)]))))))); (· (cbv; try rfl)); (· simp))
      )
    all_goals (first | have hgb := hga.trans (allN_false (p := fun i => tyOk (lk i) (lt i)) hlt (okI_inv' hz h)) | have hgb := hga.trans ((allN_iff (p := fun i => tyOk (lk i) (lt i))).2 (fun j hj => hok j (by omega))) | skip)
    all_goals (refine bool_eq ?_; clear ar01 ar12 hT hX hga; subst hnd hnt hmx hmn har hcm)
    all_goals grind [rCm, okI]
  have q0 : decide (Int.ofNat ln = 0) = false := by simp; omega
  have hp : 0 < ln := by omega
  repeat' (first
    | ((with_reducible apply go_ev hT 400); (· (cbv; try rfl)); (fail_if_success with_reducible apply stuck_id))
    | ((with_reducible refine go_brt ?_ ?_); (· first | rfl | assumption | (rw [hcm]; decide)))
    | ((with_reducible refine go_brf ?_ ?_); (· first | rfl | assumption | (rw [hcm]; decide)))
    | ((with_reducible refine go_brnt hnt ?_ ?_); (· first | rfl | assumption))
    | ((with_reducible refine go_brnf hnt ?_ ?_); (· first | rfl | assumption))
    | (with_reducible refine go_brn hnt (fun h => ?_) (fun h => ?_))
    | (with_reducible refine go_brl hcm (fun hlt => ?_) (fun hge => ?_))
    | (with_reducible refine go_br (fun h => ?_) (fun h => ?_))
    | ((with_reducible apply go_ret_val hT); (· (cbv; try rfl)); (· (cbv; try rfl)))
    | ((with_reducible apply go_fin_val hT); (· (cbv; try rfl)); (· (cbv; try rfl)))
    | ((with_reducible apply go_draw); (· rfl); (· kernel_rfl); (· kernel_rfl))
    | ((with_reducible apply go_drawE); (· kernel_rfl))
    | (with_reducible refine go_fork ?_)
    | (with_reducible refine fork_cons ?_ ?_)
    | (with_reducible exact fork_nil)
    | ((with_reducible refine go_need ?_ ?_ ?_); (· first | omega | (simp only [Int.ofNat_eq_natCast]; omega)); (· first | omega | (simp only [Int.ofNat_eq_natCast]; omega)))
    | ((with_reducible refine go_ob ?_ ?_); (· first | trivial | (refine ⟨trivial, ?_⟩; omega) | (rw [hzpl]; refine ⟨trivial, ?_⟩; show _ + _ ≤ 1073741824; omega) | (rw [hzpl]; show _ + _ ≤ 1073741824; omega)))
    | ((with_reducible apply go_ret_rows hT); (· (cbv; try rfl)); (· (cbv; try rfl)); (· (cbv; (try simp only [true_and, and_true]); (try ((repeat' apply And.intro) <;> (first | trivial | rfl | decide ))))); (· (cbv; (try simp only [true_and, and_true]); (try ((repeat' apply And.intro) <;> (first | trivial | rfl | exact RowLe.rfl' _ ))))); (· rfl))
    | ((with_reducible apply go_fin_rows hT); (· (cbv; try rfl)); (· (cbv; try rfl)); (· (cbv; (try simp only [true_and, and_true]); (try ((repeat' apply And.intro) <;> (first | trivial | rfl | decide ))))); (· (cbv; (try simp only [true_and, and_true]); (try ((repeat' apply And.intro) <;> (first | trivial | rfl | exact RowLe.rfl' _ ))))); (· rfl))
    | ((with_reducible apply go_call_int (f := 60) (hf := Try.call60)); (· (cbv; try rfl)); (· intro wc hbc hxc; exact typChk _ _ wc); intro z hz)
    | ((with_reducible apply go_callq_int (f := 60) (hf := Try.call60)); (· (cbv; try rfl)); (· intro wc hbc hxc; exact typChk _ _ wc); intro z hz)
    | ((with_reducible apply go_inline (f := 61) (hf := Try.func61) (hr := Try.results61) (hcall := Try.call61)); (· rfl); (· (cbv; try rfl)))
    | ((with_reducible refine go_loopk (σ := {i : Nat // i ≤ ln ∧ ∀ j, j < i → (fun j => tyOk (lk j) (lt j) = true) j}) [4, 33, 34, 35, 36, 37, 38, 39] (fun x => [(32, .pt (.one (.int .i64 (.ofNat x.1))))]) (fun x => []) (fun x => []) (fun x => ln - x.1) ⟨0, by omega, fun j hj => by omega⟩ ?_ ?_ ?_ ?_); (· (refine le_mk ?_ ?_ ?_ ?_ <;> (cbv; (try simp only [true_and, and_true]); (try ((repeat' apply And.intro) <;> (first | trivial | rfl | exact RowLe.rfl' _ | (rw [wrap_nat har _ (by omega)]))))))); (· (cbv; try rfl)); (· simp); (rintro ⟨i, hi, hok⟩ mm hmm))
    | ((with_reducible refine go_stop ⟨i + 1, by omega, all_succ hok ((okI_inv hz h))⟩ ?_ ?_ ?_ ?_); (· exact Nat.lt_of_lt_of_eq (show ln - (i + 1) < ln - i from by omega) (Eq.symm (by assumption))); (· (refine le_mk ?_ ?_ ?_ ?_ <;> (cbv; (try simp only [true_and, and_true]); (try ((repeat' apply And.intro) <;> (first | trivial | rfl | exact RowLe.rfl' _ | (rw [wrap_nat har _ (by omega)]))))))); (· (cbv; try rfl)); (· simp))
    )
  all_goals (first | have hgb := hga.trans (allN_false (p := fun i => tyOk (lk i) (lt i)) hlt (okI_inv' hz h)) | have hgb := hga.trans ((allN_iff (p := fun i => tyOk (lk i) (lt i))).2 (fun j hj => hok j (by omega))) | skip)
  all_goals (refine bool_eq ?_; clear ar01 ar12 hT hX hga; subst hnd hnt hmx hmn har hcm)
  all_goals grind [rCm, okI]

end Go.Proofs.Ytbimggeapaaliaa
