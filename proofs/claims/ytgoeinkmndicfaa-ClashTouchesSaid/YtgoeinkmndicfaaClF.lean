/- Layer 23 of the reference: conflicts. No condition. -/
import Derived.Test.YtgoeinkmndicfaaClB
import Derived.Test.YtgoeinkmndicfaaN1
import Derived.Test.YtgoeinkmndicfaaSxQ
namespace Go.Proofs.Ytgoeinkmndicfaa
open Go.RowKit
set_option linter.unusedVariables false
set_option linter.unusedSimpArgs false

def tabM : List (Nat × Ty) := (122, .arr 2 1 false [.lit false, .lit false]) :: tabL
theorem tabM_ty : tabM.all (fun p => tyB Try.prog p.1 p.2) = true := by kernel_rfl
theorem tabM_cmp : tabM.all (cmpRow Try.prog) = true := by kernel_rfl
theorem T1_ok {nd : Bool → Bool → Bool} {nt : Bool → Bool} {ar : BinOp → IntKind → Int → Int → Int} {cm : BinOp → Int → Int → Bool} {mx mn : Int → Int → Int} {pl : Nat → Nat → Nat} {jn : Nat → (Nat → List SC) → (Nat → List SC) → Nat → List SC} {up : (Nat → List SC) → Nat → Nat → List SC → Nat → List SC} {mi : Nat → Nat → Nat} {dp : Nat → (Nat → List SC) → Nat → List SC} (h1 : nd = and) (h2 : nt = not) (h3 : ar = rAr) (h4 : cm = rCm) (h5 : mx = rMx) (h6 : mn = rMn) (h7 : pl = fun x y => x + y) (h8 : jn = rJn) (h9 : up = rUp) (h10 : mi = fun x y => x - y) (h11 : dp = rDp) :
    TOk Try.prog ⟨lookT tabM, nd, nt, ar, cm, mx, mn, pl, jn, up, mi, dp⟩ :=
  ⟨fun t y h => List.all_eq_true.1 tabM_ty (t, y) (lookT_mem h), fun t s z l h => by
    have := List.all_eq_true.1 tabM_cmp (t, _) (lookT_mem h)
    exact this, h1, h2, h3, h4, h5, h6, h7, h8, h9, h10, h11⟩

set_option maxRecDepth 100000 in
theorem bothC (l f : Int) (d : Bool) (w : World) :
    Calls Try.prog 75 #[.agg #[.int .i64 l, .bool d, .int .u8 f]] w (Ret w (.agg #[.bool (!decide (f = 2)), .bool (!decide (f = 1))])) := by
  refine go_start (args := [.pt (.agg [.int .i64 l, .bool d, .int .u8 f])]) (c := NoRows) Try.func75 rfl (noRows_ok _) rfl rfl ?_
  obtain ⟨nd, hnd⟩ : ∃ f : Bool → Bool → Bool, f = and := ⟨_, rfl⟩
  obtain ⟨nt, hnt⟩ : ∃ f : Bool → Bool, f = not := ⟨_, rfl⟩
  obtain ⟨ar, har⟩ : ∃ f : BinOp → IntKind → Int → Int → Int, f = rAr := ⟨_, rfl⟩
  obtain ⟨cm, hcm⟩ : ∃ f : BinOp → Int → Int → Bool, f = rCm := ⟨_, rfl⟩
  obtain ⟨mx, hmx⟩ : ∃ f : Int → Int → Int, f = rMx := ⟨_, rfl⟩
  obtain ⟨mn, hmn⟩ : ∃ f : Int → Int → Int, f = rMn := ⟨_, rfl⟩
  have ar01 : ar .add .i64 0 1 = 1 := by rw [har]; decide
  have ar12 : ar .add .i64 1 1 = 2 := by rw [har]; decide
  obtain ⟨zpl, hzpl⟩ : ∃ f : Nat → Nat → Nat, f = fun x y => x + y := ⟨_, rfl⟩
  obtain ⟨zjn, hzjn⟩ : ∃ f : Nat → (Nat → List SC) → (Nat → List SC) → Nat → List SC, f = rJn := ⟨_, rfl⟩
  obtain ⟨zup, hzup⟩ : ∃ f : (Nat → List SC) → Nat → Nat → List SC → Nat → List SC, f = rUp := ⟨_, rfl⟩
  obtain ⟨zmi, hzmi⟩ : ∃ f : Nat → Nat → Nat, f = fun x y => x - y := ⟨_, rfl⟩
  obtain ⟨zdp, hzdp⟩ : ∃ f : Nat → (Nat → List SC) → Nat → List SC, f = rDp := ⟨_, rfl⟩
  have hT := T0_ok hnd hnt har hcm hmx hmn hzpl hzjn hzup hzmi hzdp
  have hT := T1_ok hnd hnt har hcm hmx hmn hzpl hzjn hzup hzmi hzdp
  repeat' (first
    | ((with_reducible apply go_ev hT 400); (· (cbv; try rfl)); (fail_if_success with_reducible apply stuck_id))
    | ((with_reducible refine go_brt ?_ ?_); (· first | rfl | assumption | (rw [hcm]; decide)))
    | ((with_reducible refine go_brf ?_ ?_); (· first | rfl | assumption | (rw [hcm]; decide)))
    | ((with_reducible refine go_brnt hnt ?_ ?_); (· first | rfl | assumption))
    | ((with_reducible refine go_brnf hnt ?_ ?_); (· first | rfl | assumption))
    | (with_reducible refine go_brn hnt (fun h => ?_) (fun h => ?_))
    | (with_reducible refine go_brl hcm (fun hlt => ?_) (fun hge => ?_))
    | (with_reducible refine go_br (fun h => ?_) (fun h => ?_))
    | ((with_reducible apply go_ret_val hT); (· (cbv; try rfl)); (· (cbv; try rfl)))
    | ((with_reducible apply go_fin_val hT); (· (cbv; try rfl)); (· (cbv; try rfl)))
    | ((with_reducible apply go_draw); (· rfl); (· kernel_rfl); (· kernel_rfl))
    | ((with_reducible apply go_drawE); (· kernel_rfl))
    | (with_reducible refine go_fork ?_)
    | (with_reducible refine fork_cons ?_ ?_)
    | (with_reducible exact fork_nil)
    | ((with_reducible refine go_need ?_ ?_ ?_); (· first | omega | (simp only [Int.ofNat_eq_natCast]; omega)); (· first | omega | (simp only [Int.ofNat_eq_natCast]; omega)))
    | ((with_reducible refine go_ob ?_ ?_); (· first | trivial | (refine ⟨trivial, ?_⟩; omega) | (rw [hzpl]; refine ⟨trivial, ?_⟩; show _ + _ ≤ 1073741824; omega) | (rw [hzpl]; show _ + _ ≤ 1073741824; omega)))
    | ((with_reducible apply go_ret_rows hT); (· (cbv; try rfl)); (· (cbv; try rfl)); (· (cbv; (try simp only [true_and, and_true]); (try ((repeat' apply And.intro) <;> (first | trivial | rfl | decide ))))); (· (cbv; (try simp only [true_and, and_true]); (try ((repeat' apply And.intro) <;> (first | trivial | rfl | exact RowLe.rfl' _ ))))); (· rfl))
    | ((with_reducible apply go_fin_rows hT); (· (cbv; try rfl)); (· (cbv; try rfl)); (· (cbv; (try simp only [true_and, and_true]); (try ((repeat' apply And.intro) <;> (first | trivial | rfl | decide ))))); (· (cbv; (try simp only [true_and, and_true]); (try ((repeat' apply And.intro) <;> (first | trivial | rfl | exact RowLe.rfl' _ ))))); (· rfl))
    )
  all_goals (subst hnt; rfl)
theorem bothZ (l f : Int) (d : Bool) {y z : Bool} (hy : y = !decide (f = 2)) (hz : z = !decide (f = 1)) (w : World) :
    Calls Try.prog 75 #[.agg #[.int .i64 l, .bool d, .int .u8 f]] w (Ret w (.agg #[.bool y, .bool z])) := by
  rw [hy, hz]; exact bothC l f d w
set_option maxRecDepth 100000 in
set_option maxHeartbeats 8000000 in
theorem meetC (l f m g : Int) (d e : Bool) (hf : f = 0 ∨ f = 1 ∨ f = 2) (hg : g = 0 ∨ g = 1 ∨ g = 2) (w : World) :
    Calls Try.prog 53 #[.agg #[.int .i64 l, .bool d, .int .u8 f], .agg #[.int .i64 m, .bool e, .int .u8 g]] w (Ret w (.bool (overB ⟨l, d, f⟩ ⟨m, e, g⟩))) := by
  obtain ⟨z, hz⟩ : ∃ z, z = overB ⟨l, d, f⟩ ⟨m, e, g⟩ := ⟨_, rfl⟩
  rw [← hz]
  simp only [overB] at hz
  obtain ⟨y1, hy1⟩ : ∃ y, y = !decide (f = 2) := ⟨_, rfl⟩
  obtain ⟨z1, hz1⟩ : ∃ y, y = !decide (f = 1) := ⟨_, rfl⟩
  obtain ⟨y2, hy2⟩ : ∃ y, y = !decide (g = 2) := ⟨_, rfl⟩
  obtain ⟨z2, hz2⟩ : ∃ y, y = !decide (g = 1) := ⟨_, rfl⟩
  have e0 : z = (decide (l = m) && (decide (d = e) && (y1 && y2 || z1 && z2))) := by
    rw [hz, hy1, hz1, hy2, hz2]
    rcases hf with rfl | rfl | rfl <;> rcases hg with rfl | rfl | rfl <;> simp [Bool.beq_eq_decide_eq]
  clear hz hf hg
  refine go_start (args := [.pt (.agg [.int .i64 l, .bool d, .int .u8 f]), .pt (.agg [.int .i64 m, .bool e, .int .u8 g])]) (c := NoRows) Try.func53 rfl (noRows_ok _) rfl rfl ?_
  obtain ⟨nd, hnd⟩ : ∃ f : Bool → Bool → Bool, f = and := ⟨_, rfl⟩
  obtain ⟨nt, hnt⟩ : ∃ f : Bool → Bool, f = not := ⟨_, rfl⟩
  obtain ⟨ar, har⟩ : ∃ f : BinOp → IntKind → Int → Int → Int, f = rAr := ⟨_, rfl⟩
  obtain ⟨cm, hcm⟩ : ∃ f : BinOp → Int → Int → Bool, f = rCm := ⟨_, rfl⟩
  obtain ⟨mx, hmx⟩ : ∃ f : Int → Int → Int, f = rMx := ⟨_, rfl⟩
  obtain ⟨mn, hmn⟩ : ∃ f : Int → Int → Int, f = rMn := ⟨_, rfl⟩
  have ar01 : ar .add .i64 0 1 = 1 := by rw [har]; decide
  have ar12 : ar .add .i64 1 1 = 2 := by rw [har]; decide
  obtain ⟨zpl, hzpl⟩ : ∃ f : Nat → Nat → Nat, f = fun x y => x + y := ⟨_, rfl⟩
  obtain ⟨zjn, hzjn⟩ : ∃ f : Nat → (Nat → List SC) → (Nat → List SC) → Nat → List SC, f = rJn := ⟨_, rfl⟩
  obtain ⟨zup, hzup⟩ : ∃ f : (Nat → List SC) → Nat → Nat → List SC → Nat → List SC, f = rUp := ⟨_, rfl⟩
  obtain ⟨zmi, hzmi⟩ : ∃ f : Nat → Nat → Nat, f = fun x y => x - y := ⟨_, rfl⟩
  obtain ⟨zdp, hzdp⟩ : ∃ f : Nat → (Nat → List SC) → Nat → List SC, f = rDp := ⟨_, rfl⟩
  have hT := T0_ok hnd hnt har hcm hmx hmn hzpl hzjn hzup hzmi hzdp
  have hT := T1_ok hnd hnt har hcm hmx hmn hzpl hzjn hzup hzmi hzdp
  repeat' (first
    | ((with_reducible apply go_ev hT 400); (· (cbv; try rfl)); (fail_if_success with_reducible apply stuck_id))
    | ((with_reducible refine go_brt ?_ ?_); (· first | rfl | assumption | (rw [hcm]; decide)))
    | ((with_reducible refine go_brf ?_ ?_); (· first | rfl | assumption | (rw [hcm]; decide)))
    | ((with_reducible refine go_brnt hnt ?_ ?_); (· first | rfl | assumption))
    | ((with_reducible refine go_brnf hnt ?_ ?_); (· first | rfl | assumption))
    | (with_reducible refine go_brn hnt (fun h => ?_) (fun h => ?_))
    | (with_reducible refine go_brl hcm (fun hlt => ?_) (fun hge => ?_))
    | (with_reducible refine go_br (fun h => ?_) (fun h => ?_))
    | ((with_reducible apply go_ret_val hT); (· (cbv; try rfl)); (· (cbv; try rfl)))
    | ((with_reducible apply go_fin_val hT); (· (cbv; try rfl)); (· (cbv; try rfl)))
    | (with_reducible refine go_fork ?_)
    | (with_reducible refine fork_cons ?_ ?_)
    | (with_reducible exact fork_nil)
    | ((with_reducible refine go_need ?_ ?_ ?_); (· first | omega | (simp only [Int.ofNat_eq_natCast]; omega)); (· first | omega | (simp only [Int.ofNat_eq_natCast]; omega)))
    | ((with_reducible refine go_ob ?_ ?_); (· first | trivial | (refine ⟨trivial, ?_⟩; omega) | (rw [hzpl]; refine ⟨trivial, ?_⟩; show _ + _ ≤ 1073741824; omega) | (rw [hzpl]; show _ + _ ≤ 1073741824; omega)))
    | ((with_reducible apply go_ret_rows hT); (· (cbv; try rfl)); (· (cbv; try rfl)); (· (cbv; (try simp only [true_and, and_true]); (try ((repeat' apply And.intro) <;> (first | trivial | rfl | decide ))))); (· (cbv; (try simp only [true_and, and_true]); (try ((repeat' apply And.intro) <;> (first | trivial | rfl | exact RowLe.rfl' _ ))))); (· rfl))
    | ((with_reducible apply go_fin_rows hT); (· (cbv; try rfl)); (· (cbv; try rfl)); (· (cbv; (try simp only [true_and, and_true]); (try ((repeat' apply And.intro) <;> (first | trivial | rfl | decide ))))); (· (cbv; (try simp only [true_and, and_true]); (try ((repeat' apply And.intro) <;> (first | trivial | rfl | exact RowLe.rfl' _ ))))); (· rfl))
    )
  with_reducible refine go_drawE (by kernel_rfl) ?_
  refine go_box 0 0 rfl rfl rfl rfl trivial rfl (noRows_qb 0) (noRows_n 0) (fun a0 ha0 => ?_)
  refine go_box 1 1 rfl rfl rfl rfl trivial rfl (box_qb (noRows_qb 0) rfl qbL_up) box_n (fun a1 ha1 => ?_)
  repeat' (first
    | ((with_reducible apply go_ev hT 400); (· (cbv; try rfl)); (fail_if_success with_reducible apply stuck_id))
    | ((with_reducible refine go_brt ?_ ?_); (· first | rfl | assumption | (rw [hcm]; decide)))
    | ((with_reducible refine go_brf ?_ ?_); (· first | rfl | assumption | (rw [hcm]; decide)))
    | ((with_reducible refine go_brnt hnt ?_ ?_); (· first | rfl | assumption))
    | ((with_reducible refine go_brnf hnt ?_ ?_); (· first | rfl | assumption))
    | (with_reducible refine go_brn hnt (fun h => ?_) (fun h => ?_))
    | (with_reducible refine go_brl hcm (fun hlt => ?_) (fun hge => ?_))
    | (with_reducible refine go_br (fun h => ?_) (fun h => ?_))
    | ((with_reducible apply go_ret_val hT); (· (cbv; try rfl)); (· (cbv; try rfl)))
    | ((with_reducible apply go_fin_val hT); (· (cbv; try rfl)); (· (cbv; try rfl)))
    | ((with_reducible apply go_draw); (· rfl); (· kernel_rfl); (· kernel_rfl))
    | ((with_reducible apply go_drawE); (· kernel_rfl))
    | (with_reducible refine go_fork ?_)
    | (with_reducible refine fork_cons ?_ ?_)
    | (with_reducible exact fork_nil)
    | ((with_reducible refine go_need ?_ ?_ ?_); (· first | omega | (simp only [Int.ofNat_eq_natCast]; omega)); (· first | omega | (simp only [Int.ofNat_eq_natCast]; omega)))
    | ((with_reducible refine go_ob ?_ ?_); (· first | trivial | (refine ⟨trivial, ?_⟩; omega) | (rw [hzpl]; refine ⟨trivial, ?_⟩; show _ + _ ≤ 1073741824; omega) | (rw [hzpl]; show _ + _ ≤ 1073741824; omega)))
    | ((with_reducible apply go_ret_rows hT); (· (cbv; try rfl)); (· (cbv; try rfl)); (· (cbv; (try simp only [true_and, and_true]); (try ((repeat' apply And.intro) <;> (first | trivial | rfl | decide ))))); (· (cbv; (try simp only [true_and, and_true]); (try ((repeat' apply And.intro) <;> (first | trivial | rfl | exact RowLe.rfl' _ ))))); (· rfl))
    | ((with_reducible apply go_fin_rows hT); (· (cbv; try rfl)); (· (cbv; try rfl)); (· (cbv; (try simp only [true_and, and_true]); (try ((repeat' apply And.intro) <;> (first | trivial | rfl | decide ))))); (· (cbv; (try simp only [true_and, and_true]); (try ((repeat' apply And.intro) <;> (first | trivial | rfl | exact RowLe.rfl' _ ))))); (· rfl))
    | ((with_reducible apply go_call (f := 75) (hf := Try.call75)); (· (cbv; try rfl)); (· intro wc hbc hxc; exact bothZ _ _ _ (by first | exact hy1 | exact hy2) (by first | exact hz1 | exact hz2) wc))
    | ((with_reducible apply go_callq (f := 75) (hf := Try.call75)); (· (cbv; try rfl)); (· intro wc hbc hxc; exact bothZ _ _ _ (by first | exact hy1 | exact hy2) (by first | exact hz1 | exact hz2) wc))
    | ((with_reducible apply go_inline (f := 76) (hf := Try.func76) (hr := Try.results76) (hcall := Try.call76)); (· rfl); (· (cbv; try rfl)))
    | (((with_reducible apply go_ask); (· rfl); (· rfl)))
    )
  all_goals
    rw [e0]
    refine bool_eq ?_
    simp_all

theorem rPlaceOk (l f : Int) (d : Bool) (h : (GPlace.mk l d f).ok = true) (w : World) :
    Calls Try.prog 13 #[.agg #[.int .i64 l, .bool d, .int .u8 f]] w (Ret w (.int .i64 0)) := by
  have := rPlaceChkF l f d w
  rw [h] at this
  exact this
set_option maxRecDepth 100000 in
theorem behC (l f m g : Int) (d e : Bool) (w : World) :
    Calls Try.prog 54 #[.agg #[.int .i64 l, .bool d, .int .u8 f], .agg #[.int .i64 m, .bool e, .int .u8 g]] w (Ret w (.bool (behB ⟨l, d, f⟩ ⟨m, e, g⟩))) := by
  refine go_start (args := [.pt (.agg [.int .i64 l, .bool d, .int .u8 f]), .pt (.agg [.int .i64 m, .bool e, .int .u8 g])]) (c := NoRows) Try.func54 rfl (noRows_ok _) rfl rfl ?_
  obtain ⟨nd, hnd⟩ : ∃ f : Bool → Bool → Bool, f = and := ⟨_, rfl⟩
  obtain ⟨nt, hnt⟩ : ∃ f : Bool → Bool, f = not := ⟨_, rfl⟩
  obtain ⟨ar, har⟩ : ∃ f : BinOp → IntKind → Int → Int → Int, f = rAr := ⟨_, rfl⟩
  obtain ⟨cm, hcm⟩ : ∃ f : BinOp → Int → Int → Bool, f = rCm := ⟨_, rfl⟩
  obtain ⟨mx, hmx⟩ : ∃ f : Int → Int → Int, f = rMx := ⟨_, rfl⟩
  obtain ⟨mn, hmn⟩ : ∃ f : Int → Int → Int, f = rMn := ⟨_, rfl⟩
  have ar01 : ar .add .i64 0 1 = 1 := by rw [har]; decide
  have ar12 : ar .add .i64 1 1 = 2 := by rw [har]; decide
  obtain ⟨zpl, hzpl⟩ : ∃ f : Nat → Nat → Nat, f = fun x y => x + y := ⟨_, rfl⟩
  obtain ⟨zjn, hzjn⟩ : ∃ f : Nat → (Nat → List SC) → (Nat → List SC) → Nat → List SC, f = rJn := ⟨_, rfl⟩
  obtain ⟨zup, hzup⟩ : ∃ f : (Nat → List SC) → Nat → Nat → List SC → Nat → List SC, f = rUp := ⟨_, rfl⟩
  obtain ⟨zmi, hzmi⟩ : ∃ f : Nat → Nat → Nat, f = fun x y => x - y := ⟨_, rfl⟩
  obtain ⟨zdp, hzdp⟩ : ∃ f : Nat → (Nat → List SC) → Nat → List SC, f = rDp := ⟨_, rfl⟩
  have hT := T0_ok hnd hnt har hcm hmx hmn hzpl hzjn hzup hzmi hzdp
  repeat' (first
    | ((with_reducible apply go_ev hT 400); (· (cbv; try rfl)); (fail_if_success with_reducible apply stuck_id))
    | ((with_reducible refine go_brt ?_ ?_); (· first | rfl | assumption | (rw [hcm]; decide)))
    | ((with_reducible refine go_brf ?_ ?_); (· first | rfl | assumption | (rw [hcm]; decide)))
    | ((with_reducible refine go_brnt hnt ?_ ?_); (· first | rfl | assumption))
    | ((with_reducible refine go_brnf hnt ?_ ?_); (· first | rfl | assumption))
    | (with_reducible refine go_brn hnt (fun h => ?_) (fun h => ?_))
    | (with_reducible refine go_brl hcm (fun hlt => ?_) (fun hge => ?_))
    | (with_reducible refine go_br (fun h => ?_) (fun h => ?_))
    | ((with_reducible apply go_ret_val hT); (· (cbv; try rfl)); (· (cbv; try rfl)))
    | ((with_reducible apply go_fin_val hT); (· (cbv; try rfl)); (· (cbv; try rfl)))
    | ((with_reducible apply go_draw); (· rfl); (· kernel_rfl); (· kernel_rfl))
    | ((with_reducible apply go_drawE); (· kernel_rfl))
    | (with_reducible refine go_fork ?_)
    | (with_reducible refine fork_cons ?_ ?_)
    | (with_reducible exact fork_nil)
    | ((with_reducible refine go_need ?_ ?_ ?_); (· first | omega | (simp only [Int.ofNat_eq_natCast]; omega)); (· first | omega | (simp only [Int.ofNat_eq_natCast]; omega)))
    | ((with_reducible refine go_ob ?_ ?_); (· first | trivial | (refine ⟨trivial, ?_⟩; omega) | (rw [hzpl]; refine ⟨trivial, ?_⟩; show _ + _ ≤ 1073741824; omega) | (rw [hzpl]; show _ + _ ≤ 1073741824; omega)))
    | ((with_reducible apply go_ret_rows hT); (· (cbv; try rfl)); (· (cbv; try rfl)); (· (cbv; (try simp only [true_and, and_true]); (try ((repeat' apply And.intro) <;> (first | trivial | rfl | decide ))))); (· (cbv; (try simp only [true_and, and_true]); (try ((repeat' apply And.intro) <;> (first | trivial | rfl | exact RowLe.rfl' _ ))))); (· rfl))
    | ((with_reducible apply go_fin_rows hT); (· (cbv; try rfl)); (· (cbv; try rfl)); (· (cbv; (try simp only [true_and, and_true]); (try ((repeat' apply And.intro) <;> (first | trivial | rfl | decide ))))); (· (cbv; (try simp only [true_and, and_true]); (try ((repeat' apply And.intro) <;> (first | trivial | rfl | exact RowLe.rfl' _ ))))); (· rfl))
    | ((with_reducible apply go_inline (f := 47) (hf := Try.func47) (hr := Try.results47) (hcall := Try.call47)); (· rfl); (· (cbv; try rfl)))
    )
  all_goals
    clear hT
    subst hnd hnt hcm
    refine bool_eq ?_
    simp only [behB, wholeP]
    grind

set_option maxRecDepth 100000 in
set_option maxHeartbeats 4000000 in
theorem againstC (t : GTouch) (x : GLoan) (u : Bool) (ht : t.p.ok = true) (hx : x.p.ok = true) (t0 : 0 ≤ t.p.f) (x0 : 0 ≤ x.p.f) (hb : 1 ≤ x.bo ∧ x.bo ≤ 3) (w : World) :
    Calls Try.prog 26 #[t.val, x.val, .bool u] w (Ret w (.bool (conB t x u))) := by
  have h10 (wc : World) := meetC t.p.l t.p.f x.p.l x.p.f t.p.d x.p.d (place_f ht t0) (place_f hx x0) wc
  have h20 (wc : World) := behC t.p.l t.p.f x.p.l x.p.f t.p.d x.p.d wc
  have hov := over_root (t := t.p) (l := x.p)
  obtain ⟨zo, hzo⟩ : ∃ z, z = overB t.p x.p := ⟨_, rfl⟩
  obtain ⟨zb, hzb⟩ : ∃ z, z = behB t.p x.p := ⟨_, rfl⟩
  obtain ⟨z, hz⟩ : ∃ z, z = conB t x u := ⟨_, rfl⟩
  rw [← hz]
  have h1 (wc : World) : Calls Try.prog 53 #[.agg #[.int .i64 t.p.l, .bool t.p.d, .int .u8 t.p.f], .agg #[.int .i64 x.p.l, .bool x.p.d, .int .u8 x.p.f]] wc (Ret wc (.bool zo)) := by rw [hzo]; exact h10 wc
  have h2 (wc : World) : Calls Try.prog 54 #[.agg #[.int .i64 t.p.l, .bool t.p.d, .int .u8 t.p.f], .agg #[.int .i64 x.p.l, .bool x.p.d, .int .u8 x.p.f]] wc (Ret wc (.bool zb)) := by rw [hzb]; exact h20 wc
  simp only [conB, ← hzo, ← hzb] at hz
  rw [← hzo, ← hzb] at hov
  clear ht hx t0 x0 hzo hzb h10 h20
  obtain ⟨⟨tl, td, tf⟩, tw, te⟩ := t
  obtain ⟨xa, ⟨xl, xd, xf⟩, xb, xc⟩ := x
  simp only at h1 h2 hz hb
  have hb : xb = 1 ∨ xb = 2 ∨ xb = 3 := by omega
  rcases hb with rfl | rfl | rfl
  all_goals
    skip
    refine go_start (args := [.pt (.agg (GTouch.sc _)), .pt (.agg (GLoan.sc _)), .pt (.one (.bool u))]) (c := NoRows) Try.func26 rfl (noRows_ok _) rfl rfl ?_
    obtain ⟨nd, hnd⟩ : ∃ f : Bool → Bool → Bool, f = and := ⟨_, rfl⟩
    obtain ⟨nt, hnt⟩ : ∃ f : Bool → Bool, f = not := ⟨_, rfl⟩
    obtain ⟨ar, har⟩ : ∃ f : BinOp → IntKind → Int → Int → Int, f = rAr := ⟨_, rfl⟩
    obtain ⟨cm, hcm⟩ : ∃ f : BinOp → Int → Int → Bool, f = rCm := ⟨_, rfl⟩
    obtain ⟨mx, hmx⟩ : ∃ f : Int → Int → Int, f = rMx := ⟨_, rfl⟩
    obtain ⟨mn, hmn⟩ : ∃ f : Int → Int → Int, f = rMn := ⟨_, rfl⟩
    have ar01 : ar .add .i64 0 1 = 1 := by rw [har]; decide
    have ar12 : ar .add .i64 1 1 = 2 := by rw [har]; decide
    obtain ⟨zpl, hzpl⟩ : ∃ f : Nat → Nat → Nat, f = fun x y => x + y := ⟨_, rfl⟩
    obtain ⟨zjn, hzjn⟩ : ∃ f : Nat → (Nat → List SC) → (Nat → List SC) → Nat → List SC, f = rJn := ⟨_, rfl⟩
    obtain ⟨zup, hzup⟩ : ∃ f : (Nat → List SC) → Nat → Nat → List SC → Nat → List SC, f = rUp := ⟨_, rfl⟩
    obtain ⟨zmi, hzmi⟩ : ∃ f : Nat → Nat → Nat, f = fun x y => x - y := ⟨_, rfl⟩
    obtain ⟨zdp, hzdp⟩ : ∃ f : Nat → (Nat → List SC) → Nat → List SC, f = rDp := ⟨_, rfl⟩
    have hT := T0_ok hnd hnt har hcm hmx hmn hzpl hzjn hzup hzmi hzdp
    repeat' (first
      | ((with_reducible apply go_ev hT 400); (· (cbv; try rfl)); (fail_if_success with_reducible apply stuck_id))
      | ((with_reducible refine go_brt ?_ ?_); (· first | rfl | assumption | (rw [hcm]; decide)))
      | ((with_reducible refine go_brf ?_ ?_); (· first | rfl | assumption | (rw [hcm]; decide)))
      | ((with_reducible refine go_brnt hnt ?_ ?_); (· first | rfl | assumption))
      | ((with_reducible refine go_brnf hnt ?_ ?_); (· first | rfl | assumption))
      | (with_reducible refine go_brn hnt (fun h => ?_) (fun h => ?_))
      | (with_reducible refine go_brl hcm (fun hlt => ?_) (fun hge => ?_))
      | (with_reducible refine go_br (fun h => ?_) (fun h => ?_))
      | ((with_reducible apply go_ret_val hT); (· (cbv; try rfl)); (· (cbv; try rfl)))
      | ((with_reducible apply go_fin_val hT); (· (cbv; try rfl)); (· (cbv; try rfl)))
      | ((with_reducible apply go_draw); (· rfl); (· kernel_rfl); (· kernel_rfl))
      | ((with_reducible apply go_drawE); (· kernel_rfl))
      | (with_reducible refine go_fork ?_)
      | (with_reducible refine fork_cons ?_ ?_)
      | (with_reducible exact fork_nil)
      | ((with_reducible refine go_need ?_ ?_ ?_); (· first | omega | (simp only [Int.ofNat_eq_natCast]; omega)); (· first | omega | (simp only [Int.ofNat_eq_natCast]; omega)))
      | ((with_reducible refine go_ob ?_ ?_); (· first | trivial | (refine ⟨trivial, ?_⟩; omega) | (rw [hzpl]; refine ⟨trivial, ?_⟩; show _ + _ ≤ 1073741824; omega) | (rw [hzpl]; show _ + _ ≤ 1073741824; omega)))
      | ((with_reducible apply go_ret_rows hT); (· (cbv; try rfl)); (· (cbv; try rfl)); (· (cbv; (try simp only [true_and, and_true]); (try ((repeat' apply And.intro) <;> (first | trivial | rfl | decide ))))); (· (cbv; (try simp only [true_and, and_true]); (try ((repeat' apply And.intro) <;> (first | trivial | rfl | exact RowLe.rfl' _ ))))); (· rfl))
      | ((with_reducible apply go_fin_rows hT); (· (cbv; try rfl)); (· (cbv; try rfl)); (· (cbv; (try simp only [true_and, and_true]); (try ((repeat' apply And.intro) <;> (first | trivial | rfl | decide ))))); (· (cbv; (try simp only [true_and, and_true]); (try ((repeat' apply And.intro) <;> (first | trivial | rfl | exact RowLe.rfl' _ ))))); (· rfl))
      | ((with_reducible apply go_call (f := 53) (hf := Try.call53)); (· (cbv; try rfl)); (· intro wc hbc hxc; exact h1 wc))
      | ((with_reducible apply go_callq (f := 53) (hf := Try.call53)); (· (cbv; try rfl)); (· intro wc hbc hxc; exact h1 wc))
      | ((with_reducible apply go_call (f := 54) (hf := Try.call54)); (· (cbv; try rfl)); (· intro wc hbc hxc; exact h2 wc))
      | ((with_reducible apply go_callq (f := 54) (hf := Try.call54)); (· (cbv; try rfl)); (· intro wc hbc hxc; exact h2 wc))
      )
    all_goals
      clear hT h1 h2
      subst hnd hnt har
      refine bool_eq ?_
      subst hz
      clear hcm hmx hmn hzpl hzjn hzup hzmi hzdp
      cases zo <;> cases zb <;> cases tw <;> cases te <;> cases u <;> first | rfl | (exfalso; simp at *; done) | (exfalso; exact absurd (hov rfl) (by decide))

set_option maxRecDepth 100000 in
set_option maxHeartbeats 4000000 in
theorem rClashesC (t : GTouch) (x : GLoan) (u : Bool) (t0 : 0 ≤ t.p.f) (x0 : 0 ≤ x.p.f) (b0 : 0 ≤ x.bo) (w : World) :
    Calls Try.prog 10 #[t.val, x.val, .bool u] w (Ret w (bif askB t x then .tuple #[.bool (conB t x u), .int .i64 0] else .tuple #[.bool false, .int .i64 8])) := by
  obtain ⟨R, hR⟩ : ∃ R, R = bif askB t x then Value.tuple #[.bool (conB t x u), .int .i64 0] else .tuple #[.bool false, .int .i64 8] := ⟨_, rfl⟩
  rw [← hR]
  by_cases ha : askB t x = true
  case neg =>
    have ha' : askB t x = false := by simpa using ha
    rw [ha', cond_false] at hR
    simp only [askB, Bool.and_eq_true, decide_eq_true_eq] at ha
    obtain ⟨⟨tl, td, tf⟩, tw, te⟩ := t
    obtain ⟨xa, ⟨xl, xd, xf⟩, xb, xc⟩ := x
    simp only at ha b0
    have k1 : ∀ z, z = okI (GPlace.mk tl td tf).ok → decide (z = 0) = true → (GPlace.mk tl td tf).ok = true := fun z h h' => okI_inv h h'
    have k2 : ∀ z, z = okI (GPlace.mk xl xd xf).ok → decide (z = 0) = true → (GPlace.mk xl xd xf).ok = true := fun z h h' => okI_inv h h'
    clear t0 x0 ha'
    refine go_start (args := [.pt (.agg (GTouch.sc _)), .pt (.agg (GLoan.sc _)), .pt (.one (.bool u))]) (c := NoRows) Try.func10 rfl (noRows_ok _) rfl rfl ?_
    obtain ⟨nd, hnd⟩ : ∃ f : Bool → Bool → Bool, f = and := ⟨_, rfl⟩
    obtain ⟨nt, hnt⟩ : ∃ f : Bool → Bool, f = not := ⟨_, rfl⟩
    obtain ⟨ar, har⟩ : ∃ f : BinOp → IntKind → Int → Int → Int, f = rAr := ⟨_, rfl⟩
    obtain ⟨cm, hcm⟩ : ∃ f : BinOp → Int → Int → Bool, f = rCm := ⟨_, rfl⟩
    obtain ⟨mx, hmx⟩ : ∃ f : Int → Int → Int, f = rMx := ⟨_, rfl⟩
    obtain ⟨mn, hmn⟩ : ∃ f : Int → Int → Int, f = rMn := ⟨_, rfl⟩
    have ar01 : ar .add .i64 0 1 = 1 := by rw [har]; decide
    have ar12 : ar .add .i64 1 1 = 2 := by rw [har]; decide
    obtain ⟨zpl, hzpl⟩ : ∃ f : Nat → Nat → Nat, f = fun x y => x + y := ⟨_, rfl⟩
    obtain ⟨zjn, hzjn⟩ : ∃ f : Nat → (Nat → List SC) → (Nat → List SC) → Nat → List SC, f = rJn := ⟨_, rfl⟩
    obtain ⟨zup, hzup⟩ : ∃ f : (Nat → List SC) → Nat → Nat → List SC → Nat → List SC, f = rUp := ⟨_, rfl⟩
    obtain ⟨zmi, hzmi⟩ : ∃ f : Nat → Nat → Nat, f = fun x y => x - y := ⟨_, rfl⟩
    obtain ⟨zdp, hzdp⟩ : ∃ f : Nat → (Nat → List SC) → Nat → List SC, f = rDp := ⟨_, rfl⟩
    have hT := T0_ok hnd hnt har hcm hmx hmn hzpl hzjn hzup hzmi hzdp
    repeat' (first
      | ((with_reducible apply go_ev hT 400); (· (cbv; try rfl)); (fail_if_success with_reducible apply stuck_id))
      | ((with_reducible refine go_brt ?_ ?_); (· first | rfl | assumption | (rw [hcm]; decide)))
      | ((with_reducible refine go_brf ?_ ?_); (· first | rfl | assumption | (rw [hcm]; decide)))
      | ((with_reducible refine go_brnt hnt ?_ ?_); (· first | rfl | assumption))
      | ((with_reducible refine go_brnf hnt ?_ ?_); (· first | rfl | assumption))
      | (with_reducible refine go_brn hnt (fun h => ?_) (fun h => ?_))
      | (with_reducible refine go_brl hcm (fun hlt => ?_) (fun hge => ?_))
      | (with_reducible refine go_br (fun h => ?_) (fun h => ?_))
      | ((with_reducible apply go_ret_val hT); (· (cbv; try rfl)); (· (cbv; try rfl)))
      | ((with_reducible apply go_fin_val hT); (· (cbv; try rfl)); (· (cbv; try rfl)))
      | ((with_reducible apply go_draw); (· rfl); (· kernel_rfl); (· kernel_rfl))
      | ((with_reducible apply go_drawE); (· kernel_rfl))
      | (with_reducible refine go_fork ?_)
      | (with_reducible refine fork_cons ?_ ?_)
      | (with_reducible exact fork_nil)
      | ((with_reducible refine go_need ?_ ?_ ?_); (· first | omega | (simp only [Int.ofNat_eq_natCast]; omega)); (· first | omega | (simp only [Int.ofNat_eq_natCast]; omega)))
      | ((with_reducible refine go_ob ?_ ?_); (· first | trivial | (refine ⟨trivial, ?_⟩; omega) | (rw [hzpl]; refine ⟨trivial, ?_⟩; show _ + _ ≤ 1073741824; omega) | (rw [hzpl]; show _ + _ ≤ 1073741824; omega)))
      | ((with_reducible apply go_ret_rows hT); (· (cbv; try rfl)); (· (cbv; try rfl)); (· (cbv; (try simp only [true_and, and_true]); (try ((repeat' apply And.intro) <;> (first | trivial | rfl | decide ))))); (· (cbv; (try simp only [true_and, and_true]); (try ((repeat' apply And.intro) <;> (first | trivial | rfl | exact RowLe.rfl' _ ))))); (· rfl))
      | ((with_reducible apply go_fin_rows hT); (· (cbv; try rfl)); (· (cbv; try rfl)); (· (cbv; (try simp only [true_and, and_true]); (try ((repeat' apply And.intro) <;> (first | trivial | rfl | decide ))))); (· (cbv; (try simp only [true_and, and_true]); (try ((repeat' apply And.intro) <;> (first | trivial | rfl | exact RowLe.rfl' _ ))))); (· rfl))
      | ((with_reducible apply go_call_int (f := 13) (hf := Try.call13)); (· (cbv; try rfl)); (· intro wc hbc hxc; exact rPlaceChkF _ _ _ wc); intro z hz)
      | ((with_reducible apply go_callq_int (f := 13) (hf := Try.call13)); (· (cbv; try rfl)); (· intro wc hbc hxc; exact rPlaceChkF _ _ _ wc); intro z hz)
      )
    all_goals try (rw [hR]; done)
    all_goals
      exfalso
      refine ha ⟨⟨k1 _ (by assumption) (by assumption), k2 _ (by assumption) (by assumption)⟩, ?_, ?_⟩
      all_goals
        clear hT k1 k2 ha
        subst hcm
        simp only [rCm, decide_eq_true_eq, decide_eq_false_iff_not] at *
        omega
  rw [ha, cond_true] at hR
  simp only [askB, Bool.and_eq_true, decide_eq_true_eq] at ha
  have h1 (wc : World) := againstC t x u ha.1.1 ha.1.2 t0 x0 ha.2 wc
  obtain ⟨z, hz⟩ : ∃ z, z = conB t x u := ⟨_, rfl⟩
  rw [← hz] at h1 hR
  clear hz t0 x0
  obtain ⟨⟨tl, td, tf⟩, tw, te⟩ := t
  obtain ⟨xa, ⟨xl, xd, xf⟩, xb, xc⟩ := x
  simp only at h1 ha b0
  obtain ⟨⟨ht, hx⟩, hb1, hb3⟩ := ha
  refine go_start (args := [.pt (.agg (GTouch.sc _)), .pt (.agg (GLoan.sc _)), .pt (.one (.bool u))]) (c := NoRows) Try.func10 rfl (noRows_ok _) rfl rfl ?_
  obtain ⟨nd, hnd⟩ : ∃ f : Bool → Bool → Bool, f = and := ⟨_, rfl⟩
  obtain ⟨nt, hnt⟩ : ∃ f : Bool → Bool, f = not := ⟨_, rfl⟩
  obtain ⟨ar, har⟩ : ∃ f : BinOp → IntKind → Int → Int → Int, f = rAr := ⟨_, rfl⟩
  obtain ⟨cm, hcm⟩ : ∃ f : BinOp → Int → Int → Bool, f = rCm := ⟨_, rfl⟩
  obtain ⟨mx, hmx⟩ : ∃ f : Int → Int → Int, f = rMx := ⟨_, rfl⟩
  obtain ⟨mn, hmn⟩ : ∃ f : Int → Int → Int, f = rMn := ⟨_, rfl⟩
  have ar01 : ar .add .i64 0 1 = 1 := by rw [har]; decide
  have ar12 : ar .add .i64 1 1 = 2 := by rw [har]; decide
  obtain ⟨zpl, hzpl⟩ : ∃ f : Nat → Nat → Nat, f = fun x y => x + y := ⟨_, rfl⟩
  obtain ⟨zjn, hzjn⟩ : ∃ f : Nat → (Nat → List SC) → (Nat → List SC) → Nat → List SC, f = rJn := ⟨_, rfl⟩
  obtain ⟨zup, hzup⟩ : ∃ f : (Nat → List SC) → Nat → Nat → List SC → Nat → List SC, f = rUp := ⟨_, rfl⟩
  obtain ⟨zmi, hzmi⟩ : ∃ f : Nat → Nat → Nat, f = fun x y => x - y := ⟨_, rfl⟩
  obtain ⟨zdp, hzdp⟩ : ∃ f : Nat → (Nat → List SC) → Nat → List SC, f = rDp := ⟨_, rfl⟩
  have hT := T0_ok hnd hnt har hcm hmx hmn hzpl hzjn hzup hzmi hzdp
  have q1 : decide (xb = 0) = false := decide_eq_false (by omega)
  have q2 : cm .gtr xb 3 = false := by rw [hcm]; exact decide_eq_false (show ¬ (3 : Int) < xb by omega)
  repeat' (first
    | ((with_reducible apply go_ev hT 400); (· (cbv; try rfl)); (fail_if_success with_reducible apply stuck_id))
    | ((with_reducible refine go_brt ?_ ?_); (· first | rfl | assumption | (rw [hcm]; decide)))
    | ((with_reducible refine go_brf ?_ ?_); (· first | rfl | assumption | (rw [hcm]; decide)))
    | ((with_reducible refine go_brnt hnt ?_ ?_); (· first | rfl | assumption))
    | ((with_reducible refine go_brnf hnt ?_ ?_); (· first | rfl | assumption))
    | (with_reducible refine go_brn hnt (fun h => ?_) (fun h => ?_))
    | (with_reducible refine go_brl hcm (fun hlt => ?_) (fun hge => ?_))
    | (with_reducible refine go_br (fun h => ?_) (fun h => ?_))
    | ((with_reducible apply go_ret_val hT); (· (cbv; try rfl)); (· (cbv; try rfl)))
    | ((with_reducible apply go_fin_val hT); (· (cbv; try rfl)); (· (cbv; try rfl)))
    | ((with_reducible apply go_draw); (· rfl); (· kernel_rfl); (· kernel_rfl))
    | ((with_reducible apply go_drawE); (· kernel_rfl))
    | (with_reducible refine go_fork ?_)
    | (with_reducible refine fork_cons ?_ ?_)
    | (with_reducible exact fork_nil)
    | ((with_reducible refine go_need ?_ ?_ ?_); (· first | omega | (simp only [Int.ofNat_eq_natCast]; omega)); (· first | omega | (simp only [Int.ofNat_eq_natCast]; omega)))
    | ((with_reducible refine go_ob ?_ ?_); (· first | trivial | (refine ⟨trivial, ?_⟩; omega) | (rw [hzpl]; refine ⟨trivial, ?_⟩; show _ + _ ≤ 1073741824; omega) | (rw [hzpl]; show _ + _ ≤ 1073741824; omega)))
    | ((with_reducible apply go_ret_rows hT); (· (cbv; try rfl)); (· (cbv; try rfl)); (· (cbv; (try simp only [true_and, and_true]); (try ((repeat' apply And.intro) <;> (first | trivial | rfl | decide ))))); (· (cbv; (try simp only [true_and, and_true]); (try ((repeat' apply And.intro) <;> (first | trivial | rfl | exact RowLe.rfl' _ ))))); (· rfl))
    | ((with_reducible apply go_fin_rows hT); (· (cbv; try rfl)); (· (cbv; try rfl)); (· (cbv; (try simp only [true_and, and_true]); (try ((repeat' apply And.intro) <;> (first | trivial | rfl | decide ))))); (· (cbv; (try simp only [true_and, and_true]); (try ((repeat' apply And.intro) <;> (first | trivial | rfl | exact RowLe.rfl' _ ))))); (· rfl))
    | ((with_reducible apply go_call (f := 13) (hf := Try.call13)); (· (cbv; try rfl)); (· intro wc hbc hxc; exact rPlaceOk _ _ _ (by first | exact ht | exact hx) wc))
    | ((with_reducible apply go_callq (f := 13) (hf := Try.call13)); (· (cbv; try rfl)); (· intro wc hbc hxc; exact rPlaceOk _ _ _ (by first | exact ht | exact hx) wc))
    | ((with_reducible apply go_call (f := 26) (hf := Try.call26)); (· (cbv; try rfl)); (· intro wc hbc hxc; exact h1 wc))
    | ((with_reducible apply go_callq (f := 26) (hf := Try.call26)); (· (cbv; try rfl)); (· intro wc hbc hxc; exact h1 wc))
    )
  all_goals rw [hR]

end Go.Proofs.Ytgoeinkmndicfaa
