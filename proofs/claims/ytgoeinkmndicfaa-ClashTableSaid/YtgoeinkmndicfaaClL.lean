/- Layer 23, the chapter's examples. No condition. -/
import Derived.Test.YtgoeinkmndicfaaClE
import Derived.Test.YtgoeinkmndicfaaSxQ
namespace Go.Proofs.Ytgoeinkmndicfaa
open Go.RowKit
set_option linter.unusedVariables false
set_option linter.unusedSimpArgs false

section
variable {Q : Exit → Act → World → Prop} {c : Nat → Nat → Row} {w0 : Base}
theorem go_touchLit (n : Nat) (L : List GTouch) {pa : Int} {un : Bool} {l b : SC} {xi : Int} {dst : Option Nat} {k : List Item} {st : St} (hxi : xi = .ofNat n) (hv : ∀ S B, toVsB S B c [.pt (.agg [.int .i64 pa, .lit un, l, b]), .pt (.one (.int .i64 xi))] = some [(litF st.h B pa un l b).val, .int .i64 xi]) (hok : litOk st.h l b = true) (hO : ∀ B, fchkV (litF st.h B pa un l b) = 0)
    (hx : ∀ B, decide (n < stN (litF st.h B pa un l b).sn (litF st.h B pa un l b).bn) = true) (hL : ∀ B, ptT (litF st.h B pa un l b) (pbN (litF st.h B pa un l b) n) (piN (litF st.h B pa un l b) n) = L)
    (h : Goes Try.prog Q c w0 k (({ st with r := st.r ++ someR [touR L] } : St).put dst ((SV.tup [.one (.rs 0), .one (.int .i64 0)]).shR (lenM st.r)))) : OutOk Try.prog Q c w0 (.call 7 [.pt (.agg [.int .i64 pa, .lit un, l, b]), .pt (.one (.int .i64 xi))] dst k st) :=
  go_callB (vs := fun S B => [(litF st.h B pa un l b).val, .int .i64 xi]) hv Try.call7 (fun w S B hk hx' hM => by
    subst hxi
    have hO : GFun.Ok (litF st.h B pa un l b) := hO B
    have := touchesAt _ w (litF_at hM hok) hO n (of_decide_eq_true (hx B))
    rw [hL B] at this
    exact Calls.to (c' := c) (touPlain L) rfl this) rfl h
end

set_option maxRecDepth 100000 in
theorem localC (n : Int) (w : World) : Calls Try.prog 15 #[.int .i64 n] w (Ret w (.agg #[.int .i64 n, .bool false, .int .u8 0])) := by
  refine go_start (args := [.pt (.one (.int .i64 n))]) (c := NoRows) Try.func15 rfl (noRows_ok _) rfl rfl ?_
  obtain ⟨nd, hnd⟩ : ∃ f : Bool → Bool → Bool, f = and := ⟨_, rfl⟩
  obtain ⟨nt, hnt⟩ : ∃ f : Bool → Bool, f = not := ⟨_, rfl⟩
  obtain ⟨ar, har⟩ : ∃ f : BinOp → IntKind → Int → Int → Int, f = rAr := ⟨_, rfl⟩
  obtain ⟨cm, hcm⟩ : ∃ f : BinOp → Int → Int → Bool, f = rCm := ⟨_, rfl⟩
  obtain ⟨mx, hmx⟩ : ∃ f : Int → Int → Int, f = rMx := ⟨_, rfl⟩
  obtain ⟨mn, hmn⟩ : ∃ f : Int → Int → Int, f = rMn := ⟨_, rfl⟩
  have ar01 : ar .add .i64 0 1 = 1 := by rw [har]; decide
  have ar12 : ar .add .i64 1 1 = 2 := by rw [har]; decide
  obtain ⟨zpl, hzpl⟩ : ∃ f : Nat → Nat → Nat, f = fun x y => x + y := ⟨_, rfl⟩
  obtain ⟨zjn, hzjn⟩ : ∃ f : Nat → (Nat → List SC) → (Nat → List SC) → Nat → List SC, f = rJn := ⟨_, rfl⟩
  obtain ⟨zup, hzup⟩ : ∃ f : (Nat → List SC) → Nat → Nat → List SC → Nat → List SC, f = rUp := ⟨_, rfl⟩
  obtain ⟨zmi, hzmi⟩ : ∃ f : Nat → Nat → Nat, f = fun x y => x - y := ⟨_, rfl⟩
  obtain ⟨zdp, hzdp⟩ : ∃ f : Nat → (Nat → List SC) → Nat → List SC, f = rDp := ⟨_, rfl⟩
  have hT := T0_ok hnd hnt har hcm hmx hmn hzpl hzjn hzup hzmi hzdp
  repeat' (first
    | ((with_reducible apply go_ev hT 400); (· (cbv; try rfl)); (fail_if_success with_reducible apply stuck_id))
    | ((with_reducible refine go_brt ?_ ?_); (· first | rfl | assumption | (rw [hcm]; decide)))
    | ((with_reducible refine go_brf ?_ ?_); (· first | rfl | assumption | (rw [hcm]; decide)))
    | ((with_reducible refine go_brnt hnt ?_ ?_); (· first | rfl | assumption))
    | ((with_reducible refine go_brnf hnt ?_ ?_); (· first | rfl | assumption))
    | (with_reducible refine go_brn hnt (fun h => ?_) (fun h => ?_))
    | (with_reducible refine go_brl hcm (fun hlt => ?_) (fun hge => ?_))
    | (with_reducible refine go_br (fun h => ?_) (fun h => ?_))
    | ((with_reducible apply go_ret_val hT); (· (cbv; try rfl)); (· (cbv; try rfl)))
    | ((with_reducible apply go_fin_val hT); (· (cbv; try rfl)); (· (cbv; try rfl)))
    | ((with_reducible apply go_draw); (· rfl); (· kernel_rfl); (· kernel_rfl))
    | ((with_reducible apply go_drawE); (· kernel_rfl))
    | (with_reducible refine go_fork ?_)
    | (with_reducible refine fork_cons ?_ ?_)
    | (with_reducible exact fork_nil)
    | ((with_reducible refine go_need ?_ ?_ ?_); (· first | omega | (simp only [Int.ofNat_eq_natCast]; omega)); (· first | omega | (simp only [Int.ofNat_eq_natCast]; omega)))
    | ((with_reducible refine go_ob ?_ ?_); (· first | trivial | (refine ⟨trivial, ?_⟩; omega) | (rw [hzpl]; refine ⟨trivial, ?_⟩; show _ + _ ≤ 1073741824; omega) | (rw [hzpl]; show _ + _ ≤ 1073741824; omega)))
    | ((with_reducible apply go_ret_rows hT); (· (cbv; try rfl)); (· (cbv; try rfl)); (· (cbv; (try simp only [true_and, and_true]); (try ((repeat' apply And.intro) <;> (first | trivial | rfl | decide ))))); (· (cbv; (try simp only [true_and, and_true]); (try ((repeat' apply And.intro) <;> (first | trivial | rfl | exact RowLe.rfl' _ ))))); (· rfl))
    | ((with_reducible apply go_fin_rows hT); (· (cbv; try rfl)); (· (cbv; try rfl)); (· (cbv; (try simp only [true_and, and_true]); (try ((repeat' apply And.intro) <;> (first | trivial | rfl | decide ))))); (· (cbv; (try simp only [true_and, and_true]); (try ((repeat' apply And.intro) <;> (first | trivial | rfl | exact RowLe.rfl' _ ))))); (· rfl))
    )
  all_goals rfl
set_option maxRecDepth 100000 in
theorem behindC (n : Int) (w : World) : Calls Try.prog 27 #[.int .i64 n] w (Ret w (.agg #[.int .i64 n, .bool true, .int .u8 0])) := by
  refine go_start (args := [.pt (.one (.int .i64 n))]) (c := NoRows) Try.func27 rfl (noRows_ok _) rfl rfl ?_
  obtain ⟨nd, hnd⟩ : ∃ f : Bool → Bool → Bool, f = and := ⟨_, rfl⟩
  obtain ⟨nt, hnt⟩ : ∃ f : Bool → Bool, f = not := ⟨_, rfl⟩
  obtain ⟨ar, har⟩ : ∃ f : BinOp → IntKind → Int → Int → Int, f = rAr := ⟨_, rfl⟩
  obtain ⟨cm, hcm⟩ : ∃ f : BinOp → Int → Int → Bool, f = rCm := ⟨_, rfl⟩
  obtain ⟨mx, hmx⟩ : ∃ f : Int → Int → Int, f = rMx := ⟨_, rfl⟩
  obtain ⟨mn, hmn⟩ : ∃ f : Int → Int → Int, f = rMn := ⟨_, rfl⟩
  have ar01 : ar .add .i64 0 1 = 1 := by rw [har]; decide
  have ar12 : ar .add .i64 1 1 = 2 := by rw [har]; decide
  obtain ⟨zpl, hzpl⟩ : ∃ f : Nat → Nat → Nat, f = fun x y => x + y := ⟨_, rfl⟩
  obtain ⟨zjn, hzjn⟩ : ∃ f : Nat → (Nat → List SC) → (Nat → List SC) → Nat → List SC, f = rJn := ⟨_, rfl⟩
  obtain ⟨zup, hzup⟩ : ∃ f : (Nat → List SC) → Nat → Nat → List SC → Nat → List SC, f = rUp := ⟨_, rfl⟩
  obtain ⟨zmi, hzmi⟩ : ∃ f : Nat → Nat → Nat, f = fun x y => x - y := ⟨_, rfl⟩
  obtain ⟨zdp, hzdp⟩ : ∃ f : Nat → (Nat → List SC) → Nat → List SC, f = rDp := ⟨_, rfl⟩
  have hT := T0_ok hnd hnt har hcm hmx hmn hzpl hzjn hzup hzmi hzdp
  repeat' (first
    | ((with_reducible apply go_ev hT 400); (· (cbv; try rfl)); (fail_if_success with_reducible apply stuck_id))
    | ((with_reducible refine go_brt ?_ ?_); (· first | rfl | assumption | (rw [hcm]; decide)))
    | ((with_reducible refine go_brf ?_ ?_); (· first | rfl | assumption | (rw [hcm]; decide)))
    | ((with_reducible refine go_brnt hnt ?_ ?_); (· first | rfl | assumption))
    | ((with_reducible refine go_brnf hnt ?_ ?_); (· first | rfl | assumption))
    | (with_reducible refine go_brn hnt (fun h => ?_) (fun h => ?_))
    | (with_reducible refine go_brl hcm (fun hlt => ?_) (fun hge => ?_))
    | (with_reducible refine go_br (fun h => ?_) (fun h => ?_))
    | ((with_reducible apply go_ret_val hT); (· (cbv; try rfl)); (· (cbv; try rfl)))
    | ((with_reducible apply go_fin_val hT); (· (cbv; try rfl)); (· (cbv; try rfl)))
    | ((with_reducible apply go_draw); (· rfl); (· kernel_rfl); (· kernel_rfl))
    | ((with_reducible apply go_drawE); (· kernel_rfl))
    | (with_reducible refine go_fork ?_)
    | (with_reducible refine fork_cons ?_ ?_)
    | (with_reducible exact fork_nil)
    | ((with_reducible refine go_need ?_ ?_ ?_); (· first | omega | (simp only [Int.ofNat_eq_natCast]; omega)); (· first | omega | (simp only [Int.ofNat_eq_natCast]; omega)))
    | ((with_reducible refine go_ob ?_ ?_); (· first | trivial | (refine ⟨trivial, ?_⟩; omega) | (rw [hzpl]; refine ⟨trivial, ?_⟩; show _ + _ ≤ 1073741824; omega) | (rw [hzpl]; show _ + _ ≤ 1073741824; omega)))
    | ((with_reducible apply go_ret_rows hT); (· (cbv; try rfl)); (· (cbv; try rfl)); (· (cbv; (try simp only [true_and, and_true]); (try ((repeat' apply And.intro) <;> (first | trivial | rfl | decide ))))); (· (cbv; (try simp only [true_and, and_true]); (try ((repeat' apply And.intro) <;> (first | trivial | rfl | exact RowLe.rfl' _ ))))); (· rfl))
    | ((with_reducible apply go_fin_rows hT); (· (cbv; try rfl)); (· (cbv; try rfl)); (· (cbv; (try simp only [true_and, and_true]); (try ((repeat' apply And.intro) <;> (first | trivial | rfl | decide ))))); (· (cbv; (try simp only [true_and, and_true]); (try ((repeat' apply And.intro) <;> (first | trivial | rfl | exact RowLe.rfl' _ ))))); (· rfl))
    )
  all_goals rfl
set_option maxRecDepth 100000 in
theorem useC (k l f : Int) (d : Bool) (w : World) : Calls Try.prog 31 #[.int .u8 k, .agg #[.int .i64 l, .bool d, .int .u8 f]] w (Ret w (GRv.val ⟨1, 0, 0, ⟨k, 0, ⟨l, d, f⟩⟩, .zero, .zero⟩)) := by
  refine go_start (args := [.pt (.one (.int .u8 k)), .pt (.agg [.int .i64 l, .bool d, .int .u8 f])]) (c := NoRows) Try.func31 rfl (noRows_ok _) rfl rfl ?_
  obtain ⟨nd, hnd⟩ : ∃ f : Bool → Bool → Bool, f = and := ⟨_, rfl⟩
  obtain ⟨nt, hnt⟩ : ∃ f : Bool → Bool, f = not := ⟨_, rfl⟩
  obtain ⟨ar, har⟩ : ∃ f : BinOp → IntKind → Int → Int → Int, f = rAr := ⟨_, rfl⟩
  obtain ⟨cm, hcm⟩ : ∃ f : BinOp → Int → Int → Bool, f = rCm := ⟨_, rfl⟩
  obtain ⟨mx, hmx⟩ : ∃ f : Int → Int → Int, f = rMx := ⟨_, rfl⟩
  obtain ⟨mn, hmn⟩ : ∃ f : Int → Int → Int, f = rMn := ⟨_, rfl⟩
  have ar01 : ar .add .i64 0 1 = 1 := by rw [har]; decide
  have ar12 : ar .add .i64 1 1 = 2 := by rw [har]; decide
  obtain ⟨zpl, hzpl⟩ : ∃ f : Nat → Nat → Nat, f = fun x y => x + y := ⟨_, rfl⟩
  obtain ⟨zjn, hzjn⟩ : ∃ f : Nat → (Nat → List SC) → (Nat → List SC) → Nat → List SC, f = rJn := ⟨_, rfl⟩
  obtain ⟨zup, hzup⟩ : ∃ f : (Nat → List SC) → Nat → Nat → List SC → Nat → List SC, f = rUp := ⟨_, rfl⟩
  obtain ⟨zmi, hzmi⟩ : ∃ f : Nat → Nat → Nat, f = fun x y => x - y := ⟨_, rfl⟩
  obtain ⟨zdp, hzdp⟩ : ∃ f : Nat → (Nat → List SC) → Nat → List SC, f = rDp := ⟨_, rfl⟩
  have hT := T0_ok hnd hnt har hcm hmx hmn hzpl hzjn hzup hzmi hzdp
  repeat' (first
    | ((with_reducible apply go_ev hT 400); (· (cbv; try rfl)); (fail_if_success with_reducible apply stuck_id))
    | ((with_reducible refine go_brt ?_ ?_); (· first | rfl | assumption | (rw [hcm]; decide)))
    | ((with_reducible refine go_brf ?_ ?_); (· first | rfl | assumption | (rw [hcm]; decide)))
    | ((with_reducible refine go_brnt hnt ?_ ?_); (· first | rfl | assumption))
    | ((with_reducible refine go_brnf hnt ?_ ?_); (· first | rfl | assumption))
    | (with_reducible refine go_brn hnt (fun h => ?_) (fun h => ?_))
    | (with_reducible refine go_brl hcm (fun hlt => ?_) (fun hge => ?_))
    | (with_reducible refine go_br (fun h => ?_) (fun h => ?_))
    | ((with_reducible apply go_ret_val hT); (· (cbv; try rfl)); (· (cbv; try rfl)))
    | ((with_reducible apply go_fin_val hT); (· (cbv; try rfl)); (· (cbv; try rfl)))
    | ((with_reducible apply go_draw); (· rfl); (· kernel_rfl); (· kernel_rfl))
    | ((with_reducible apply go_drawE); (· kernel_rfl))
    | (with_reducible refine go_fork ?_)
    | (with_reducible refine fork_cons ?_ ?_)
    | (with_reducible exact fork_nil)
    | ((with_reducible refine go_need ?_ ?_ ?_); (· first | omega | (simp only [Int.ofNat_eq_natCast]; omega)); (· first | omega | (simp only [Int.ofNat_eq_natCast]; omega)))
    | ((with_reducible refine go_ob ?_ ?_); (· first | trivial | (refine ⟨trivial, ?_⟩; omega) | (rw [hzpl]; refine ⟨trivial, ?_⟩; show _ + _ ≤ 1073741824; omega) | (rw [hzpl]; show _ + _ ≤ 1073741824; omega)))
    | ((with_reducible apply go_ret_rows hT); (· (cbv; try rfl)); (· (cbv; try rfl)); (· (cbv; (try simp only [true_and, and_true]); (try ((repeat' apply And.intro) <;> (first | trivial | rfl | decide ))))); (· (cbv; (try simp only [true_and, and_true]); (try ((repeat' apply And.intro) <;> (first | trivial | rfl | exact RowLe.rfl' _ ))))); (· rfl))
    | ((with_reducible apply go_fin_rows hT); (· (cbv; try rfl)); (· (cbv; try rfl)); (· (cbv; (try simp only [true_and, and_true]); (try ((repeat' apply And.intro) <;> (first | trivial | rfl | decide ))))); (· (cbv; (try simp only [true_and, and_true]); (try ((repeat' apply And.intro) <;> (first | trivial | rfl | exact RowLe.rfl' _ ))))); (· rfl))
    )
  all_goals rfl
set_option maxRecDepth 100000 in
theorem assignC (ql qf rk ro rb ak an al af ek en el ef gl gf : Int) (qd ad ed gd : Bool) (w : World) : Calls Try.prog 30 #[.agg #[.int .i64 ql, .bool qd, .int .u8 qf], .agg #[.int .u8 rk, .int .u8 ro, .int .u8 rb, .int .u8 ak, .int .i64 an, .int .i64 al, .bool ad, .int .u8 af, .int .u8 ek, .int .i64 en, .int .i64 el, .bool ed, .int .u8 ef, .int .i64 gl, .bool gd, .int .u8 gf]] w (Ret w (GStmt.val ⟨1, ⟨ql, qd, qf⟩, ⟨rk, ro, rb, ⟨ak, an, ⟨al, ad, af⟩⟩, ⟨ek, en, ⟨el, ed, ef⟩⟩, ⟨gl, gd, gf⟩⟩, .zero, 0⟩)) := by
  refine go_start (args := [.pt (.agg [.int .i64 ql, .bool qd, .int .u8 qf]), .pt (.agg (GRv.sc ⟨rk, ro, rb, ⟨ak, an, ⟨al, ad, af⟩⟩, ⟨ek, en, ⟨el, ed, ef⟩⟩, ⟨gl, gd, gf⟩⟩))]) (c := NoRows) Try.func30 rfl (noRows_ok _) rfl rfl ?_
  obtain ⟨nd, hnd⟩ : ∃ f : Bool → Bool → Bool, f = and := ⟨_, rfl⟩
  obtain ⟨nt, hnt⟩ : ∃ f : Bool → Bool, f = not := ⟨_, rfl⟩
  obtain ⟨ar, har⟩ : ∃ f : BinOp → IntKind → Int → Int → Int, f = rAr := ⟨_, rfl⟩
  obtain ⟨cm, hcm⟩ : ∃ f : BinOp → Int → Int → Bool, f = rCm := ⟨_, rfl⟩
  obtain ⟨mx, hmx⟩ : ∃ f : Int → Int → Int, f = rMx := ⟨_, rfl⟩
  obtain ⟨mn, hmn⟩ : ∃ f : Int → Int → Int, f = rMn := ⟨_, rfl⟩
  have ar01 : ar .add .i64 0 1 = 1 := by rw [har]; decide
  have ar12 : ar .add .i64 1 1 = 2 := by rw [har]; decide
  obtain ⟨zpl, hzpl⟩ : ∃ f : Nat → Nat → Nat, f = fun x y => x + y := ⟨_, rfl⟩
  obtain ⟨zjn, hzjn⟩ : ∃ f : Nat → (Nat → List SC) → (Nat → List SC) → Nat → List SC, f = rJn := ⟨_, rfl⟩
  obtain ⟨zup, hzup⟩ : ∃ f : (Nat → List SC) → Nat → Nat → List SC → Nat → List SC, f = rUp := ⟨_, rfl⟩
  obtain ⟨zmi, hzmi⟩ : ∃ f : Nat → Nat → Nat, f = fun x y => x - y := ⟨_, rfl⟩
  obtain ⟨zdp, hzdp⟩ : ∃ f : Nat → (Nat → List SC) → Nat → List SC, f = rDp := ⟨_, rfl⟩
  have hT := T0_ok hnd hnt har hcm hmx hmn hzpl hzjn hzup hzmi hzdp
  repeat' (first
    | ((with_reducible apply go_ev hT 400); (· (cbv; try rfl)); (fail_if_success with_reducible apply stuck_id))
    | ((with_reducible refine go_brt ?_ ?_); (· first | rfl | assumption | (rw [hcm]; decide)))
    | ((with_reducible refine go_brf ?_ ?_); (· first | rfl | assumption | (rw [hcm]; decide)))
    | ((with_reducible refine go_brnt hnt ?_ ?_); (· first | rfl | assumption))
    | ((with_reducible refine go_brnf hnt ?_ ?_); (· first | rfl | assumption))
    | (with_reducible refine go_brn hnt (fun h => ?_) (fun h => ?_))
    | (with_reducible refine go_brl hcm (fun hlt => ?_) (fun hge => ?_))
    | (with_reducible refine go_br (fun h => ?_) (fun h => ?_))
    | ((with_reducible apply go_ret_val hT); (· (cbv; try rfl)); (· (cbv; try rfl)))
    | ((with_reducible apply go_fin_val hT); (· (cbv; try rfl)); (· (cbv; try rfl)))
    | ((with_reducible apply go_draw); (· rfl); (· kernel_rfl); (· kernel_rfl))
    | ((with_reducible apply go_drawE); (· kernel_rfl))
    | (with_reducible refine go_fork ?_)
    | (with_reducible refine fork_cons ?_ ?_)
    | (with_reducible exact fork_nil)
    | ((with_reducible refine go_need ?_ ?_ ?_); (· first | omega | (simp only [Int.ofNat_eq_natCast]; omega)); (· first | omega | (simp only [Int.ofNat_eq_natCast]; omega)))
    | ((with_reducible refine go_ob ?_ ?_); (· first | trivial | (refine ⟨trivial, ?_⟩; omega) | (rw [hzpl]; refine ⟨trivial, ?_⟩; show _ + _ ≤ 1073741824; omega) | (rw [hzpl]; show _ + _ ≤ 1073741824; omega)))
    | ((with_reducible apply go_ret_rows hT); (· (cbv; try rfl)); (· (cbv; try rfl)); (· (cbv; (try simp only [true_and, and_true]); (try ((repeat' apply And.intro) <;> (first | trivial | rfl | decide ))))); (· (cbv; (try simp only [true_and, and_true]); (try ((repeat' apply And.intro) <;> (first | trivial | rfl | exact RowLe.rfl' _ ))))); (· rfl))
    | ((with_reducible apply go_fin_rows hT); (· (cbv; try rfl)); (· (cbv; try rfl)); (· (cbv; (try simp only [true_and, and_true]); (try ((repeat' apply And.intro) <;> (first | trivial | rfl | decide ))))); (· (cbv; (try simp only [true_and, and_true]); (try ((repeat' apply And.intro) <;> (first | trivial | rfl | exact RowLe.rfl' _ ))))); (· rfl))
    )
  all_goals rfl
theorem clashesF (tl tf xa xl xf xb xc : Int) (td tw te xd u : Bool) (t0 : 0 ≤ tf) (x0 : 0 ≤ xf) (w : World) :
    Calls Try.prog 9 #[.agg #[.int .i64 tl, .bool td, .int .u8 tf, .bool tw, .bool te], .agg #[.int .i64 xa, .int .i64 xl, .bool xd, .int .u8 xf, .int .u8 xb, .int .i64 xc], .bool u] w (Ret w (bif askB ⟨⟨tl, td, tf⟩, tw, te⟩ ⟨xa, ⟨xl, xd, xf⟩, xb, xc⟩ then .tuple #[.bool (conB ⟨⟨tl, td, tf⟩, tw, te⟩ ⟨xa, ⟨xl, xd, xf⟩, xb, xc⟩ u), .int .i64 0] else .tuple #[.bool false, .int .i64 8])) := clashesC ⟨⟨tl, td, tf⟩, tw, te⟩ ⟨xa, ⟨xl, xd, xf⟩, xb, xc⟩ u t0 x0 w

set_option maxRecDepth 100000 in
set_option maxHeartbeats 32000000 in
theorem alive23C (w : World) :
    Calls Try.prog 12 #[] w (Ret w (.bool true)) := by
  refine go_start (args := []) (c := NoRows) Try.func12 rfl (noRows_ok _) rfl rfl ?_
  obtain ⟨nd, hnd⟩ : ∃ f : Bool → Bool → Bool, f = and := ⟨_, rfl⟩
  obtain ⟨nt, hnt⟩ : ∃ f : Bool → Bool, f = not := ⟨_, rfl⟩
  obtain ⟨ar, har⟩ : ∃ f : BinOp → IntKind → Int → Int → Int, f = rAr := ⟨_, rfl⟩
  obtain ⟨cm, hcm⟩ : ∃ f : BinOp → Int → Int → Bool, f = rCm := ⟨_, rfl⟩
  obtain ⟨mx, hmx⟩ : ∃ f : Int → Int → Int, f = rMx := ⟨_, rfl⟩
  obtain ⟨mn, hmn⟩ : ∃ f : Int → Int → Int, f = rMn := ⟨_, rfl⟩
  have ar01 : ar .add .i64 0 1 = 1 := by rw [har]; decide
  have ar12 : ar .add .i64 1 1 = 2 := by rw [har]; decide
  obtain ⟨zpl, hzpl⟩ : ∃ f : Nat → Nat → Nat, f = fun x y => x + y := ⟨_, rfl⟩
  obtain ⟨zjn, hzjn⟩ : ∃ f : Nat → (Nat → List SC) → (Nat → List SC) → Nat → List SC, f = rJn := ⟨_, rfl⟩
  obtain ⟨zup, hzup⟩ : ∃ f : (Nat → List SC) → Nat → Nat → List SC → Nat → List SC, f = rUp := ⟨_, rfl⟩
  obtain ⟨zmi, hzmi⟩ : ∃ f : Nat → Nat → Nat, f = fun x y => x - y := ⟨_, rfl⟩
  obtain ⟨zdp, hzdp⟩ : ∃ f : Nat → (Nat → List SC) → Nat → List SC, f = rDp := ⟨_, rfl⟩
  have hT := T0_ok hnd hnt har hcm hmx hmn hzpl hzjn hzup hzmi hzdp
  subst hnd hnt har hcm hmx hmn hzpl hzjn hzup hzmi hzdp
  repeat' (first
    | ((with_reducible apply go_ev hT 400); (· (cbv; try rfl)); (fail_if_success with_reducible apply stuck_id))
    | ((with_reducible refine go_brt ?_ ?_); (· first | rfl | assumption | (rw [hcm]; decide)))
    | ((with_reducible refine go_brf ?_ ?_); (· first | rfl | assumption | (rw [hcm]; decide)))
    | ((with_reducible refine go_brnt hnt ?_ ?_); (· first | rfl | assumption))
    | ((with_reducible refine go_brnf hnt ?_ ?_); (· first | rfl | assumption))
    | (with_reducible refine go_brn hnt (fun h => ?_) (fun h => ?_))
    | (with_reducible refine go_brl hcm (fun hlt => ?_) (fun hge => ?_))
    | (with_reducible refine go_br (fun h => ?_) (fun h => ?_))
    | ((with_reducible apply go_ret_val hT); (· (cbv; try rfl)); (· (cbv; try rfl)))
    | ((with_reducible apply go_fin_val hT); (· (cbv; try rfl)); (· (cbv; try rfl)))
    | (with_reducible refine go_fork ?_)
    | (with_reducible refine fork_cons ?_ ?_)
    | (with_reducible exact fork_nil)
    | ((with_reducible refine go_need ?_ ?_ ?_); (· first | omega | (simp only [Int.ofNat_eq_natCast]; omega)); (· first | omega | (simp only [Int.ofNat_eq_natCast]; omega)))
    | ((with_reducible refine go_ob ?_ ?_); (· first | trivial | (refine ⟨trivial, ?_⟩; omega) | (rw [hzpl]; refine ⟨trivial, ?_⟩; show _ + _ ≤ 1073741824; omega) | (rw [hzpl]; show _ + _ ≤ 1073741824; omega)))
    | ((with_reducible apply go_ret_rows hT); (· (cbv; try rfl)); (· (cbv; try rfl)); (· (cbv; (try simp only [true_and, and_true]); (try ((repeat' apply And.intro) <;> (first | trivial | rfl | decide ))))); (· (cbv; (try simp only [true_and, and_true]); (try ((repeat' apply And.intro) <;> (first | trivial | rfl | exact RowLe.rfl' _ ))))); (· rfl))
    | ((with_reducible apply go_fin_rows hT); (· (cbv; try rfl)); (· (cbv; try rfl)); (· (cbv; (try simp only [true_and, and_true]); (try ((repeat' apply And.intro) <;> (first | trivial | rfl | decide ))))); (· (cbv; (try simp only [true_and, and_true]); (try ((repeat' apply And.intro) <;> (first | trivial | rfl | exact RowLe.rfl' _ ))))); (· rfl))
    | ((with_reducible apply go_call (f := 15) (hf := Try.call15)); (· (cbv; try rfl)); (· intro wc hbc hxc; exact localC _ wc))
    | ((with_reducible apply go_callq (f := 15) (hf := Try.call15)); (· (cbv; try rfl)); (· intro wc hbc hxc; exact localC _ wc))
    | ((with_reducible apply go_call (f := 27) (hf := Try.call27)); (· (cbv; try rfl)); (· intro wc hbc hxc; exact behindC _ wc))
    | ((with_reducible apply go_callq (f := 27) (hf := Try.call27)); (· (cbv; try rfl)); (· intro wc hbc hxc; exact behindC _ wc))
    )
  with_reducible refine go_drawE (by kernel_rfl) ?_
  refine go_boxT 1 0 rfl rfl rfl rfl rfl trivial rfl (noRows_qb 0) (noRows_n 0) (fun a1 _ => ?_)
  refine go_boxT 2 1 rfl rfl rfl rfl rfl trivial rfl (box_qb (noRows_qb 0) rfl qbL_up) box_n (fun a2 _ => ?_)
  refine go_boxT 3 2 rfl rfl rfl rfl rfl trivial rfl (box_qb (box_qb (noRows_qb 0) rfl qbL_up) rfl qbL_up) box_n (fun a3 _ => ?_)
  refine go_cutL (σ := Unit) (fun _ => chiG (chiG (chiG NoRows 0 (boxG a1 [.int .i64 2, .bool true, .int .u8 0, .lit false, .lit true])) 1 (boxG a2 [.int .i64 2, .bool false, .int .u8 0, .lit true, .lit true])) 2 (boxG a3 [.int .i64 2, .bool false, .int .u8 0, .lit true, .lit false])) [17, 18, 19, 20, 21, 22, 23, 24, 25, 26, 27, 28, 29, 30, 31, 32, 33, 34, 35, 36, 37, 38, 39, 40, 41, 42, 43, 44, 45, 46, 47, 48] (fun _ => [(6, .pt (.one (.lit true)))]) (fun _ => []) (fun _ => []) rfl ?_ (fun _ => ?_)
  · skip
    repeat' (first
      | ((with_reducible apply go_ev hT 400); (· (cbv; try rfl)); (fail_if_success with_reducible apply stuck_id); (try simp only [ar01, ar12]))
      | ((with_reducible apply go_takeC 0 hT (g := 15) (hfun := Try.call15)); (· rfl); (· kernel_rfl); (· rfl); (· rfl); (· (intro h_; cases h_)); (· kernel_rfl); (· kernel_rfl); (· kernel_rfl); (· (cbv; try rfl)); (· (cbv; try rfl)); (· (cbv; try rfl)); (· intro wc; exact localC _ wc))
      | ((with_reducible apply go_takeC 1 hT (g := 15) (hfun := Try.call15)); (· rfl); (· kernel_rfl); (· rfl); (· rfl); (· (intro h_; cases h_)); (· kernel_rfl); (· kernel_rfl); (· kernel_rfl); (· (cbv; try rfl)); (· (cbv; try rfl)); (· (cbv; try rfl)); (· intro wc; exact localC _ wc))
      | ((with_reducible apply go_takeC 2 hT (g := 15) (hfun := Try.call15)); (· rfl); (· kernel_rfl); (· rfl); (· rfl); (· (intro h_; cases h_)); (· kernel_rfl); (· kernel_rfl); (· kernel_rfl); (· (cbv; try rfl)); (· (cbv; try rfl)); (· (cbv; try rfl)); (· intro wc; exact localC _ wc))
      | ((with_reducible apply go_takeC 3 hT (g := 15) (hfun := Try.call15)); (· rfl); (· kernel_rfl); (· rfl); (· rfl); (· (intro h_; cases h_)); (· kernel_rfl); (· kernel_rfl); (· kernel_rfl); (· (cbv; try rfl)); (· (cbv; try rfl)); (· (cbv; try rfl)); (· intro wc; exact localC _ wc))
      | ((with_reducible apply go_takeC 4 hT (g := 15) (hfun := Try.call15)); (· rfl); (· kernel_rfl); (· rfl); (· rfl); (· (intro h_; cases h_)); (· kernel_rfl); (· kernel_rfl); (· kernel_rfl); (· (cbv; try rfl)); (· (cbv; try rfl)); (· (cbv; try rfl)); (· intro wc; exact localC _ wc))
      | ((with_reducible apply go_takeC 0 hT (g := 27) (hfun := Try.call27)); (· rfl); (· kernel_rfl); (· rfl); (· rfl); (· (intro h_; cases h_)); (· kernel_rfl); (· kernel_rfl); (· kernel_rfl); (· (cbv; try rfl)); (· (cbv; try rfl)); (· (cbv; try rfl)); (· intro wc; exact behindC _ wc))
      | ((with_reducible apply go_takeC 1 hT (g := 27) (hfun := Try.call27)); (· rfl); (· kernel_rfl); (· rfl); (· rfl); (· (intro h_; cases h_)); (· kernel_rfl); (· kernel_rfl); (· kernel_rfl); (· (cbv; try rfl)); (· (cbv; try rfl)); (· (cbv; try rfl)); (· intro wc; exact behindC _ wc))
      | ((with_reducible apply go_takeC 2 hT (g := 27) (hfun := Try.call27)); (· rfl); (· kernel_rfl); (· rfl); (· rfl); (· (intro h_; cases h_)); (· kernel_rfl); (· kernel_rfl); (· kernel_rfl); (· (cbv; try rfl)); (· (cbv; try rfl)); (· (cbv; try rfl)); (· intro wc; exact behindC _ wc))
      | ((with_reducible apply go_takeC 3 hT (g := 27) (hfun := Try.call27)); (· rfl); (· kernel_rfl); (· rfl); (· rfl); (· (intro h_; cases h_)); (· kernel_rfl); (· kernel_rfl); (· kernel_rfl); (· (cbv; try rfl)); (· (cbv; try rfl)); (· (cbv; try rfl)); (· intro wc; exact behindC _ wc))
      | ((with_reducible apply go_takeC 4 hT (g := 27) (hfun := Try.call27)); (· rfl); (· kernel_rfl); (· rfl); (· rfl); (· (intro h_; cases h_)); (· kernel_rfl); (· kernel_rfl); (· kernel_rfl); (· (cbv; try rfl)); (· (cbv; try rfl)); (· (cbv; try rfl)); (· intro wc; exact behindC _ wc))
      | ((with_reducible apply go_takeC 0 hT (g := 31) (hfun := Try.call31)); (· rfl); (· kernel_rfl); (· rfl); (· rfl); (· (intro h_; cases h_)); (· kernel_rfl); (· kernel_rfl); (· kernel_rfl); (· (cbv; try rfl)); (· (cbv; try rfl)); (· (cbv; try rfl)); (· intro wc; exact useC _ _ _ _ wc))
      | ((with_reducible apply go_takeC 1 hT (g := 31) (hfun := Try.call31)); (· rfl); (· kernel_rfl); (· rfl); (· rfl); (· (intro h_; cases h_)); (· kernel_rfl); (· kernel_rfl); (· kernel_rfl); (· (cbv; try rfl)); (· (cbv; try rfl)); (· (cbv; try rfl)); (· intro wc; exact useC _ _ _ _ wc))
      | ((with_reducible apply go_takeC 2 hT (g := 31) (hfun := Try.call31)); (· rfl); (· kernel_rfl); (· rfl); (· rfl); (· (intro h_; cases h_)); (· kernel_rfl); (· kernel_rfl); (· kernel_rfl); (· (cbv; try rfl)); (· (cbv; try rfl)); (· (cbv; try rfl)); (· intro wc; exact useC _ _ _ _ wc))
      | ((with_reducible apply go_takeC 3 hT (g := 31) (hfun := Try.call31)); (· rfl); (· kernel_rfl); (· rfl); (· rfl); (· (intro h_; cases h_)); (· kernel_rfl); (· kernel_rfl); (· kernel_rfl); (· (cbv; try rfl)); (· (cbv; try rfl)); (· (cbv; try rfl)); (· intro wc; exact useC _ _ _ _ wc))
      | ((with_reducible apply go_takeC 4 hT (g := 31) (hfun := Try.call31)); (· rfl); (· kernel_rfl); (· rfl); (· rfl); (· (intro h_; cases h_)); (· kernel_rfl); (· kernel_rfl); (· kernel_rfl); (· (cbv; try rfl)); (· (cbv; try rfl)); (· (cbv; try rfl)); (· intro wc; exact useC _ _ _ _ wc))
      | ((with_reducible apply go_takeC 0 hT (g := 30) (hfun := Try.call30)); (· rfl); (· kernel_rfl); (· rfl); (· rfl); (· (intro h_; cases h_)); (· kernel_rfl); (· kernel_rfl); (· kernel_rfl); (· (cbv; try rfl)); (· (cbv; try rfl)); (· (cbv; try rfl)); (· intro wc; exact assignC _ _ _ _ _ _ _ _ _ _ _ _ _ _ _ _ _ _ _ wc))
      | ((with_reducible apply go_takeC 1 hT (g := 30) (hfun := Try.call30)); (· rfl); (· kernel_rfl); (· rfl); (· rfl); (· (intro h_; cases h_)); (· kernel_rfl); (· kernel_rfl); (· kernel_rfl); (· (cbv; try rfl)); (· (cbv; try rfl)); (· (cbv; try rfl)); (· intro wc; exact assignC _ _ _ _ _ _ _ _ _ _ _ _ _ _ _ _ _ _ _ wc))
      | ((with_reducible apply go_takeC 2 hT (g := 30) (hfun := Try.call30)); (· rfl); (· kernel_rfl); (· rfl); (· rfl); (· (intro h_; cases h_)); (· kernel_rfl); (· kernel_rfl); (· kernel_rfl); (· (cbv; try rfl)); (· (cbv; try rfl)); (· (cbv; try rfl)); (· intro wc; exact assignC _ _ _ _ _ _ _ _ _ _ _ _ _ _ _ _ _ _ _ wc))
      | ((with_reducible apply go_takeC 3 hT (g := 30) (hfun := Try.call30)); (· rfl); (· kernel_rfl); (· rfl); (· rfl); (· (intro h_; cases h_)); (· kernel_rfl); (· kernel_rfl); (· kernel_rfl); (· (cbv; try rfl)); (· (cbv; try rfl)); (· (cbv; try rfl)); (· intro wc; exact assignC _ _ _ _ _ _ _ _ _ _ _ _ _ _ _ _ _ _ _ wc))
      | ((with_reducible apply go_takeC 4 hT (g := 30) (hfun := Try.call30)); (· rfl); (· kernel_rfl); (· rfl); (· rfl); (· (intro h_; cases h_)); (· kernel_rfl); (· kernel_rfl); (· kernel_rfl); (· (cbv; try rfl)); (· (cbv; try rfl)); (· (cbv; try rfl)); (· intro wc; exact assignC _ _ _ _ _ _ _ _ _ _ _ _ _ _ _ _ _ _ _ wc))
      | ((with_reducible refine go_brt ?_ ?_); (· first | rfl | assumption | (rw [hcm]; decide)))
      | ((with_reducible refine go_brf ?_ ?_); (· first | rfl | assumption | (rw [hcm]; decide)))
      | ((with_reducible refine go_brnt hnt ?_ ?_); (· first | rfl | assumption))
      | ((with_reducible refine go_brnf hnt ?_ ?_); (· first | rfl | assumption))
      | (with_reducible refine go_brn hnt (fun h => ?_) (fun h => ?_))
      | (with_reducible refine go_brl hcm (fun hlt => ?_) (fun hge => ?_))
      | (with_reducible refine go_br (fun h => ?_) (fun h => ?_))
      | ((with_reducible apply go_ret_val hT); (· (cbv; try rfl)); (· (cbv; try rfl)))
      | ((with_reducible apply go_fin_val hT); (· (cbv; try rfl)); (· (cbv; try rfl)))
      | (with_reducible refine go_fork ?_)
      | (with_reducible refine fork_cons ?_ ?_)
      | (with_reducible exact fork_nil)
      | ((with_reducible refine go_need ?_ ?_ ?_); (· first | omega | (simp only [Int.ofNat_eq_natCast]; omega)); (· first | omega | (simp only [Int.ofNat_eq_natCast]; omega)))
      | ((with_reducible refine go_ob ?_ ?_); (· first | trivial | (refine ⟨trivial, ?_⟩; omega) | (rw [hzpl]; refine ⟨trivial, ?_⟩; show _ + _ ≤ 1073741824; omega) | (rw [hzpl]; show _ + _ ≤ 1073741824; omega)))
      | ((with_reducible apply go_ret_rows hT); (· (cbv; try rfl)); (· (cbv; try rfl)); (· (cbv; (try simp only [true_and, and_true]); (try ((repeat' apply And.intro) <;> (first | trivial | rfl | decide ))))); (· (cbv; (try simp only [true_and, and_true]); (try ((repeat' apply And.intro) <;> (first | trivial | rfl | exact RowLe.rfl' _ ))))); (· rfl))
      | ((with_reducible apply go_fin_rows hT); (· (cbv; try rfl)); (· (cbv; try rfl)); (· (cbv; (try simp only [true_and, and_true]); (try ((repeat' apply And.intro) <;> (first | trivial | rfl | decide ))))); (· (cbv; (try simp only [true_and, and_true]); (try ((repeat' apply And.intro) <;> (first | trivial | rfl | exact RowLe.rfl' _ ))))); (· rfl))
      | ((with_reducible apply go_call (f := 15) (hf := Try.call15)); (· (cbv; try rfl)); (· intro wc hbc hxc; exact localC _ wc))
      | ((with_reducible apply go_callq (f := 15) (hf := Try.call15)); (· (cbv; try rfl)); (· intro wc hbc hxc; exact localC _ wc))
      | ((with_reducible apply go_call (f := 27) (hf := Try.call27)); (· (cbv; try rfl)); (· intro wc hbc hxc; exact behindC _ wc))
      | ((with_reducible apply go_callq (f := 27) (hf := Try.call27)); (· (cbv; try rfl)); (· intro wc hbc hxc; exact behindC _ wc))
      | ((with_reducible apply go_call (f := 31) (hf := Try.call31)); (· (cbv; try rfl)); (· intro wc hbc hxc; exact useC _ _ _ _ wc))
      | ((with_reducible apply go_callq (f := 31) (hf := Try.call31)); (· (cbv; try rfl)); (· intro wc hbc hxc; exact useC _ _ _ _ wc))
      | ((with_reducible apply go_call (f := 30) (hf := Try.call30)); (· (cbv; try rfl)); (· intro wc hbc hxc; exact assignC _ _ _ _ _ _ _ _ _ _ _ _ _ _ _ _ _ _ _ wc))
      | ((with_reducible apply go_callq (f := 30) (hf := Try.call30)); (· (cbv; try rfl)); (· intro wc hbc hxc; exact assignC _ _ _ _ _ _ _ _ _ _ _ _ _ _ _ _ _ _ _ wc))
      | ((with_reducible apply go_inline (f := 29) (hf := Try.func29) (hr := Try.results29) (hcall := Try.call29)); (· rfl); (· (cbv; try rfl)))
      | ((with_reducible apply go_inline (f := 28) (hf := Try.func28) (hr := Try.results28) (hcall := Try.call28)); (· rfl); (· (cbv; try rfl)))
      | (((apply go_touchLit 0 [⟨⟨2, true, 0⟩, false, true⟩, ⟨⟨0, false, 0⟩, true, false⟩] (by rfl)); (· (intro S B; cbv; try rfl)); (· kernel_rfl); (· (intro B; cbv)); (· (intro B; cbv)); (· (intro B; cbv))))
      | (((apply go_touchLit 0 [⟨⟨2, false, 0⟩, true, true⟩, ⟨⟨3, false, 0⟩, true, false⟩] (by rfl)); (· (intro S B; cbv; try rfl)); (· kernel_rfl); (· (intro B; cbv)); (· (intro B; cbv)); (· (intro B; cbv))))
      | (((apply go_touchLit 0 [⟨⟨2, false, 0⟩, true, false⟩] (by rfl)); (· (intro S B; cbv; try rfl)); (· kernel_rfl); (· (intro B; cbv)); (· (intro B; cbv)); (· (intro B; cbv))))
      | ((with_reducible apply go_inline (f := 11) (hf := Try.func11) (hr := Try.results11) (hcall := Try.call11)); (· rfl); (· (cbv; try rfl)))
      | (with_reducible apply go_rounds 4)
      | (((refine go_stopC () rfl ?_ ?_ ?_); (· (refine le_mk ?_ ?_ ?_ ?_ <;> (cbv; (try simp only [true_and, and_true]); (try ((repeat' apply And.intro) <;> (first | trivial | rfl | exact RowLe.rfl' _)))))); (· (cbv; try rfl)); (· simp)))
      | (((with_reducible apply go_draw); (· rfl); (· kernel_rfl); (· kernel_rfl)))
      | (fail)
      )
    all_goals trace_state
  repeat' (first
    | ((with_reducible apply go_ev hT 400); (· (cbv; try rfl)); (fail_if_success with_reducible apply stuck_id))
    | ((with_reducible refine go_brt ?_ ?_); (· first | rfl | assumption | (rw [hcm]; decide)))
    | ((with_reducible refine go_brf ?_ ?_); (· first | rfl | assumption | (rw [hcm]; decide)))
    | ((with_reducible refine go_brnt hnt ?_ ?_); (· first | rfl | assumption))
    | ((with_reducible refine go_brnf hnt ?_ ?_); (· first | rfl | assumption))
    | (with_reducible refine go_brn hnt (fun h => ?_) (fun h => ?_))
    | (with_reducible refine go_brl hcm (fun hlt => ?_) (fun hge => ?_))
    | (with_reducible refine go_br (fun h => ?_) (fun h => ?_))
    | ((with_reducible apply go_ret_val hT); (· (cbv; try rfl)); (· (cbv; try rfl)))
    | ((with_reducible apply go_fin_val hT); (· (cbv; try rfl)); (· (cbv; try rfl)))
    | ((with_reducible apply go_draw); (· rfl); (· kernel_rfl); (· kernel_rfl))
    | ((with_reducible apply go_drawE); (· kernel_rfl))
    | (with_reducible refine go_fork ?_)
    | (with_reducible refine fork_cons ?_ ?_)
    | (with_reducible exact fork_nil)
    | ((with_reducible refine go_need ?_ ?_ ?_); (· first | omega | (simp only [Int.ofNat_eq_natCast]; omega)); (· first | omega | (simp only [Int.ofNat_eq_natCast]; omega)))
    | ((with_reducible refine go_ob ?_ ?_); (· first | trivial | (refine ⟨trivial, ?_⟩; omega) | (rw [hzpl]; refine ⟨trivial, ?_⟩; show _ + _ ≤ 1073741824; omega) | (rw [hzpl]; show _ + _ ≤ 1073741824; omega)))
    | ((with_reducible apply go_ret_rows hT); (· (cbv; try rfl)); (· (cbv; try rfl)); (· (cbv; (try simp only [true_and, and_true]); (try ((repeat' apply And.intro) <;> (first | trivial | rfl | decide ))))); (· (cbv; (try simp only [true_and, and_true]); (try ((repeat' apply And.intro) <;> (first | trivial | rfl | exact RowLe.rfl' _ ))))); (· rfl))
    | ((with_reducible apply go_fin_rows hT); (· (cbv; try rfl)); (· (cbv; try rfl)); (· (cbv; (try simp only [true_and, and_true]); (try ((repeat' apply And.intro) <;> (first | trivial | rfl | decide ))))); (· (cbv; (try simp only [true_and, and_true]); (try ((repeat' apply And.intro) <;> (first | trivial | rfl | exact RowLe.rfl' _ ))))); (· rfl))
    | ((with_reducible apply go_inline (f := 16) (hf := Try.func16) (hr := Try.results16) (hcall := Try.call16)); (· rfl); (· (cbv; try rfl)))
    | ((with_reducible apply go_call (f := 9) (hf := Try.call9)); (· (cbv; try rfl)); (· intro wc hbc hxc; exact clashesF _ _ _ _ _ _ _ _ _ _ _ _ (by decide) (by decide) wc))
    | ((with_reducible apply go_callq (f := 9) (hf := Try.call9)); (· (cbv; try rfl)); (· intro wc hbc hxc; exact clashesF _ _ _ _ _ _ _ _ _ _ _ _ (by decide) (by decide) wc))
    )
  all_goals rfl

end Go.Proofs.Ytgoeinkmndicfaa
