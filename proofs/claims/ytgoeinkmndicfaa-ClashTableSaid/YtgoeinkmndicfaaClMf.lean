/- ClashTable, a part of the walk. No condition. -/
import Derived.Test.YtgoeinkmndicfaaClMz
namespace Go.Proofs.Ytgoeinkmndicfaa
open Go.RowKit
set_option linter.unusedVariables false
set_option linter.unusedSimpArgs false

theorem beh_cases2t {pd qd : Bool} {pf ql pl : Int} (h : false = (!pd && pf == 0 && qd && ql == pl)) : (true && (decide (pd = false) && decide (pf = 0))) = false ∨ ((true && (decide (pd = false) && decide (pf = 0))) = true ∧ qd = false) ∨ ((true && (decide (pd = false) && decide (pf = 0))) = true ∧ qd = true ∧ decide (ql = pl) = false) := by
  by_cases a : (true && (decide (pd = false) && decide (pf = 0))) = true
  · by_cases b : qd = true
    · by_cases c : decide (ql = pl) = true
      · exact (beh_no h a b c).elim
      · exact .inr (.inr ⟨a, b, Bool.eq_false_iff.mpr c⟩)
    · exact .inr (.inl ⟨a, Bool.eq_false_iff.mpr b⟩)
  · exact .inl (Bool.eq_false_iff.mpr a)
set_option maxRecDepth 100000 in
set_option maxHeartbeats 32000000 in
theorem tabF2tA (pl pf ql qf : Int) (pd qd : Bool) (hp : (GPlace.mk pl pd pf).ok = true) (hq : (GPlace.mk ql qd qf).ok = true) (h1 : ∀ wc : World, Calls Try.prog 14 #[.agg #[.int .i64 pl, .bool pd, .int .u8 pf], .agg #[.int .i64 ql, .bool qd, .int .u8 qf]] wc (Ret wc (.tuple #[.bool true, .int .i64 0])))
    (h2 : ∀ (wc : World) (w d u : Bool), Calls Try.prog 9 #[.agg #[.int .i64 pl, .bool pd, .int .u8 pf, .bool w, .bool d], .agg #[.int .i64 0, .int .i64 ql, .bool qd, .int .u8 qf, .int .u8 2, .int .i64 0], .bool u] wc (Ret wc (.tuple #[.bool (tabB true false 2 w d u), .int .i64 0])))
    (ha : (true && (decide (pd = false) && decide (pf = 0))) = false) (w : World) :
    Calls Try.prog 4 #[.agg #[.int .i64 pl, .bool pd, .int .u8 pf], .agg #[.int .i64 ql, .bool qd, .int .u8 qf], .int .u8 2] w (Ret w (.bool true)) := by
  refine go_start (args := [.pt (.agg [.int .i64 pl, .bool pd, .int .u8 pf]), .pt (.agg [.int .i64 ql, .bool qd, .int .u8 qf]), .pt (.one (.int .u8 2))]) (c := NoRows) Try.func4 rfl (noRows_ok _) rfl rfl ?_
  obtain ⟨nd, hnd⟩ : ∃ f : Bool → Bool → Bool, f = and := ⟨_, rfl⟩
  obtain ⟨nt, hnt⟩ : ∃ f : Bool → Bool, f = not := ⟨_, rfl⟩
  obtain ⟨ar, har⟩ : ∃ f : BinOp → IntKind → Int → Int → Int, f = rAr := ⟨_, rfl⟩
  obtain ⟨cm, hcm⟩ : ∃ f : BinOp → Int → Int → Bool, f = rCm := ⟨_, rfl⟩
  obtain ⟨mx, hmx⟩ : ∃ f : Int → Int → Int, f = rMx := ⟨_, rfl⟩
  obtain ⟨mn, hmn⟩ : ∃ f : Int → Int → Int, f = rMn := ⟨_, rfl⟩
  have ar01 : ar .add .i64 0 1 = 1 := by rw [har]; decide
  have ar12 : ar .add .i64 1 1 = 2 := by rw [har]; decide
  obtain ⟨zpl, hzpl⟩ : ∃ f : Nat → Nat → Nat, f = fun x y => x + y := ⟨_, rfl⟩
  obtain ⟨zjn, hzjn⟩ : ∃ f : Nat → (Nat → List SC) → (Nat → List SC) → Nat → List SC, f = rJn := ⟨_, rfl⟩
  obtain ⟨zup, hzup⟩ : ∃ f : (Nat → List SC) → Nat → Nat → List SC → Nat → List SC, f = rUp := ⟨_, rfl⟩
  obtain ⟨zmi, hzmi⟩ : ∃ f : Nat → Nat → Nat, f = fun x y => x - y := ⟨_, rfl⟩
  obtain ⟨zdp, hzdp⟩ : ∃ f : Nat → (Nat → List SC) → Nat → List SC, f = rDp := ⟨_, rfl⟩
  have hT := T0_ok hnd hnt har hcm hmx hmn hzpl hzjn hzup hzmi hzdp
  subst har
  have hll : decide (pl = pl) = true := decide_eq_true rfl
  have ha' : nd true (nd (decide (pd = false)) (decide (pf = 0))) = false := by rw [hnd]; exact ha
  repeat' (first
    | ((with_reducible apply go_ev hT 400); (· (cbv; try rfl)); (fail_if_success with_reducible apply stuck_id); (try simp only [ar01, ar12]))
    | ((with_reducible refine go_brt ?_ ?_); (· first | rfl | assumption | (rw [hcm]; decide)))
    | ((with_reducible refine go_brf ?_ ?_); (· first | rfl | assumption | (rw [hcm]; decide)))
    | ((with_reducible refine go_brnt hnt ?_ ?_); (· first | rfl | assumption))
    | ((with_reducible refine go_brnf hnt ?_ ?_); (· first | rfl | assumption))
    | (with_reducible refine go_brn hnt (fun h => ?_) (fun h => ?_))
    | (with_reducible refine go_brl hcm (fun hlt => ?_) (fun hge => ?_))
    | (with_reducible refine go_br (fun h => ?_) (fun h => ?_))
    | ((with_reducible apply go_ret_val hT); (· (cbv; try rfl)); (· (cbv; try rfl)))
    | ((with_reducible apply go_fin_val hT); (· (cbv; try rfl)); (· (cbv; try rfl)))
    | ((with_reducible apply go_draw); (· rfl); (· kernel_rfl); (· kernel_rfl))
    | ((with_reducible apply go_drawE); (· kernel_rfl))
    | (with_reducible refine go_fork ?_)
    | (with_reducible refine fork_cons ?_ ?_)
    | (with_reducible exact fork_nil)
    | ((with_reducible refine go_need ?_ ?_ ?_); (· first | omega | (simp only [Int.ofNat_eq_natCast]; omega)); (· first | omega | (simp only [Int.ofNat_eq_natCast]; omega)))
    | ((with_reducible refine go_ob ?_ ?_); (· first | trivial | (refine ⟨trivial, ?_⟩; omega) | (rw [hzpl]; refine ⟨trivial, ?_⟩; show _ + _ ≤ 1073741824; omega) | (rw [hzpl]; show _ + _ ≤ 1073741824; omega)))
    | ((with_reducible apply go_ret_rows hT); (· (cbv; try rfl)); (· (cbv; try rfl)); (· (cbv; (try simp only [true_and, and_true]); (try ((repeat' apply And.intro) <;> (first | trivial | rfl | decide ))))); (· (cbv; (try simp only [true_and, and_true]); (try ((repeat' apply And.intro) <;> (first | trivial | rfl | exact RowLe.rfl' _ ))))); (· rfl))
    | ((with_reducible apply go_fin_rows hT); (· (cbv; try rfl)); (· (cbv; try rfl)); (· (cbv; (try simp only [true_and, and_true]); (try ((repeat' apply And.intro) <;> (first | trivial | rfl | decide ))))); (· (cbv; (try simp only [true_and, and_true]); (try ((repeat' apply And.intro) <;> (first | trivial | rfl | exact RowLe.rfl' _ ))))); (· rfl))
    | ((with_reducible apply go_call (f := 12) (hf := Try.call12)); (· (cbv; try rfl)); (· intro wc hbc hxc; exact alive23C wc))
    | ((with_reducible apply go_callq (f := 12) (hf := Try.call12)); (· (cbv; try rfl)); (· intro wc hbc hxc; exact alive23C wc))
    | ((with_reducible apply go_call (f := 13) (hf := Try.call13)); (· (cbv; try rfl)); (· intro wc hbc hxc; exact rPlaceOk' _ _ _ (by first | exact hp | exact hq) wc))
    | ((with_reducible apply go_callq (f := 13) (hf := Try.call13)); (· (cbv; try rfl)); (· intro wc hbc hxc; exact rPlaceOk' _ _ _ (by first | exact hp | exact hq) wc))
    | ((with_reducible apply go_call (f := 14) (hf := Try.call14)); (· (cbv; try rfl)); (· intro wc hbc hxc; exact h1 wc))
    | ((with_reducible apply go_callq (f := 14) (hf := Try.call14)); (· (cbv; try rfl)); (· intro wc hbc hxc; exact h1 wc))
    | ((with_reducible apply go_call (f := 15) (hf := Try.call15)); (· (cbv; try rfl)); (· intro wc hbc hxc; exact localC _ wc))
    | ((with_reducible apply go_callq (f := 15) (hf := Try.call15)); (· (cbv; try rfl)); (· intro wc hbc hxc; exact localC _ wc))
    | ((with_reducible apply go_inline (f := 16) (hf := Try.func16) (hr := Try.results16) (hcall := Try.call16)); (· rfl); (· (cbv; try rfl)))
    | ((with_reducible apply go_call (f := 9) (hf := Try.call9)); (· (cbv; try rfl)); (· intro wc hbc hxc; exact h2 wc _ _ _))
    | ((with_reducible apply go_callq (f := 9) (hf := Try.call9)); (· (cbv; try rfl)); (· intro wc hbc hxc; exact h2 wc _ _ _))
    | (with_reducible apply go_rounds 9)
    | (fail)
    )
  all_goals rfl

set_option maxRecDepth 100000 in
set_option maxHeartbeats 32000000 in
theorem tabF2tB (pl pf ql qf : Int) (pd qd : Bool) (hp : (GPlace.mk pl pd pf).ok = true) (hq : (GPlace.mk ql qd qf).ok = true) (h1 : ∀ wc : World, Calls Try.prog 14 #[.agg #[.int .i64 pl, .bool pd, .int .u8 pf], .agg #[.int .i64 ql, .bool qd, .int .u8 qf]] wc (Ret wc (.tuple #[.bool true, .int .i64 0])))
    (h2 : ∀ (wc : World) (w d u : Bool), Calls Try.prog 9 #[.agg #[.int .i64 pl, .bool pd, .int .u8 pf, .bool w, .bool d], .agg #[.int .i64 0, .int .i64 ql, .bool qd, .int .u8 qf, .int .u8 2, .int .i64 0], .bool u] wc (Ret wc (.tuple #[.bool (tabB true false 2 w d u), .int .i64 0])))
    (ha : (true && (decide (pd = false) && decide (pf = 0))) = true) (hb : qd = false) (w : World) :
    Calls Try.prog 4 #[.agg #[.int .i64 pl, .bool pd, .int .u8 pf], .agg #[.int .i64 ql, .bool qd, .int .u8 qf], .int .u8 2] w (Ret w (.bool true)) := by
  refine go_start (args := [.pt (.agg [.int .i64 pl, .bool pd, .int .u8 pf]), .pt (.agg [.int .i64 ql, .bool qd, .int .u8 qf]), .pt (.one (.int .u8 2))]) (c := NoRows) Try.func4 rfl (noRows_ok _) rfl rfl ?_
  obtain ⟨nd, hnd⟩ : ∃ f : Bool → Bool → Bool, f = and := ⟨_, rfl⟩
  obtain ⟨nt, hnt⟩ : ∃ f : Bool → Bool, f = not := ⟨_, rfl⟩
  obtain ⟨ar, har⟩ : ∃ f : BinOp → IntKind → Int → Int → Int, f = rAr := ⟨_, rfl⟩
  obtain ⟨cm, hcm⟩ : ∃ f : BinOp → Int → Int → Bool, f = rCm := ⟨_, rfl⟩
  obtain ⟨mx, hmx⟩ : ∃ f : Int → Int → Int, f = rMx := ⟨_, rfl⟩
  obtain ⟨mn, hmn⟩ : ∃ f : Int → Int → Int, f = rMn := ⟨_, rfl⟩
  have ar01 : ar .add .i64 0 1 = 1 := by rw [har]; decide
  have ar12 : ar .add .i64 1 1 = 2 := by rw [har]; decide
  obtain ⟨zpl, hzpl⟩ : ∃ f : Nat → Nat → Nat, f = fun x y => x + y := ⟨_, rfl⟩
  obtain ⟨zjn, hzjn⟩ : ∃ f : Nat → (Nat → List SC) → (Nat → List SC) → Nat → List SC, f = rJn := ⟨_, rfl⟩
  obtain ⟨zup, hzup⟩ : ∃ f : (Nat → List SC) → Nat → Nat → List SC → Nat → List SC, f = rUp := ⟨_, rfl⟩
  obtain ⟨zmi, hzmi⟩ : ∃ f : Nat → Nat → Nat, f = fun x y => x - y := ⟨_, rfl⟩
  obtain ⟨zdp, hzdp⟩ : ∃ f : Nat → (Nat → List SC) → Nat → List SC, f = rDp := ⟨_, rfl⟩
  have hT := T0_ok hnd hnt har hcm hmx hmn hzpl hzjn hzup hzmi hzdp
  subst har
  have hll : decide (pl = pl) = true := decide_eq_true rfl
  have ha' : nd true (nd (decide (pd = false)) (decide (pf = 0))) = true := by rw [hnd]; exact ha
  repeat' (first
    | ((with_reducible apply go_ev hT 400); (· (cbv; try rfl)); (fail_if_success with_reducible apply stuck_id); (try simp only [ar01, ar12]))
    | ((with_reducible refine go_brt ?_ ?_); (· first | rfl | assumption | (rw [hcm]; decide)))
    | ((with_reducible refine go_brf ?_ ?_); (· first | rfl | assumption | (rw [hcm]; decide)))
    | ((with_reducible refine go_brnt hnt ?_ ?_); (· first | rfl | assumption))
    | ((with_reducible refine go_brnf hnt ?_ ?_); (· first | rfl | assumption))
    | (with_reducible refine go_brn hnt (fun h => ?_) (fun h => ?_))
    | (with_reducible refine go_brl hcm (fun hlt => ?_) (fun hge => ?_))
    | (with_reducible refine go_br (fun h => ?_) (fun h => ?_))
    | ((with_reducible apply go_ret_val hT); (· (cbv; try rfl)); (· (cbv; try rfl)))
    | ((with_reducible apply go_fin_val hT); (· (cbv; try rfl)); (· (cbv; try rfl)))
    | ((with_reducible apply go_draw); (· rfl); (· kernel_rfl); (· kernel_rfl))
    | ((with_reducible apply go_drawE); (· kernel_rfl))
    | (with_reducible refine go_fork ?_)
    | (with_reducible refine fork_cons ?_ ?_)
    | (with_reducible exact fork_nil)
    | ((with_reducible refine go_need ?_ ?_ ?_); (· first | omega | (simp only [Int.ofNat_eq_natCast]; omega)); (· first | omega | (simp only [Int.ofNat_eq_natCast]; omega)))
    | ((with_reducible refine go_ob ?_ ?_); (· first | trivial | (refine ⟨trivial, ?_⟩; omega) | (rw [hzpl]; refine ⟨trivial, ?_⟩; show _ + _ ≤ 1073741824; omega) | (rw [hzpl]; show _ + _ ≤ 1073741824; omega)))
    | ((with_reducible apply go_ret_rows hT); (· (cbv; try rfl)); (· (cbv; try rfl)); (· (cbv; (try simp only [true_and, and_true]); (try ((repeat' apply And.intro) <;> (first | trivial | rfl | decide ))))); (· (cbv; (try simp only [true_and, and_true]); (try ((repeat' apply And.intro) <;> (first | trivial | rfl | exact RowLe.rfl' _ ))))); (· rfl))
    | ((with_reducible apply go_fin_rows hT); (· (cbv; try rfl)); (· (cbv; try rfl)); (· (cbv; (try simp only [true_and, and_true]); (try ((repeat' apply And.intro) <;> (first | trivial | rfl | decide ))))); (· (cbv; (try simp only [true_and, and_true]); (try ((repeat' apply And.intro) <;> (first | trivial | rfl | exact RowLe.rfl' _ ))))); (· rfl))
    | ((with_reducible apply go_call (f := 12) (hf := Try.call12)); (· (cbv; try rfl)); (· intro wc hbc hxc; exact alive23C wc))
    | ((with_reducible apply go_callq (f := 12) (hf := Try.call12)); (· (cbv; try rfl)); (· intro wc hbc hxc; exact alive23C wc))
    | ((with_reducible apply go_call (f := 13) (hf := Try.call13)); (· (cbv; try rfl)); (· intro wc hbc hxc; exact rPlaceOk' _ _ _ (by first | exact hp | exact hq) wc))
    | ((with_reducible apply go_callq (f := 13) (hf := Try.call13)); (· (cbv; try rfl)); (· intro wc hbc hxc; exact rPlaceOk' _ _ _ (by first | exact hp | exact hq) wc))
    | ((with_reducible apply go_call (f := 14) (hf := Try.call14)); (· (cbv; try rfl)); (· intro wc hbc hxc; exact h1 wc))
    | ((with_reducible apply go_callq (f := 14) (hf := Try.call14)); (· (cbv; try rfl)); (· intro wc hbc hxc; exact h1 wc))
    | ((with_reducible apply go_call (f := 15) (hf := Try.call15)); (· (cbv; try rfl)); (· intro wc hbc hxc; exact localC _ wc))
    | ((with_reducible apply go_callq (f := 15) (hf := Try.call15)); (· (cbv; try rfl)); (· intro wc hbc hxc; exact localC _ wc))
    | ((with_reducible apply go_inline (f := 16) (hf := Try.func16) (hr := Try.results16) (hcall := Try.call16)); (· rfl); (· (cbv; try rfl)))
    | ((with_reducible apply go_call (f := 9) (hf := Try.call9)); (· (cbv; try rfl)); (· intro wc hbc hxc; exact h2 wc _ _ _))
    | ((with_reducible apply go_callq (f := 9) (hf := Try.call9)); (· (cbv; try rfl)); (· intro wc hbc hxc; exact h2 wc _ _ _))
    | (with_reducible apply go_rounds 9)
    | (fail)
    )
  all_goals rfl

set_option maxRecDepth 100000 in
set_option maxHeartbeats 32000000 in
theorem tabF2tC (pl pf ql qf : Int) (pd qd : Bool) (hp : (GPlace.mk pl pd pf).ok = true) (hq : (GPlace.mk ql qd qf).ok = true) (h1 : ∀ wc : World, Calls Try.prog 14 #[.agg #[.int .i64 pl, .bool pd, .int .u8 pf], .agg #[.int .i64 ql, .bool qd, .int .u8 qf]] wc (Ret wc (.tuple #[.bool true, .int .i64 0])))
    (h2 : ∀ (wc : World) (w d u : Bool), Calls Try.prog 9 #[.agg #[.int .i64 pl, .bool pd, .int .u8 pf, .bool w, .bool d], .agg #[.int .i64 0, .int .i64 ql, .bool qd, .int .u8 qf, .int .u8 2, .int .i64 0], .bool u] wc (Ret wc (.tuple #[.bool (tabB true false 2 w d u), .int .i64 0])))
    (ha : (true && (decide (pd = false) && decide (pf = 0))) = true) (hb : qd = true) (hc : decide (ql = pl) = false) (w : World) :
    Calls Try.prog 4 #[.agg #[.int .i64 pl, .bool pd, .int .u8 pf], .agg #[.int .i64 ql, .bool qd, .int .u8 qf], .int .u8 2] w (Ret w (.bool true)) := by
  refine go_start (args := [.pt (.agg [.int .i64 pl, .bool pd, .int .u8 pf]), .pt (.agg [.int .i64 ql, .bool qd, .int .u8 qf]), .pt (.one (.int .u8 2))]) (c := NoRows) Try.func4 rfl (noRows_ok _) rfl rfl ?_
  obtain ⟨nd, hnd⟩ : ∃ f : Bool → Bool → Bool, f = and := ⟨_, rfl⟩
  obtain ⟨nt, hnt⟩ : ∃ f : Bool → Bool, f = not := ⟨_, rfl⟩
  obtain ⟨ar, har⟩ : ∃ f : BinOp → IntKind → Int → Int → Int, f = rAr := ⟨_, rfl⟩
  obtain ⟨cm, hcm⟩ : ∃ f : BinOp → Int → Int → Bool, f = rCm := ⟨_, rfl⟩
  obtain ⟨mx, hmx⟩ : ∃ f : Int → Int → Int, f = rMx := ⟨_, rfl⟩
  obtain ⟨mn, hmn⟩ : ∃ f : Int → Int → Int, f = rMn := ⟨_, rfl⟩
  have ar01 : ar .add .i64 0 1 = 1 := by rw [har]; decide
  have ar12 : ar .add .i64 1 1 = 2 := by rw [har]; decide
  obtain ⟨zpl, hzpl⟩ : ∃ f : Nat → Nat → Nat, f = fun x y => x + y := ⟨_, rfl⟩
  obtain ⟨zjn, hzjn⟩ : ∃ f : Nat → (Nat → List SC) → (Nat → List SC) → Nat → List SC, f = rJn := ⟨_, rfl⟩
  obtain ⟨zup, hzup⟩ : ∃ f : (Nat → List SC) → Nat → Nat → List SC → Nat → List SC, f = rUp := ⟨_, rfl⟩
  obtain ⟨zmi, hzmi⟩ : ∃ f : Nat → Nat → Nat, f = fun x y => x - y := ⟨_, rfl⟩
  obtain ⟨zdp, hzdp⟩ : ∃ f : Nat → (Nat → List SC) → Nat → List SC, f = rDp := ⟨_, rfl⟩
  have hT := T0_ok hnd hnt har hcm hmx hmn hzpl hzjn hzup hzmi hzdp
  subst har
  have hll : decide (pl = pl) = true := decide_eq_true rfl
  have ha' : nd true (nd (decide (pd = false)) (decide (pf = 0))) = true := by rw [hnd]; exact ha
  repeat' (first
    | ((with_reducible apply go_ev hT 400); (· (cbv; try rfl)); (fail_if_success with_reducible apply stuck_id); (try simp only [ar01, ar12]))
    | ((with_reducible refine go_brt ?_ ?_); (· first | rfl | assumption | (rw [hcm]; decide)))
    | ((with_reducible refine go_brf ?_ ?_); (· first | rfl | assumption | (rw [hcm]; decide)))
    | ((with_reducible refine go_brnt hnt ?_ ?_); (· first | rfl | assumption))
    | ((with_reducible refine go_brnf hnt ?_ ?_); (· first | rfl | assumption))
    | (with_reducible refine go_brn hnt (fun h => ?_) (fun h => ?_))
    | (with_reducible refine go_brl hcm (fun hlt => ?_) (fun hge => ?_))
    | (with_reducible refine go_br (fun h => ?_) (fun h => ?_))
    | ((with_reducible apply go_ret_val hT); (· (cbv; try rfl)); (· (cbv; try rfl)))
    | ((with_reducible apply go_fin_val hT); (· (cbv; try rfl)); (· (cbv; try rfl)))
    | ((with_reducible apply go_draw); (· rfl); (· kernel_rfl); (· kernel_rfl))
    | ((with_reducible apply go_drawE); (· kernel_rfl))
    | (with_reducible refine go_fork ?_)
    | (with_reducible refine fork_cons ?_ ?_)
    | (with_reducible exact fork_nil)
    | ((with_reducible refine go_need ?_ ?_ ?_); (· first | omega | (simp only [Int.ofNat_eq_natCast]; omega)); (· first | omega | (simp only [Int.ofNat_eq_natCast]; omega)))
    | ((with_reducible refine go_ob ?_ ?_); (· first | trivial | (refine ⟨trivial, ?_⟩; omega) | (rw [hzpl]; refine ⟨trivial, ?_⟩; show _ + _ ≤ 1073741824; omega) | (rw [hzpl]; show _ + _ ≤ 1073741824; omega)))
    | ((with_reducible apply go_ret_rows hT); (· (cbv; try rfl)); (· (cbv; try rfl)); (· (cbv; (try simp only [true_and, and_true]); (try ((repeat' apply And.intro) <;> (first | trivial | rfl | decide ))))); (· (cbv; (try simp only [true_and, and_true]); (try ((repeat' apply And.intro) <;> (first | trivial | rfl | exact RowLe.rfl' _ ))))); (· rfl))
    | ((with_reducible apply go_fin_rows hT); (· (cbv; try rfl)); (· (cbv; try rfl)); (· (cbv; (try simp only [true_and, and_true]); (try ((repeat' apply And.intro) <;> (first | trivial | rfl | decide ))))); (· (cbv; (try simp only [true_and, and_true]); (try ((repeat' apply And.intro) <;> (first | trivial | rfl | exact RowLe.rfl' _ ))))); (· rfl))
    | ((with_reducible apply go_call (f := 12) (hf := Try.call12)); (· (cbv; try rfl)); (· intro wc hbc hxc; exact alive23C wc))
    | ((with_reducible apply go_callq (f := 12) (hf := Try.call12)); (· (cbv; try rfl)); (· intro wc hbc hxc; exact alive23C wc))
    | ((with_reducible apply go_call (f := 13) (hf := Try.call13)); (· (cbv; try rfl)); (· intro wc hbc hxc; exact rPlaceOk' _ _ _ (by first | exact hp | exact hq) wc))
    | ((with_reducible apply go_callq (f := 13) (hf := Try.call13)); (· (cbv; try rfl)); (· intro wc hbc hxc; exact rPlaceOk' _ _ _ (by first | exact hp | exact hq) wc))
    | ((with_reducible apply go_call (f := 14) (hf := Try.call14)); (· (cbv; try rfl)); (· intro wc hbc hxc; exact h1 wc))
    | ((with_reducible apply go_callq (f := 14) (hf := Try.call14)); (· (cbv; try rfl)); (· intro wc hbc hxc; exact h1 wc))
    | ((with_reducible apply go_call (f := 15) (hf := Try.call15)); (· (cbv; try rfl)); (· intro wc hbc hxc; exact localC _ wc))
    | ((with_reducible apply go_callq (f := 15) (hf := Try.call15)); (· (cbv; try rfl)); (· intro wc hbc hxc; exact localC _ wc))
    | ((with_reducible apply go_inline (f := 16) (hf := Try.func16) (hr := Try.results16) (hcall := Try.call16)); (· rfl); (· (cbv; try rfl)))
    | ((with_reducible apply go_call (f := 9) (hf := Try.call9)); (· (cbv; try rfl)); (· intro wc hbc hxc; exact h2 wc _ _ _))
    | ((with_reducible apply go_callq (f := 9) (hf := Try.call9)); (· (cbv; try rfl)); (· intro wc hbc hxc; exact h2 wc _ _ _))
    | (with_reducible apply go_rounds 9)
    | (fail)
    )
  all_goals rfl

theorem tabF2t (pl pf ql qf : Int) (pd qd : Bool) (hp : (GPlace.mk pl pd pf).ok = true) (hq : (GPlace.mk ql qd qf).ok = true) (h1 : ∀ wc : World, Calls Try.prog 14 #[.agg #[.int .i64 pl, .bool pd, .int .u8 pf], .agg #[.int .i64 ql, .bool qd, .int .u8 qf]] wc (Ret wc (.tuple #[.bool true, .int .i64 0])))
    (h2 : ∀ (wc : World) (w d u : Bool), Calls Try.prog 9 #[.agg #[.int .i64 pl, .bool pd, .int .u8 pf, .bool w, .bool d], .agg #[.int .i64 0, .int .i64 ql, .bool qd, .int .u8 qf, .int .u8 2, .int .i64 0], .bool u] wc (Ret wc (.tuple #[.bool (tabB true false 2 w d u), .int .i64 0])))
    (hzb : false = (!pd && pf == 0 && qd && ql == pl)) (w : World) :
    Calls Try.prog 4 #[.agg #[.int .i64 pl, .bool pd, .int .u8 pf], .agg #[.int .i64 ql, .bool qd, .int .u8 qf], .int .u8 2] w (Ret w (.bool true)) := by
  rcases beh_cases2t hzb with a | ⟨a, b⟩ | ⟨a, b, c⟩
  · exact tabF2tA pl pf ql qf pd qd hp hq h1 h2 a w
  · exact tabF2tB pl pf ql qf pd qd hp hq h1 h2 a b w
  · exact tabF2tC pl pf ql qf pd qd hp hq h1 h2 a b c w

end Go.Proofs.Ytgoeinkmndicfaa
