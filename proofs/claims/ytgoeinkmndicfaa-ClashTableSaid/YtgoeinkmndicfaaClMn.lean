/- ClashTable: the three refusals. No condition. -/
import Derived.Test.YtgoeinkmndicfaaClMz
namespace Go.Proofs.Ytgoeinkmndicfaa
open Go.RowKit
set_option linter.unusedVariables false
set_option linter.unusedSimpArgs false

set_option maxRecDepth 100000 in
set_option maxHeartbeats 32000000 in
theorem tabNp (p q : GPlace) (k : Int) (p0 : 0 ≤ p.f) (q0 : 0 ≤ q.f) (k0 : 0 ≤ k) (hp : ¬p.ok = true) (w : World) :
    Calls Try.prog 4 #[.agg #[.int .i64 p.l, .bool p.d, .int .u8 p.f], .agg #[.int .i64 q.l, .bool q.d, .int .u8 q.f], .int .u8 k] w (Ret w (.bool true)) := by
  have hp : p.ok = false := by simpa using hp
  have h1 (wc : World) := rPlaceChkF p.l p.f p.d wc
  rw [show (GPlace.mk p.l p.d p.f).ok = false from hp] at h1
  simp only [okI, Bool.false_eq_true, if_false] at h1
  clear hp p0 q0 k0
  obtain ⟨pl, pd, pf⟩ := p
  obtain ⟨ql, qd, qf⟩ := q
  simp only at h1
  refine go_start (args := [.pt (.agg [.int .i64 pl, .bool pd, .int .u8 pf]), .pt (.agg [.int .i64 ql, .bool qd, .int .u8 qf]), .pt (.one (.int .u8 k))]) (c := NoRows) Try.func4 rfl (noRows_ok _) rfl rfl ?_
  obtain ⟨nd, hnd⟩ : ∃ f : Bool → Bool → Bool, f = and := ⟨_, rfl⟩
  obtain ⟨nt, hnt⟩ : ∃ f : Bool → Bool, f = not := ⟨_, rfl⟩
  obtain ⟨ar, har⟩ : ∃ f : BinOp → IntKind → Int → Int → Int, f = rAr := ⟨_, rfl⟩
  obtain ⟨cm, hcm⟩ : ∃ f : BinOp → Int → Int → Bool, f = rCm := ⟨_, rfl⟩
  obtain ⟨mx, hmx⟩ : ∃ f : Int → Int → Int, f = rMx := ⟨_, rfl⟩
  obtain ⟨mn, hmn⟩ : ∃ f : Int → Int → Int, f = rMn := ⟨_, rfl⟩
  have ar01 : ar .add .i64 0 1 = 1 := by rw [har]; decide
  have ar12 : ar .add .i64 1 1 = 2 := by rw [har]; decide
  obtain ⟨zpl, hzpl⟩ : ∃ f : Nat → Nat → Nat, f = fun x y => x + y := ⟨_, rfl⟩
  obtain ⟨zjn, hzjn⟩ : ∃ f : Nat → (Nat → List SC) → (Nat → List SC) → Nat → List SC, f = rJn := ⟨_, rfl⟩
  obtain ⟨zup, hzup⟩ : ∃ f : (Nat → List SC) → Nat → Nat → List SC → Nat → List SC, f = rUp := ⟨_, rfl⟩
  obtain ⟨zmi, hzmi⟩ : ∃ f : Nat → Nat → Nat, f = fun x y => x - y := ⟨_, rfl⟩
  obtain ⟨zdp, hzdp⟩ : ∃ f : Nat → (Nat → List SC) → Nat → List SC, f = rDp := ⟨_, rfl⟩
  have hT := T0_ok hnd hnt har hcm hmx hmn hzpl hzjn hzup hzmi hzdp
  repeat' (first
    | ((with_reducible apply go_ev hT 400); (· (cbv; try rfl)); (fail_if_success with_reducible apply stuck_id))
    | ((with_reducible refine go_brt ?_ ?_); (· first | rfl | assumption | (rw [hcm]; decide)))
    | ((with_reducible refine go_brf ?_ ?_); (· first | rfl | assumption | (rw [hcm]; decide)))
    | ((with_reducible refine go_brnt hnt ?_ ?_); (· first | rfl | assumption))
    | ((with_reducible refine go_brnf hnt ?_ ?_); (· first | rfl | assumption))
    | (with_reducible refine go_brn hnt (fun h => ?_) (fun h => ?_))
    | (with_reducible refine go_brl hcm (fun hlt => ?_) (fun hge => ?_))
    | (with_reducible refine go_br (fun h => ?_) (fun h => ?_))
    | ((with_reducible apply go_ret_val hT); (· (cbv; try rfl)); (· (cbv; try rfl)))
    | ((with_reducible apply go_fin_val hT); (· (cbv; try rfl)); (· (cbv; try rfl)))
    | ((with_reducible apply go_draw); (· rfl); (· kernel_rfl); (· kernel_rfl))
    | ((with_reducible apply go_drawE); (· kernel_rfl))
    | (with_reducible refine go_fork ?_)
    | (with_reducible refine fork_cons ?_ ?_)
    | (with_reducible exact fork_nil)
    | ((with_reducible refine go_need ?_ ?_ ?_); (· first | omega | (simp only [Int.ofNat_eq_natCast]; omega)); (· first | omega | (simp only [Int.ofNat_eq_natCast]; omega)))
    | ((with_reducible refine go_ob ?_ ?_); (· first | trivial | (refine ⟨trivial, ?_⟩; omega) | (rw [hzpl]; refine ⟨trivial, ?_⟩; show _ + _ ≤ 1073741824; omega) | (rw [hzpl]; show _ + _ ≤ 1073741824; omega)))
    | ((with_reducible apply go_ret_rows hT); (· (cbv; try rfl)); (· (cbv; try rfl)); (· (cbv; (try simp only [true_and, and_true]); (try ((repeat' apply And.intro) <;> (first | trivial | rfl | decide ))))); (· (cbv; (try simp only [true_and, and_true]); (try ((repeat' apply And.intro) <;> (first | trivial | rfl | exact RowLe.rfl' _ ))))); (· rfl))
    | ((with_reducible apply go_fin_rows hT); (· (cbv; try rfl)); (· (cbv; try rfl)); (· (cbv; (try simp only [true_and, and_true]); (try ((repeat' apply And.intro) <;> (first | trivial | rfl | decide ))))); (· (cbv; (try simp only [true_and, and_true]); (try ((repeat' apply And.intro) <;> (first | trivial | rfl | exact RowLe.rfl' _ ))))); (· rfl))
    | ((with_reducible apply go_call (f := 12) (hf := Try.call12)); (· (cbv; try rfl)); (· intro wc hbc hxc; exact alive23C wc))
    | ((with_reducible apply go_callq (f := 12) (hf := Try.call12)); (· (cbv; try rfl)); (· intro wc hbc hxc; exact alive23C wc))
    | ((with_reducible apply go_call (f := 13) (hf := Try.call13)); (· (cbv; try rfl)); (· intro wc hbc hxc; exact h1 wc))
    | ((with_reducible apply go_callq (f := 13) (hf := Try.call13)); (· (cbv; try rfl)); (· intro wc hbc hxc; exact h1 wc))
    )
  all_goals rfl

set_option maxRecDepth 100000 in
set_option maxHeartbeats 32000000 in
theorem tabNq (p q : GPlace) (k : Int) (p0 : 0 ≤ p.f) (q0 : 0 ≤ q.f) (k0 : 0 ≤ k) (hp : p.ok = true) (hq : ¬q.ok = true) (w : World) :
    Calls Try.prog 4 #[.agg #[.int .i64 p.l, .bool p.d, .int .u8 p.f], .agg #[.int .i64 q.l, .bool q.d, .int .u8 q.f], .int .u8 k] w (Ret w (.bool true)) := by
  have hq : q.ok = false := by simpa using hq
  obtain ⟨pl, pd, pf⟩ := p
  obtain ⟨ql, qd, qf⟩ := q
  have e1 : ∀ z, z = okI (GPlace.mk ql qd qf).ok → decide (z = 0) = false := fun z h => by rw [h, hq]; rfl
  clear p0 q0 k0
  refine go_start (args := [.pt (.agg [.int .i64 pl, .bool pd, .int .u8 pf]), .pt (.agg [.int .i64 ql, .bool qd, .int .u8 qf]), .pt (.one (.int .u8 k))]) (c := NoRows) Try.func4 rfl (noRows_ok _) rfl rfl ?_
  obtain ⟨nd, hnd⟩ : ∃ f : Bool → Bool → Bool, f = and := ⟨_, rfl⟩
  obtain ⟨nt, hnt⟩ : ∃ f : Bool → Bool, f = not := ⟨_, rfl⟩
  obtain ⟨ar, har⟩ : ∃ f : BinOp → IntKind → Int → Int → Int, f = rAr := ⟨_, rfl⟩
  obtain ⟨cm, hcm⟩ : ∃ f : BinOp → Int → Int → Bool, f = rCm := ⟨_, rfl⟩
  obtain ⟨mx, hmx⟩ : ∃ f : Int → Int → Int, f = rMx := ⟨_, rfl⟩
  obtain ⟨mn, hmn⟩ : ∃ f : Int → Int → Int, f = rMn := ⟨_, rfl⟩
  have ar01 : ar .add .i64 0 1 = 1 := by rw [har]; decide
  have ar12 : ar .add .i64 1 1 = 2 := by rw [har]; decide
  obtain ⟨zpl, hzpl⟩ : ∃ f : Nat → Nat → Nat, f = fun x y => x + y := ⟨_, rfl⟩
  obtain ⟨zjn, hzjn⟩ : ∃ f : Nat → (Nat → List SC) → (Nat → List SC) → Nat → List SC, f = rJn := ⟨_, rfl⟩
  obtain ⟨zup, hzup⟩ : ∃ f : (Nat → List SC) → Nat → Nat → List SC → Nat → List SC, f = rUp := ⟨_, rfl⟩
  obtain ⟨zmi, hzmi⟩ : ∃ f : Nat → Nat → Nat, f = fun x y => x - y := ⟨_, rfl⟩
  obtain ⟨zdp, hzdp⟩ : ∃ f : Nat → (Nat → List SC) → Nat → List SC, f = rDp := ⟨_, rfl⟩
  have hT := T0_ok hnd hnt har hcm hmx hmn hzpl hzjn hzup hzmi hzdp
  repeat' (first
    | ((with_reducible apply go_ev hT 400); (· (cbv; try rfl)); (fail_if_success with_reducible apply stuck_id))
    | ((with_reducible refine go_brt ?_ ?_); (· first | rfl | assumption | (rw [hcm]; decide)))
    | ((with_reducible refine go_brf ?_ ?_); (· first | rfl | assumption | (rw [hcm]; decide)))
    | ((with_reducible refine go_brnt hnt ?_ ?_); (· first | rfl | assumption))
    | ((with_reducible refine go_brnf hnt ?_ ?_); (· first | rfl | assumption))
    | (with_reducible refine go_brn hnt (fun h => ?_) (fun h => ?_))
    | (with_reducible refine go_brl hcm (fun hlt => ?_) (fun hge => ?_))
    | (with_reducible refine go_br (fun h => ?_) (fun h => ?_))
    | ((with_reducible apply go_ret_val hT); (· (cbv; try rfl)); (· (cbv; try rfl)))
    | ((with_reducible apply go_fin_val hT); (· (cbv; try rfl)); (· (cbv; try rfl)))
    | (with_reducible refine go_fork ?_)
    | (with_reducible refine fork_cons ?_ ?_)
    | (with_reducible exact fork_nil)
    | ((with_reducible refine go_need ?_ ?_ ?_); (· first | omega | (simp only [Int.ofNat_eq_natCast]; omega)); (· first | omega | (simp only [Int.ofNat_eq_natCast]; omega)))
    | ((with_reducible refine go_ob ?_ ?_); (· first | trivial | (refine ⟨trivial, ?_⟩; omega) | (rw [hzpl]; refine ⟨trivial, ?_⟩; show _ + _ ≤ 1073741824; omega) | (rw [hzpl]; show _ + _ ≤ 1073741824; omega)))
    | ((with_reducible apply go_ret_rows hT); (· (cbv; try rfl)); (· (cbv; try rfl)); (· (cbv; (try simp only [true_and, and_true]); (try ((repeat' apply And.intro) <;> (first | trivial | rfl | decide ))))); (· (cbv; (try simp only [true_and, and_true]); (try ((repeat' apply And.intro) <;> (first | trivial | rfl | exact RowLe.rfl' _ ))))); (· rfl))
    | ((with_reducible apply go_fin_rows hT); (· (cbv; try rfl)); (· (cbv; try rfl)); (· (cbv; (try simp only [true_and, and_true]); (try ((repeat' apply And.intro) <;> (first | trivial | rfl | decide ))))); (· (cbv; (try simp only [true_and, and_true]); (try ((repeat' apply And.intro) <;> (first | trivial | rfl | exact RowLe.rfl' _ ))))); (· rfl))
    | ((with_reducible apply go_call (f := 12) (hf := Try.call12)); (· (cbv; try rfl)); (· intro wc hbc hxc; exact alive23C wc))
    | ((with_reducible apply go_callq (f := 12) (hf := Try.call12)); (· (cbv; try rfl)); (· intro wc hbc hxc; exact alive23C wc))
    | ((with_reducible apply go_call_int (f := 13) (hf := Try.call13)); (· (cbv; try rfl)); (· intro wc hbc hxc; exact rPlaceChkF _ _ _ wc); intro z hz)
    | ((with_reducible apply go_callq_int (f := 13) (hf := Try.call13)); (· (cbv; try rfl)); (· intro wc hbc hxc; exact rPlaceChkF _ _ _ wc); intro z hz)
    | ((with_reducible apply go_inline (f := 14) (hf := Try.func14) (hr := Try.results14) (hcall := Try.call14)); (· rfl); (· (cbv; try rfl)))
    | (fail)
    )
  all_goals first | rfl | (exfalso; have := e1 _ (by assumption); simp_all; done)

set_option maxRecDepth 100000 in
set_option maxHeartbeats 32000000 in
theorem tabNk (p q : GPlace) (k : Int) (p0 : 0 ≤ p.f) (q0 : 0 ≤ q.f) (k0 : 0 ≤ k) (hp : p.ok = true) (hq : q.ok = true) (hk : ¬(1 ≤ k ∧ k ≤ 3)) (w : World) :
    Calls Try.prog 4 #[.agg #[.int .i64 p.l, .bool p.d, .int .u8 p.f], .agg #[.int .i64 q.l, .bool q.d, .int .u8 q.f], .int .u8 k] w (Ret w (.bool true)) := by
  obtain ⟨pl, pd, pf⟩ := p
  obtain ⟨ql, qd, qf⟩ := q
  clear p0 q0
  have _ := k0
  refine go_start (args := [.pt (.agg [.int .i64 pl, .bool pd, .int .u8 pf]), .pt (.agg [.int .i64 ql, .bool qd, .int .u8 qf]), .pt (.one (.int .u8 k))]) (c := NoRows) Try.func4 rfl (noRows_ok _) rfl rfl ?_
  obtain ⟨nd, hnd⟩ : ∃ f : Bool → Bool → Bool, f = and := ⟨_, rfl⟩
  obtain ⟨nt, hnt⟩ : ∃ f : Bool → Bool, f = not := ⟨_, rfl⟩
  obtain ⟨ar, har⟩ : ∃ f : BinOp → IntKind → Int → Int → Int, f = rAr := ⟨_, rfl⟩
  obtain ⟨cm, hcm⟩ : ∃ f : BinOp → Int → Int → Bool, f = rCm := ⟨_, rfl⟩
  obtain ⟨mx, hmx⟩ : ∃ f : Int → Int → Int, f = rMx := ⟨_, rfl⟩
  obtain ⟨mn, hmn⟩ : ∃ f : Int → Int → Int, f = rMn := ⟨_, rfl⟩
  have ar01 : ar .add .i64 0 1 = 1 := by rw [har]; decide
  have ar12 : ar .add .i64 1 1 = 2 := by rw [har]; decide
  obtain ⟨zpl, hzpl⟩ : ∃ f : Nat → Nat → Nat, f = fun x y => x + y := ⟨_, rfl⟩
  obtain ⟨zjn, hzjn⟩ : ∃ f : Nat → (Nat → List SC) → (Nat → List SC) → Nat → List SC, f = rJn := ⟨_, rfl⟩
  obtain ⟨zup, hzup⟩ : ∃ f : (Nat → List SC) → Nat → Nat → List SC → Nat → List SC, f = rUp := ⟨_, rfl⟩
  obtain ⟨zmi, hzmi⟩ : ∃ f : Nat → Nat → Nat, f = fun x y => x - y := ⟨_, rfl⟩
  obtain ⟨zdp, hzdp⟩ : ∃ f : Nat → (Nat → List SC) → Nat → List SC, f = rDp := ⟨_, rfl⟩
  have hT := T0_ok hnd hnt har hcm hmx hmn hzpl hzjn hzup hzmi hzdp
  have h9 : cm .lss k 1 = true ∨ cm .gtr k 3 = true := by
    rw [hcm]
    by_cases h : k < 1
    · exact .inl (decide_eq_true h)
    · exact .inr (decide_eq_true (show (3 : Int) < k by omega))
  repeat' (first
    | ((with_reducible apply go_ev hT 400); (· (cbv; try rfl)); (fail_if_success with_reducible apply stuck_id))
    | ((with_reducible refine go_brt ?_ ?_); (· first | rfl | assumption | (rw [hcm]; decide)))
    | ((with_reducible refine go_brf ?_ ?_); (· first | rfl | assumption | (rw [hcm]; decide)))
    | ((with_reducible refine go_brnt hnt ?_ ?_); (· first | rfl | assumption))
    | ((with_reducible refine go_brnf hnt ?_ ?_); (· first | rfl | assumption))
    | (with_reducible refine go_brn hnt (fun h => ?_) (fun h => ?_))
    | (with_reducible refine go_brl hcm (fun hlt => ?_) (fun hge => ?_))
    | (with_reducible refine go_br (fun h => ?_) (fun h => ?_))
    | ((with_reducible apply go_ret_val hT); (· (cbv; try rfl)); (· (cbv; try rfl)))
    | ((with_reducible apply go_fin_val hT); (· (cbv; try rfl)); (· (cbv; try rfl)))
    | (with_reducible refine go_fork ?_)
    | (with_reducible refine fork_cons ?_ ?_)
    | (with_reducible exact fork_nil)
    | ((with_reducible refine go_need ?_ ?_ ?_); (· first | omega | (simp only [Int.ofNat_eq_natCast]; omega)); (· first | omega | (simp only [Int.ofNat_eq_natCast]; omega)))
    | ((with_reducible refine go_ob ?_ ?_); (· first | trivial | (refine ⟨trivial, ?_⟩; omega) | (rw [hzpl]; refine ⟨trivial, ?_⟩; show _ + _ ≤ 1073741824; omega) | (rw [hzpl]; show _ + _ ≤ 1073741824; omega)))
    | ((with_reducible apply go_ret_rows hT); (· (cbv; try rfl)); (· (cbv; try rfl)); (· (cbv; (try simp only [true_and, and_true]); (try ((repeat' apply And.intro) <;> (first | trivial | rfl | decide ))))); (· (cbv; (try simp only [true_and, and_true]); (try ((repeat' apply And.intro) <;> (first | trivial | rfl | exact RowLe.rfl' _ ))))); (· rfl))
    | ((with_reducible apply go_fin_rows hT); (· (cbv; try rfl)); (· (cbv; try rfl)); (· (cbv; (try simp only [true_and, and_true]); (try ((repeat' apply And.intro) <;> (first | trivial | rfl | decide ))))); (· (cbv; (try simp only [true_and, and_true]); (try ((repeat' apply And.intro) <;> (first | trivial | rfl | exact RowLe.rfl' _ ))))); (· rfl))
    | ((with_reducible apply go_call (f := 12) (hf := Try.call12)); (· (cbv; try rfl)); (· intro wc hbc hxc; exact alive23C wc))
    | ((with_reducible apply go_callq (f := 12) (hf := Try.call12)); (· (cbv; try rfl)); (· intro wc hbc hxc; exact alive23C wc))
    | ((with_reducible apply go_call (f := 13) (hf := Try.call13)); (· (cbv; try rfl)); (· intro wc hbc hxc; exact rPlaceOk' _ _ _ (by first | exact hp | exact hq) wc))
    | ((with_reducible apply go_callq (f := 13) (hf := Try.call13)); (· (cbv; try rfl)); (· intro wc hbc hxc; exact rPlaceOk' _ _ _ (by first | exact hp | exact hq) wc))
    | (fail)
    )
  all_goals first | rfl | (exfalso; rcases h9 with h9 | h9 <;> simp_all; done)

end Go.Proofs.Ytgoeinkmndicfaa
