/- Layer 5 of the program: the check of a statement, walked the second way. No condition. -/
import Derived.Test.YtbimggeapaaliaaSyA
namespace Go.Proofs.Ytbimggeapaaliaa
open Go.RowKit
set_option linter.unusedVariables false
set_option linter.unusedSimpArgs false

theorem valChkF (k op bo ak an al af bk bn bl bf pl pf : Int) (ad bd pd : Bool) (w : World) :
    Calls Try.prog 63 #[.agg #[.int .u8 k, .int .u8 op, .int .u8 bo, .int .u8 ak, .int .i64 an, .int .i64 al, .bool ad, .int .u8 af, .int .u8 bk, .int .i64 bn, .int .i64 bl, .bool bd, .int .u8 bf, .int .i64 pl, .bool pd, .int .u8 pf]] w (Ret w (.int .i64 (okI (GRv.mk k op bo ⟨ak, an, ⟨al, ad, af⟩⟩ ⟨bk, bn, ⟨bl, bd, bf⟩⟩ ⟨pl, pd, pf⟩).ok))) :=
  valChk ⟨k, op, bo, ⟨ak, an, ⟨al, ad, af⟩⟩, ⟨bk, bn, ⟨bl, bd, bf⟩⟩, ⟨pl, pd, pf⟩⟩ w

set_option maxRecDepth 100000 in
set_option maxHeartbeats 1000000 in
theorem stmtChk (s : GStmt) (w : World) :
    Calls Try.prog 47 #[s.val] w (Ret w (.int .i64 (okI s.ok))) := by
  refine go_start (args := [.pt (.agg s.sc)]) (c := NoRows) Try.func47 rfl (noRows_ok _) rfl rfl ?_
  obtain ⟨nd, hnd⟩ : ∃ f : Bool → Bool → Bool, f = and := ⟨_, rfl⟩
  obtain ⟨nt, hnt⟩ : ∃ f : Bool → Bool, f = not := ⟨_, rfl⟩
  obtain ⟨ar, har⟩ : ∃ f : BinOp → IntKind → Int → Int → Int, f = rAr := ⟨_, rfl⟩
  obtain ⟨cm, hcm⟩ : ∃ f : BinOp → Int → Int → Bool, f = rCm := ⟨_, rfl⟩
  obtain ⟨mx, hmx⟩ : ∃ f : Int → Int → Int, f = rMx := ⟨_, rfl⟩
  obtain ⟨mn, hmn⟩ : ∃ f : Int → Int → Int, f = rMn := ⟨_, rfl⟩
  have ar01 : ar .add .i64 0 1 = 1 := by rw [har]; decide
  have ar12 : ar .add .i64 1 1 = 2 := by rw [har]; decide
  obtain ⟨zpl, hzpl⟩ : ∃ f : Nat → Nat → Nat, f = fun x y => x + y := ⟨_, rfl⟩
  obtain ⟨zjn, hzjn⟩ : ∃ f : Nat → (Nat → List SC) → (Nat → List SC) → Nat → List SC, f = rJn := ⟨_, rfl⟩
  obtain ⟨zup, hzup⟩ : ∃ f : (Nat → List SC) → Nat → Nat → List SC → Nat → List SC, f = rUp := ⟨_, rfl⟩
  obtain ⟨zmi, hzmi⟩ : ∃ f : Nat → Nat → Nat, f = fun x y => x - y := ⟨_, rfl⟩
  obtain ⟨zdp, hzdp⟩ : ∃ f : Nat → (Nat → List SC) → Nat → List SC, f = rDp := ⟨_, rfl⟩
  have hT := T0_ok hnd hnt har hcm hmx hmn hzpl hzjn hzup hzmi hzdp
  repeat' (first
    | ((with_reducible apply go_ev hT 400); (· (cbv; try rfl)); (fail_if_success with_reducible apply stuck_id))
    | ((with_reducible refine go_brt ?_ ?_); (· first | rfl | assumption | (rw [hcm]; decide)))
    | ((with_reducible refine go_brf ?_ ?_); (· first | rfl | assumption | (rw [hcm]; decide)))
    | ((with_reducible refine go_brnt hnt ?_ ?_); (· first | rfl | assumption))
    | ((with_reducible refine go_brnf hnt ?_ ?_); (· first | rfl | assumption))
    | (with_reducible refine go_brn hnt (fun h => ?_) (fun h => ?_))
    | (with_reducible refine go_brl hcm (fun hlt => ?_) (fun hge => ?_))
    | (with_reducible refine go_br (fun h => ?_) (fun h => ?_))
    | ((with_reducible apply go_ret_val hT); (· (cbv; try rfl)); (· (cbv; try rfl)))
    | ((with_reducible apply go_fin_val hT); (· (cbv; try rfl)); (· (cbv; try rfl)))
    | ((with_reducible apply go_draw); (· rfl); (· kernel_rfl); (· kernel_rfl))
    | ((with_reducible apply go_drawE); (· kernel_rfl))
    | (with_reducible refine go_fork ?_)
    | (with_reducible refine fork_cons ?_ ?_)
    | (with_reducible exact fork_nil)
    | ((with_reducible refine go_need ?_ ?_ ?_); (· first | omega | (simp only [Int.ofNat_eq_natCast]; omega)); (· first | omega | (simp only [Int.ofNat_eq_natCast]; omega)))
    | ((with_reducible refine go_ob ?_ ?_); (· first | trivial | (refine ⟨trivial, ?_⟩; omega) | (rw [hzpl]; refine ⟨trivial, ?_⟩; show _ + _ ≤ 1073741824; omega) | (rw [hzpl]; show _ + _ ≤ 1073741824; omega)))
    | ((with_reducible apply go_ret_rows hT); (· (cbv; try rfl)); (· (cbv; try rfl)); (· (cbv; (try simp only [true_and, and_true]); (try ((repeat' apply And.intro) <;> (first | trivial | rfl | decide ))))); (· (cbv; (try simp only [true_and, and_true]); (try ((repeat' apply And.intro) <;> (first | trivial | rfl | exact RowLe.rfl' _ ))))); (· rfl))
    | ((with_reducible apply go_fin_rows hT); (· (cbv; try rfl)); (· (cbv; try rfl)); (· (cbv; (try simp only [true_and, and_true]); (try ((repeat' apply And.intro) <;> (first | trivial | rfl | decide ))))); (· (cbv; (try simp only [true_and, and_true]); (try ((repeat' apply And.intro) <;> (first | trivial | rfl | exact RowLe.rfl' _ ))))); (· rfl))
    | ((with_reducible apply go_call_int (f := 62) (hf := Try.call62)); (· (cbv; try rfl)); (· intro wc hbc hxc; exact placeChkF _ _ _ wc); intro z hz)
    | ((with_reducible apply go_callq_int (f := 62) (hf := Try.call62)); (· (cbv; try rfl)); (· intro wc hbc hxc; exact placeChkF _ _ _ wc); intro z hz)
    | ((with_reducible apply go_call_int (f := 64) (hf := Try.call64)); (· (cbv; try rfl)); (· intro wc hbc hxc; exact operChkF _ _ _ _ _ wc); intro z hz)
    | ((with_reducible apply go_callq_int (f := 64) (hf := Try.call64)); (· (cbv; try rfl)); (· intro wc hbc hxc; exact operChkF _ _ _ _ _ wc); intro z hz)
    | ((with_reducible apply go_call_int (f := 63) (hf := Try.call63)); (· (cbv; try rfl)); (· intro wc hbc hxc; exact valChkF _ _ _ _ _ _ _ _ _ _ _ _ _ _ _ _ wc); intro z hz)
    | ((with_reducible apply go_callq_int (f := 63) (hf := Try.call63)); (· (cbv; try rfl)); (· intro wc hbc hxc; exact valChkF _ _ _ _ _ _ _ _ _ _ _ _ _ _ _ _ wc); intro z hz)
    )
  all_goals
    clear ar01 ar12 hT
    subst hnd hnt hmx hmn
    refine int_eq ?_
  all_goals (obtain ⟨k, ⟨ql, qd, qf⟩, ⟨rk, rop, rbo, ⟨ak, an, ⟨al, ad, af⟩⟩, ⟨bk, bn, ⟨bl, bd, bf⟩⟩, ⟨pl, pd, pf⟩⟩, ⟨ck, cn, ⟨cl, cd, cf⟩⟩, l⟩ := s; subst_vars; simp only [GStmt.ok, GRv.eqB, GRv.zero, GOper.eqB, GPlace.eqB, GPlace.zero, GOper.zero, okI_z] at *)
  all_goals (first | refine okI_8 ?_ | refine okI_0 ?_ | skip)
  all_goals grind [okI, rMx, GPlace.ok]

end Go.Proofs.Ytbimggeapaaliaa
