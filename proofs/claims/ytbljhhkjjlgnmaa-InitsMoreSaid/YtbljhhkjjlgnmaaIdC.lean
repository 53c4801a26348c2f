/- Layer 15: the deeds of a statement, by the program. No condition. -/
import Derived.Test.YtbljhhkjjlgnmaaIdA
namespace Go.Proofs.Ytbljhhkjjlgnmaa
open Go.RowKit
set_option linter.unusedVariables false
set_option linter.unusedSimpArgs false

set_option maxRecDepth 100000 in
theorem writtenC (l f : Int) (d : Bool) (w : World) :
    Calls Try.prog 67 #[.agg #[.int .i64 l, .bool d, .int .u8 f]] w (Ret w (.agg #[.int .i64 l, .bool (!wholeP ⟨l, d, f⟩), .bool (wholeP ⟨l, d, f⟩), .bool false])) := by
  obtain ⟨z, hz⟩ : ∃ z, z = wholeP ⟨l, d, f⟩ := ⟨_, rfl⟩
  obtain ⟨z', hz'⟩ : ∃ z', z' = !z := ⟨_, rfl⟩
  rw [← hz, ← hz']
  refine go_start (args := [.pt (.agg [.int .i64 l, .bool d, .int .u8 f])]) (c := NoRows) Try.func67 rfl (noRows_ok _) rfl rfl ?_
  obtain ⟨nd, hnd⟩ : ∃ f : Bool → Bool → Bool, f = and := ⟨_, rfl⟩
  obtain ⟨nt, hnt⟩ : ∃ f : Bool → Bool, f = not := ⟨_, rfl⟩
  obtain ⟨ar, har⟩ : ∃ f : BinOp → IntKind → Int → Int → Int, f = rAr := ⟨_, rfl⟩
  obtain ⟨cm, hcm⟩ : ∃ f : BinOp → Int → Int → Bool, f = rCm := ⟨_, rfl⟩
  obtain ⟨mx, hmx⟩ : ∃ f : Int → Int → Int, f = rMx := ⟨_, rfl⟩
  obtain ⟨mn, hmn⟩ : ∃ f : Int → Int → Int, f = rMn := ⟨_, rfl⟩
  have ar01 : ar .add .i64 0 1 = 1 := by rw [har]; decide
  have ar12 : ar .add .i64 1 1 = 2 := by rw [har]; decide
  obtain ⟨zpl, hzpl⟩ : ∃ f : Nat → Nat → Nat, f = fun x y => x + y := ⟨_, rfl⟩
  obtain ⟨zjn, hzjn⟩ : ∃ f : Nat → (Nat → List SC) → (Nat → List SC) → Nat → List SC, f = rJn := ⟨_, rfl⟩
  obtain ⟨zup, hzup⟩ : ∃ f : (Nat → List SC) → Nat → Nat → List SC → Nat → List SC, f = rUp := ⟨_, rfl⟩
  obtain ⟨zmi, hzmi⟩ : ∃ f : Nat → Nat → Nat, f = fun x y => x - y := ⟨_, rfl⟩
  obtain ⟨zdp, hzdp⟩ : ∃ f : Nat → (Nat → List SC) → Nat → List SC, f = rDp := ⟨_, rfl⟩
  have hT := T0_ok hnd hnt har hcm hmx hmn hzpl hzjn hzup hzmi hzdp
  repeat' (first
    | ((with_reducible apply go_ev hT 400); (· (cbv; try rfl)); (fail_if_success with_reducible apply stuck_id))
    | (with_reducible refine go_br (fun h => ?_) (fun h => ?_))
    | ((with_reducible apply go_ret_val hT); (· (cbv; try rfl)); (· (cbv; try rfl)))
    )
  all_goals
    subst hnd hnt hcm
    simp only [wholeP] at hz
    subst hz'
    subst hz
    simp_all
  all_goals (rw [Bool.eq_iff_iff]; simp)

set_option maxRecDepth 100000 in
set_option maxHeartbeats 16000000 in
theorem stDeed (n : Nat) (w : World) (s : GStmt) (hs : s.ok = true) (hin : StIn n s) :
    Calls Try.prog 45 #[s.val] w (RetR w NoRows (.pt (.one (.rs 0))) [deR (stD s)]) := by
  have h1 (hk : s.k = 1) (wc : World) := valChkF s.r.k s.r.op s.r.bo s.r.a.k s.r.a.n s.r.a.p.l s.r.a.p.f s.r.b.k s.r.b.n s.r.b.p.l s.r.b.p.f s.r.p.l s.r.p.f s.r.a.p.d s.r.b.p.d s.r.p.d wc
  have e1 (hk : s.k = 1) : (GRv.mk s.r.k s.r.op s.r.bo ⟨s.r.a.k, s.r.a.n, ⟨s.r.a.p.l, s.r.a.p.d, s.r.a.p.f⟩⟩ ⟨s.r.b.k, s.r.b.n, ⟨s.r.b.p.l, s.r.b.p.d, s.r.b.p.f⟩⟩ ⟨s.r.p.l, s.r.p.d, s.r.p.f⟩).ok = true := by
    show s.r.ok = true
    simp only [GStmt.ok, Bool.or_eq_true, Bool.and_eq_true, beq_iff_eq] at hs
    grind
  have h1 (hk : s.k = 1) (wc : World) := by
    have := h1 hk wc
    rw [e1 hk] at this
    exact this
  clear e1 hs
  obtain ⟨L, hL⟩ : ∃ L, L = stD s := ⟨_, rfl⟩
  obtain ⟨R, hR⟩ : ∃ R, R = deR (stD s) := ⟨_, rfl⟩
  rw [← hR]
  rw [← hL] at hR
  simp only [stD, rvD, opD, wrD] at hL
  have hk := hin.k
  have hr := hin.r
  have ha := hin.a
  clear hin
  obtain ⟨yk, ⟨ql, qd, qf⟩, ⟨rk, ro, rb, ⟨ak, an, ⟨al, ad, af⟩⟩, ⟨ek, en, ⟨el, ed, ef⟩⟩, ⟨gl, gd, gf⟩⟩, ⟨ck, cn, ⟨cl, cd, cf⟩⟩, yl⟩ := s
  simp only at h1 hL hk hr ha
  rcases hk with rfl | rfl | rfl | rfl
  · have hr := hr rfl
    have h1 := h1 rfl
    clear ha
    rcases hr with ⟨rfl, hx⟩ | ⟨rfl | rfl, hx, hy⟩ | rfl | rfl
    · rcases hx with hx | ⟨hx | hx, hx0, hx1⟩ <;> simp only at hx <;> subst hx
      all_goals
        skip
        simp at hL
        subst hL
        refine go_start (args := [.pt (.agg (GStmt.sc _))]) (c := NoRows) Try.func45 rfl (noRows_ok _) rfl rfl ?_
        obtain ⟨nd, hnd⟩ : ∃ f : Bool → Bool → Bool, f = and := ⟨_, rfl⟩
        obtain ⟨nt, hnt⟩ : ∃ f : Bool → Bool, f = not := ⟨_, rfl⟩
        obtain ⟨ar, har⟩ : ∃ f : BinOp → IntKind → Int → Int → Int, f = rAr := ⟨_, rfl⟩
        obtain ⟨cm, hcm⟩ : ∃ f : BinOp → Int → Int → Bool, f = rCm := ⟨_, rfl⟩
        obtain ⟨mx, hmx⟩ : ∃ f : Int → Int → Int, f = rMx := ⟨_, rfl⟩
        obtain ⟨mn, hmn⟩ : ∃ f : Int → Int → Int, f = rMn := ⟨_, rfl⟩
        have ar01 : ar .add .i64 0 1 = 1 := by rw [har]; decide
        have ar12 : ar .add .i64 1 1 = 2 := by rw [har]; decide
        obtain ⟨zpl, hzpl⟩ : ∃ f : Nat → Nat → Nat, f = fun x y => x + y := ⟨_, rfl⟩
        obtain ⟨zjn, hzjn⟩ : ∃ f : Nat → (Nat → List SC) → (Nat → List SC) → Nat → List SC, f = rJn := ⟨_, rfl⟩
        obtain ⟨zup, hzup⟩ : ∃ f : (Nat → List SC) → Nat → Nat → List SC → Nat → List SC, f = rUp := ⟨_, rfl⟩
        obtain ⟨zmi, hzmi⟩ : ∃ f : Nat → Nat → Nat, f = fun x y => x - y := ⟨_, rfl⟩
        obtain ⟨zdp, hzdp⟩ : ∃ f : Nat → (Nat → List SC) → Nat → List SC, f = rDp := ⟨_, rfl⟩
        have hT := T0_ok hnd hnt har hcm hmx hmn hzpl hzjn hzup hzmi hzdp
        repeat' (first
          | ((with_reducible apply go_ev hT 400); (· (cbv; try rfl)); (fail_if_success with_reducible apply stuck_id); (try simp only [ar01, ar12]))
          | ((with_reducible refine go_brt ?_ ?_); (· first | rfl | assumption | (rw [hcm]; decide)))
          | ((with_reducible refine go_brf ?_ ?_); (· first | rfl | assumption | (rw [hcm]; decide)))
          | ((with_reducible refine go_brnt hnt ?_ ?_); (· first | rfl | assumption))
          | ((with_reducible refine go_brnf hnt ?_ ?_); (· first | rfl | assumption))
          | ((with_reducible refine go_need ?_ ?_ ?_); (· first | omega | (simp only [Int.ofNat_eq_natCast]; omega)); (· first | omega | (simp only [Int.ofNat_eq_natCast]; omega)))
          | ((with_reducible refine go_ob ?_ ?_); (· first | trivial | (refine ⟨trivial, ?_⟩; omega) | (rw [hzpl]; refine ⟨trivial, ?_⟩; show _ + _ ≤ 1073741824; omega) | (rw [hzpl]; show _ + _ ≤ 1073741824; omega) | ((rw [hzpl]; exact (show 1 + 1 + 1 ≤ 1073741824 from by decide)))))
          | ((with_reducible apply go_ret_rows hT); (· (cbv; try rfl)); (· (cbv; try rfl)); (· (cbv; (try simp only [true_and, and_true]); (try ((repeat' apply And.intro) <;> (first | trivial | rfl | decide  | ((rw [hR]; first | exact deLe_nil | exact deLe_blk rfl rfl rfl rfl (leDeed (by first | exact leLit _ | exact leBoo _) (by first | exact leLit _ | exact leBoo _) (by first | exact leLit _ | exact leBoo _)) | exact deLe1 (leDeed (by first | exact leLit _ | exact leBoo _) (by first | exact leLit _ | exact leBoo _) (by first | exact leLit _ | exact leBoo _)) | exact deLe2 hzpl hzjn (leDeed (by first | exact leLit _ | exact leBoo _) (by first | exact leLit _ | exact leBoo _) (by first | exact leLit _ | exact leBoo _)) (leDeed (by first | exact leLit _ | exact leBoo _) (by first | exact leLit _ | exact leBoo _) (by first | exact leLit _ | exact leBoo _)) | exact deLe3 hzpl hzjn (leDeed (by first | exact leLit _ | exact leBoo _) (by first | exact leLit _ | exact leBoo _) (by first | exact leLit _ | exact leBoo _)) (leDeed (by first | exact leLit _ | exact leBoo _) (by first | exact leLit _ | exact leBoo _) (by first | exact leLit _ | exact leBoo _)) (leDeed (by first | exact leLit _ | exact leBoo _) (by first | exact leLit _ | exact leBoo _) (by first | exact leLit _ | exact leBoo _))))))))); (· (cbv; (try simp only [true_and, and_true]); (try ((repeat' apply And.intro) <;> (first | trivial | rfl | exact RowLe.rfl' _  | ((rw [hR]; first | exact deLe_nil | exact deLe_blk rfl rfl rfl rfl (leDeed (by first | exact leLit _ | exact leBoo _) (by first | exact leLit _ | exact leBoo _) (by first | exact leLit _ | exact leBoo _)) | exact deLe1 (leDeed (by first | exact leLit _ | exact leBoo _) (by first | exact leLit _ | exact leBoo _) (by first | exact leLit _ | exact leBoo _)) | exact deLe2 hzpl hzjn (leDeed (by first | exact leLit _ | exact leBoo _) (by first | exact leLit _ | exact leBoo _) (by first | exact leLit _ | exact leBoo _)) (leDeed (by first | exact leLit _ | exact leBoo _) (by first | exact leLit _ | exact leBoo _) (by first | exact leLit _ | exact leBoo _)) | exact deLe3 hzpl hzjn (leDeed (by first | exact leLit _ | exact leBoo _) (by first | exact leLit _ | exact leBoo _) (by first | exact leLit _ | exact leBoo _)) (leDeed (by first | exact leLit _ | exact leBoo _) (by first | exact leLit _ | exact leBoo _) (by first | exact leLit _ | exact leBoo _)) (leDeed (by first | exact leLit _ | exact leBoo _) (by first | exact leLit _ | exact leBoo _) (by first | exact leLit _ | exact leBoo _))))))))); (· rfl))
          | ((with_reducible apply go_call (f := 71) (hf := Try.call71)); (· (cbv; try rfl)); (· intro wc hbc hxc; exact h1 wc))
          | ((with_reducible apply go_inline (f := 65) (hf := Try.func65) (hr := Try.results65) (hcall := Try.call65)); (· rfl); (· (cbv; try rfl)))
          | ((with_reducible apply go_inline (f := 82) (hf := Try.func82) (hr := Try.results82) (hcall := Try.call82)); (· rfl); (· (cbv; try rfl)))
          | ((with_reducible apply go_inline (f := 66) (hf := Try.func66) (hr := Try.results66) (hcall := Try.call66)); (· rfl); (· (cbv; try rfl)))
          | ((with_reducible apply go_call (f := 67) (hf := Try.call67)); (· (cbv; try rfl)); (· intro wc hbc hxc; exact writtenC _ _ _ wc))
          | (with_reducible apply go_rounds 4)
          )
    · rcases hx with hx | ⟨hx | hx, hx0, hx1⟩ <;> rcases hy with hy | ⟨hy | hy, hy0, hy1⟩ <;> simp only at hx hy <;> subst hx hy
      all_goals
        skip
        simp at hL
        subst hL
        refine go_start (args := [.pt (.agg (GStmt.sc _))]) (c := NoRows) Try.func45 rfl (noRows_ok _) rfl rfl ?_
        obtain ⟨nd, hnd⟩ : ∃ f : Bool → Bool → Bool, f = and := ⟨_, rfl⟩
        obtain ⟨nt, hnt⟩ : ∃ f : Bool → Bool, f = not := ⟨_, rfl⟩
        obtain ⟨ar, har⟩ : ∃ f : BinOp → IntKind → Int → Int → Int, f = rAr := ⟨_, rfl⟩
        obtain ⟨cm, hcm⟩ : ∃ f : BinOp → Int → Int → Bool, f = rCm := ⟨_, rfl⟩
        obtain ⟨mx, hmx⟩ : ∃ f : Int → Int → Int, f = rMx := ⟨_, rfl⟩
        obtain ⟨mn, hmn⟩ : ∃ f : Int → Int → Int, f = rMn := ⟨_, rfl⟩
        have ar01 : ar .add .i64 0 1 = 1 := by rw [har]; decide
        have ar12 : ar .add .i64 1 1 = 2 := by rw [har]; decide
        obtain ⟨zpl, hzpl⟩ : ∃ f : Nat → Nat → Nat, f = fun x y => x + y := ⟨_, rfl⟩
        obtain ⟨zjn, hzjn⟩ : ∃ f : Nat → (Nat → List SC) → (Nat → List SC) → Nat → List SC, f = rJn := ⟨_, rfl⟩
        obtain ⟨zup, hzup⟩ : ∃ f : (Nat → List SC) → Nat → Nat → List SC → Nat → List SC, f = rUp := ⟨_, rfl⟩
        obtain ⟨zmi, hzmi⟩ : ∃ f : Nat → Nat → Nat, f = fun x y => x - y := ⟨_, rfl⟩
        obtain ⟨zdp, hzdp⟩ : ∃ f : Nat → (Nat → List SC) → Nat → List SC, f = rDp := ⟨_, rfl⟩
        have hT := T0_ok hnd hnt har hcm hmx hmn hzpl hzjn hzup hzmi hzdp
        repeat' (first
          | ((with_reducible apply go_ev hT 400); (· (cbv; try rfl)); (fail_if_success with_reducible apply stuck_id); (try simp only [ar01, ar12]))
          | ((with_reducible refine go_brt ?_ ?_); (· first | rfl | assumption | (rw [hcm]; decide)))
          | ((with_reducible refine go_brf ?_ ?_); (· first | rfl | assumption | (rw [hcm]; decide)))
          | ((with_reducible refine go_brnt hnt ?_ ?_); (· first | rfl | assumption))
          | ((with_reducible refine go_brnf hnt ?_ ?_); (· first | rfl | assumption))
          | ((with_reducible refine go_need ?_ ?_ ?_); (· first | omega | (simp only [Int.ofNat_eq_natCast]; omega)); (· first | omega | (simp only [Int.ofNat_eq_natCast]; omega)))
          | ((with_reducible refine go_ob ?_ ?_); (· first | trivial | (refine ⟨trivial, ?_⟩; omega) | (rw [hzpl]; refine ⟨trivial, ?_⟩; show _ + _ ≤ 1073741824; omega) | (rw [hzpl]; show _ + _ ≤ 1073741824; omega) | ((rw [hzpl]; exact (show 1 + 1 + 1 ≤ 1073741824 from by decide)))))
          | ((with_reducible apply go_ret_rows hT); (· (cbv; try rfl)); (· (cbv; try rfl)); (· (cbv; (try simp only [true_and, and_true]); (try ((repeat' apply And.intro) <;> (first | trivial | rfl | decide  | ((rw [hR]; first | exact deLe_nil | exact deLe_blk rfl rfl rfl rfl (leDeed (by first | exact leLit _ | exact leBoo _) (by first | exact leLit _ | exact leBoo _) (by first | exact leLit _ | exact leBoo _)) | exact deLe1 (leDeed (by first | exact leLit _ | exact leBoo _) (by first | exact leLit _ | exact leBoo _) (by first | exact leLit _ | exact leBoo _)) | exact deLe2 hzpl hzjn (leDeed (by first | exact leLit _ | exact leBoo _) (by first | exact leLit _ | exact leBoo _) (by first | exact leLit _ | exact leBoo _)) (leDeed (by first | exact leLit _ | exact leBoo _) (by first | exact leLit _ | exact leBoo _) (by first | exact leLit _ | exact leBoo _)) | exact deLe3 hzpl hzjn (leDeed (by first | exact leLit _ | exact leBoo _) (by first | exact leLit _ | exact leBoo _) (by first | exact leLit _ | exact leBoo _)) (leDeed (by first | exact leLit _ | exact leBoo _) (by first | exact leLit _ | exact leBoo _) (by first | exact leLit _ | exact leBoo _)) (leDeed (by first | exact leLit _ | exact leBoo _) (by first | exact leLit _ | exact leBoo _) (by first | exact leLit _ | exact leBoo _))))))))); (· (cbv; (try simp only [true_and, and_true]); (try ((repeat' apply And.intro) <;> (first | trivial | rfl | exact RowLe.rfl' _  | ((rw [hR]; first | exact deLe_nil | exact deLe_blk rfl rfl rfl rfl (leDeed (by first | exact leLit _ | exact leBoo _) (by first | exact leLit _ | exact leBoo _) (by first | exact leLit _ | exact leBoo _)) | exact deLe1 (leDeed (by first | exact leLit _ | exact leBoo _) (by first | exact leLit _ | exact leBoo _) (by first | exact leLit _ | exact leBoo _)) | exact deLe2 hzpl hzjn (leDeed (by first | exact leLit _ | exact leBoo _) (by first | exact leLit _ | exact leBoo _) (by first | exact leLit _ | exact leBoo _)) (leDeed (by first | exact leLit _ | exact leBoo _) (by first | exact leLit _ | exact leBoo _) (by first | exact leLit _ | exact leBoo _)) | exact deLe3 hzpl hzjn (leDeed (by first | exact leLit _ | exact leBoo _) (by first | exact leLit _ | exact leBoo _) (by first | exact leLit _ | exact leBoo _)) (leDeed (by first | exact leLit _ | exact leBoo _) (by first | exact leLit _ | exact leBoo _) (by first | exact leLit _ | exact leBoo _)) (leDeed (by first | exact leLit _ | exact leBoo _) (by first | exact leLit _ | exact leBoo _) (by first | exact leLit _ | exact leBoo _))))))))); (· rfl))
          | ((with_reducible apply go_call (f := 71) (hf := Try.call71)); (· (cbv; try rfl)); (· intro wc hbc hxc; exact h1 wc))
          | ((with_reducible apply go_inline (f := 65) (hf := Try.func65) (hr := Try.results65) (hcall := Try.call65)); (· rfl); (· (cbv; try rfl)))
          | ((with_reducible apply go_inline (f := 82) (hf := Try.func82) (hr := Try.results82) (hcall := Try.call82)); (· rfl); (· (cbv; try rfl)))
          | ((with_reducible apply go_inline (f := 66) (hf := Try.func66) (hr := Try.results66) (hcall := Try.call66)); (· rfl); (· (cbv; try rfl)))
          | ((with_reducible apply go_call (f := 67) (hf := Try.call67)); (· (cbv; try rfl)); (· intro wc hbc hxc; exact writtenC _ _ _ wc))
          | (with_reducible apply go_rounds 4)
          )
    · rcases hx with hx | ⟨hx | hx, hx0, hx1⟩ <;> rcases hy with hy | ⟨hy | hy, hy0, hy1⟩ <;> simp only at hx hy <;> subst hx hy
      all_goals
        skip
        simp at hL
        subst hL
        refine go_start (args := [.pt (.agg (GStmt.sc _))]) (c := NoRows) Try.func45 rfl (noRows_ok _) rfl rfl ?_
        obtain ⟨nd, hnd⟩ : ∃ f : Bool → Bool → Bool, f = and := ⟨_, rfl⟩
        obtain ⟨nt, hnt⟩ : ∃ f : Bool → Bool, f = not := ⟨_, rfl⟩
        obtain ⟨ar, har⟩ : ∃ f : BinOp → IntKind → Int → Int → Int, f = rAr := ⟨_, rfl⟩
        obtain ⟨cm, hcm⟩ : ∃ f : BinOp → Int → Int → Bool, f = rCm := ⟨_, rfl⟩
        obtain ⟨mx, hmx⟩ : ∃ f : Int → Int → Int, f = rMx := ⟨_, rfl⟩
        obtain ⟨mn, hmn⟩ : ∃ f : Int → Int → Int, f = rMn := ⟨_, rfl⟩
        have ar01 : ar .add .i64 0 1 = 1 := by rw [har]; decide
        have ar12 : ar .add .i64 1 1 = 2 := by rw [har]; decide
        obtain ⟨zpl, hzpl⟩ : ∃ f : Nat → Nat → Nat, f = fun x y => x + y := ⟨_, rfl⟩
        obtain ⟨zjn, hzjn⟩ : ∃ f : Nat → (Nat → List SC) → (Nat → List SC) → Nat → List SC, f = rJn := ⟨_, rfl⟩
        obtain ⟨zup, hzup⟩ : ∃ f : (Nat → List SC) → Nat → Nat → List SC → Nat → List SC, f = rUp := ⟨_, rfl⟩
        obtain ⟨zmi, hzmi⟩ : ∃ f : Nat → Nat → Nat, f = fun x y => x - y := ⟨_, rfl⟩
        obtain ⟨zdp, hzdp⟩ : ∃ f : Nat → (Nat → List SC) → Nat → List SC, f = rDp := ⟨_, rfl⟩
        have hT := T0_ok hnd hnt har hcm hmx hmn hzpl hzjn hzup hzmi hzdp
        repeat' (first
          | ((with_reducible apply go_ev hT 400); (· (cbv; try rfl)); (fail_if_success with_reducible apply stuck_id); (try simp only [ar01, ar12]))
          | ((with_reducible refine go_brt ?_ ?_); (· first | rfl | assumption | (rw [hcm]; decide)))
          | ((with_reducible refine go_brf ?_ ?_); (· first | rfl | assumption | (rw [hcm]; decide)))
          | ((with_reducible refine go_brnt hnt ?_ ?_); (· first | rfl | assumption))
          | ((with_reducible refine go_brnf hnt ?_ ?_); (· first | rfl | assumption))
          | ((with_reducible refine go_need ?_ ?_ ?_); (· first | omega | (simp only [Int.ofNat_eq_natCast]; omega)); (· first | omega | (simp only [Int.ofNat_eq_natCast]; omega)))
          | ((with_reducible refine go_ob ?_ ?_); (· first | trivial | (refine ⟨trivial, ?_⟩; omega) | (rw [hzpl]; refine ⟨trivial, ?_⟩; show _ + _ ≤ 1073741824; omega) | (rw [hzpl]; show _ + _ ≤ 1073741824; omega) | ((rw [hzpl]; exact (show 1 + 1 + 1 ≤ 1073741824 from by decide)))))
          | ((with_reducible apply go_ret_rows hT); (· (cbv; try rfl)); (· (cbv; try rfl)); (· (cbv; (try simp only [true_and, and_true]); (try ((repeat' apply And.intro) <;> (first | trivial | rfl | decide  | ((rw [hR]; first | exact deLe_nil | exact deLe_blk rfl rfl rfl rfl (leDeed (by first | exact leLit _ | exact leBoo _) (by first | exact leLit _ | exact leBoo _) (by first | exact leLit _ | exact leBoo _)) | exact deLe1 (leDeed (by first | exact leLit _ | exact leBoo _) (by first | exact leLit _ | exact leBoo _) (by first | exact leLit _ | exact leBoo _)) | exact deLe2 hzpl hzjn (leDeed (by first | exact leLit _ | exact leBoo _) (by first | exact leLit _ | exact leBoo _) (by first | exact leLit _ | exact leBoo _)) (leDeed (by first | exact leLit _ | exact leBoo _) (by first | exact leLit _ | exact leBoo _) (by first | exact leLit _ | exact leBoo _)) | exact deLe3 hzpl hzjn (leDeed (by first | exact leLit _ | exact leBoo _) (by first | exact leLit _ | exact leBoo _) (by first | exact leLit _ | exact leBoo _)) (leDeed (by first | exact leLit _ | exact leBoo _) (by first | exact leLit _ | exact leBoo _) (by first | exact leLit _ | exact leBoo _)) (leDeed (by first | exact leLit _ | exact leBoo _) (by first | exact leLit _ | exact leBoo _) (by first | exact leLit _ | exact leBoo _))))))))); (· (cbv; (try simp only [true_and, and_true]); (try ((repeat' apply And.intro) <;> (first | trivial | rfl | exact RowLe.rfl' _  | ((rw [hR]; first | exact deLe_nil | exact deLe_blk rfl rfl rfl rfl (leDeed (by first | exact leLit _ | exact leBoo _) (by first | exact leLit _ | exact leBoo _) (by first | exact leLit _ | exact leBoo _)) | exact deLe1 (leDeed (by first | exact leLit _ | exact leBoo _) (by first | exact leLit _ | exact leBoo _) (by first | exact leLit _ | exact leBoo _)) | exact deLe2 hzpl hzjn (leDeed (by first | exact leLit _ | exact leBoo _) (by first | exact leLit _ | exact leBoo _) (by first | exact leLit _ | exact leBoo _)) (leDeed (by first | exact leLit _ | exact leBoo _) (by first | exact leLit _ | exact leBoo _) (by first | exact leLit _ | exact leBoo _)) | exact deLe3 hzpl hzjn (leDeed (by first | exact leLit _ | exact leBoo _) (by first | exact leLit _ | exact leBoo _) (by first | exact leLit _ | exact leBoo _)) (leDeed (by first | exact leLit _ | exact leBoo _) (by first | exact leLit _ | exact leBoo _) (by first | exact leLit _ | exact leBoo _)) (leDeed (by first | exact leLit _ | exact leBoo _) (by first | exact leLit _ | exact leBoo _) (by first | exact leLit _ | exact leBoo _))))))))); (· rfl))
          | ((with_reducible apply go_call (f := 71) (hf := Try.call71)); (· (cbv; try rfl)); (· intro wc hbc hxc; exact h1 wc))
          | ((with_reducible apply go_inline (f := 65) (hf := Try.func65) (hr := Try.results65) (hcall := Try.call65)); (· rfl); (· (cbv; try rfl)))
          | ((with_reducible apply go_inline (f := 82) (hf := Try.func82) (hr := Try.results82) (hcall := Try.call82)); (· rfl); (· (cbv; try rfl)))
          | ((with_reducible apply go_inline (f := 66) (hf := Try.func66) (hr := Try.results66) (hcall := Try.call66)); (· rfl); (· (cbv; try rfl)))
          | ((with_reducible apply go_call (f := 67) (hf := Try.call67)); (· (cbv; try rfl)); (· intro wc hbc hxc; exact writtenC _ _ _ wc))
          | (with_reducible apply go_rounds 4)
          )
    all_goals
        skip
        simp at hL
        subst hL
        refine go_start (args := [.pt (.agg (GStmt.sc _))]) (c := NoRows) Try.func45 rfl (noRows_ok _) rfl rfl ?_
        obtain ⟨nd, hnd⟩ : ∃ f : Bool → Bool → Bool, f = and := ⟨_, rfl⟩
        obtain ⟨nt, hnt⟩ : ∃ f : Bool → Bool, f = not := ⟨_, rfl⟩
        obtain ⟨ar, har⟩ : ∃ f : BinOp → IntKind → Int → Int → Int, f = rAr := ⟨_, rfl⟩
        obtain ⟨cm, hcm⟩ : ∃ f : BinOp → Int → Int → Bool, f = rCm := ⟨_, rfl⟩
        obtain ⟨mx, hmx⟩ : ∃ f : Int → Int → Int, f = rMx := ⟨_, rfl⟩
        obtain ⟨mn, hmn⟩ : ∃ f : Int → Int → Int, f = rMn := ⟨_, rfl⟩
        have ar01 : ar .add .i64 0 1 = 1 := by rw [har]; decide
        have ar12 : ar .add .i64 1 1 = 2 := by rw [har]; decide
        obtain ⟨zpl, hzpl⟩ : ∃ f : Nat → Nat → Nat, f = fun x y => x + y := ⟨_, rfl⟩
        obtain ⟨zjn, hzjn⟩ : ∃ f : Nat → (Nat → List SC) → (Nat → List SC) → Nat → List SC, f = rJn := ⟨_, rfl⟩
        obtain ⟨zup, hzup⟩ : ∃ f : (Nat → List SC) → Nat → Nat → List SC → Nat → List SC, f = rUp := ⟨_, rfl⟩
        obtain ⟨zmi, hzmi⟩ : ∃ f : Nat → Nat → Nat, f = fun x y => x - y := ⟨_, rfl⟩
        obtain ⟨zdp, hzdp⟩ : ∃ f : Nat → (Nat → List SC) → Nat → List SC, f = rDp := ⟨_, rfl⟩
        have hT := T0_ok hnd hnt har hcm hmx hmn hzpl hzjn hzup hzmi hzdp
        repeat' (first
          | ((with_reducible apply go_ev hT 400); (· (cbv; try rfl)); (fail_if_success with_reducible apply stuck_id); (try simp only [ar01, ar12]))
          | ((with_reducible refine go_brt ?_ ?_); (· first | rfl | assumption | (rw [hcm]; decide)))
          | ((with_reducible refine go_brf ?_ ?_); (· first | rfl | assumption | (rw [hcm]; decide)))
          | ((with_reducible refine go_brnf hnt ?_ ?_); (· first | rfl | assumption))
          | ((with_reducible refine go_ob ?_ ?_); (· first | trivial | (refine ⟨trivial, ?_⟩; omega) | (rw [hzpl]; refine ⟨trivial, ?_⟩; show _ + _ ≤ 1073741824; omega) | (rw [hzpl]; show _ + _ ≤ 1073741824; omega) | ((rw [hzpl]; exact (show 1 + 1 + 1 ≤ 1073741824 from by decide)))))
          | ((with_reducible apply go_ret_rows hT); (· (cbv; try rfl)); (· (cbv; try rfl)); (· (cbv; (try simp only [true_and, and_true]); (try ((repeat' apply And.intro) <;> (first | trivial | rfl | decide  | ((rw [hR]; first | exact deLe_nil | exact deLe_blk rfl rfl rfl rfl (leDeed (by first | exact leLit _ | exact leBoo _) (by first | exact leLit _ | exact leBoo _) (by first | exact leLit _ | exact leBoo _)) | exact deLe1 (leDeed (by first | exact leLit _ | exact leBoo _) (by first | exact leLit _ | exact leBoo _) (by first | exact leLit _ | exact leBoo _)) | exact deLe2 hzpl hzjn (leDeed (by first | exact leLit _ | exact leBoo _) (by first | exact leLit _ | exact leBoo _) (by first | exact leLit _ | exact leBoo _)) (leDeed (by first | exact leLit _ | exact leBoo _) (by first | exact leLit _ | exact leBoo _) (by first | exact leLit _ | exact leBoo _)) | exact deLe3 hzpl hzjn (leDeed (by first | exact leLit _ | exact leBoo _) (by first | exact leLit _ | exact leBoo _) (by first | exact leLit _ | exact leBoo _)) (leDeed (by first | exact leLit _ | exact leBoo _) (by first | exact leLit _ | exact leBoo _) (by first | exact leLit _ | exact leBoo _)) (leDeed (by first | exact leLit _ | exact leBoo _) (by first | exact leLit _ | exact leBoo _) (by first | exact leLit _ | exact leBoo _))))))))); (· (cbv; (try simp only [true_and, and_true]); (try ((repeat' apply And.intro) <;> (first | trivial | rfl | exact RowLe.rfl' _  | ((rw [hR]; first | exact deLe_nil | exact deLe_blk rfl rfl rfl rfl (leDeed (by first | exact leLit _ | exact leBoo _) (by first | exact leLit _ | exact leBoo _) (by first | exact leLit _ | exact leBoo _)) | exact deLe1 (leDeed (by first | exact leLit _ | exact leBoo _) (by first | exact leLit _ | exact leBoo _) (by first | exact leLit _ | exact leBoo _)) | exact deLe2 hzpl hzjn (leDeed (by first | exact leLit _ | exact leBoo _) (by first | exact leLit _ | exact leBoo _) (by first | exact leLit _ | exact leBoo _)) (leDeed (by first | exact leLit _ | exact leBoo _) (by first | exact leLit _ | exact leBoo _) (by first | exact leLit _ | exact leBoo _)) | exact deLe3 hzpl hzjn (leDeed (by first | exact leLit _ | exact leBoo _) (by first | exact leLit _ | exact leBoo _) (by first | exact leLit _ | exact leBoo _)) (leDeed (by first | exact leLit _ | exact leBoo _) (by first | exact leLit _ | exact leBoo _) (by first | exact leLit _ | exact leBoo _)) (leDeed (by first | exact leLit _ | exact leBoo _) (by first | exact leLit _ | exact leBoo _) (by first | exact leLit _ | exact leBoo _))))))))); (· rfl))
          | ((with_reducible apply go_call (f := 71) (hf := Try.call71)); (· (cbv; try rfl)); (· intro wc hbc hxc; exact h1 wc))
          | ((with_reducible apply go_inline (f := 65) (hf := Try.func65) (hr := Try.results65) (hcall := Try.call65)); (· rfl); (· (cbv; try rfl)))
          | ((with_reducible apply go_inline (f := 82) (hf := Try.func82) (hr := Try.results82) (hcall := Try.call82)); (· rfl); (· (cbv; try rfl)))
          | ((with_reducible apply go_inline (f := 66) (hf := Try.func66) (hr := Try.results66) (hcall := Try.call66)); (· rfl); (· (cbv; try rfl)))
          | ((with_reducible apply go_call (f := 67) (hf := Try.call67)); (· (cbv; try rfl)); (· intro wc hbc hxc; exact writtenC _ _ _ wc))
          | (with_reducible apply go_rounds 4)
          )
  · have hx := ha (.inl rfl)
    clear hr ha h1
    rcases hx with hx | ⟨hx | hx, hx0, hx1⟩ <;> simp only at hx <;> subst hx
    all_goals
        skip
        simp at hL
        subst hL
        refine go_start (args := [.pt (.agg (GStmt.sc _))]) (c := NoRows) Try.func45 rfl (noRows_ok _) rfl rfl ?_
        obtain ⟨nd, hnd⟩ : ∃ f : Bool → Bool → Bool, f = and := ⟨_, rfl⟩
        obtain ⟨nt, hnt⟩ : ∃ f : Bool → Bool, f = not := ⟨_, rfl⟩
        obtain ⟨ar, har⟩ : ∃ f : BinOp → IntKind → Int → Int → Int, f = rAr := ⟨_, rfl⟩
        obtain ⟨cm, hcm⟩ : ∃ f : BinOp → Int → Int → Bool, f = rCm := ⟨_, rfl⟩
        obtain ⟨mx, hmx⟩ : ∃ f : Int → Int → Int, f = rMx := ⟨_, rfl⟩
        obtain ⟨mn, hmn⟩ : ∃ f : Int → Int → Int, f = rMn := ⟨_, rfl⟩
        have ar01 : ar .add .i64 0 1 = 1 := by rw [har]; decide
        have ar12 : ar .add .i64 1 1 = 2 := by rw [har]; decide
        obtain ⟨zpl, hzpl⟩ : ∃ f : Nat → Nat → Nat, f = fun x y => x + y := ⟨_, rfl⟩
        obtain ⟨zjn, hzjn⟩ : ∃ f : Nat → (Nat → List SC) → (Nat → List SC) → Nat → List SC, f = rJn := ⟨_, rfl⟩
        obtain ⟨zup, hzup⟩ : ∃ f : (Nat → List SC) → Nat → Nat → List SC → Nat → List SC, f = rUp := ⟨_, rfl⟩
        obtain ⟨zmi, hzmi⟩ : ∃ f : Nat → Nat → Nat, f = fun x y => x - y := ⟨_, rfl⟩
        obtain ⟨zdp, hzdp⟩ : ∃ f : Nat → (Nat → List SC) → Nat → List SC, f = rDp := ⟨_, rfl⟩
        have hT := T0_ok hnd hnt har hcm hmx hmn hzpl hzjn hzup hzmi hzdp
        repeat' (first
          | ((with_reducible apply go_ev hT 400); (· (cbv; try rfl)); (fail_if_success with_reducible apply stuck_id); (try simp only [ar01, ar12]))
          | ((with_reducible refine go_brt ?_ ?_); (· first | rfl | assumption | (rw [hcm]; decide)))
          | ((with_reducible refine go_brf ?_ ?_); (· first | rfl | assumption | (rw [hcm]; decide)))
          | ((with_reducible refine go_brnt hnt ?_ ?_); (· first | rfl | assumption))
          | ((with_reducible refine go_brnf hnt ?_ ?_); (· first | rfl | assumption))
          | ((with_reducible refine go_need ?_ ?_ ?_); (· first | omega | (simp only [Int.ofNat_eq_natCast]; omega)); (· first | omega | (simp only [Int.ofNat_eq_natCast]; omega)))
          | ((with_reducible refine go_ob ?_ ?_); (· first | trivial | (refine ⟨trivial, ?_⟩; omega) | (rw [hzpl]; refine ⟨trivial, ?_⟩; show _ + _ ≤ 1073741824; omega) | (rw [hzpl]; show _ + _ ≤ 1073741824; omega) | ((rw [hzpl]; exact (show 1 + 1 + 1 ≤ 1073741824 from by decide)))))
          | ((with_reducible apply go_ret_rows hT); (· (cbv; try rfl)); (· (cbv; try rfl)); (· (cbv; (try simp only [true_and, and_true]); (try ((repeat' apply And.intro) <;> (first | trivial | rfl | decide  | ((rw [hR]; first | exact deLe_nil | exact deLe_blk rfl rfl rfl rfl (leDeed (by first | exact leLit _ | exact leBoo _) (by first | exact leLit _ | exact leBoo _) (by first | exact leLit _ | exact leBoo _)) | exact deLe1 (leDeed (by first | exact leLit _ | exact leBoo _) (by first | exact leLit _ | exact leBoo _) (by first | exact leLit _ | exact leBoo _)) | exact deLe2 hzpl hzjn (leDeed (by first | exact leLit _ | exact leBoo _) (by first | exact leLit _ | exact leBoo _) (by first | exact leLit _ | exact leBoo _)) (leDeed (by first | exact leLit _ | exact leBoo _) (by first | exact leLit _ | exact leBoo _) (by first | exact leLit _ | exact leBoo _)) | exact deLe3 hzpl hzjn (leDeed (by first | exact leLit _ | exact leBoo _) (by first | exact leLit _ | exact leBoo _) (by first | exact leLit _ | exact leBoo _)) (leDeed (by first | exact leLit _ | exact leBoo _) (by first | exact leLit _ | exact leBoo _) (by first | exact leLit _ | exact leBoo _)) (leDeed (by first | exact leLit _ | exact leBoo _) (by first | exact leLit _ | exact leBoo _) (by first | exact leLit _ | exact leBoo _))))))))); (· (cbv; (try simp only [true_and, and_true]); (try ((repeat' apply And.intro) <;> (first | trivial | rfl | exact RowLe.rfl' _  | ((rw [hR]; first | exact deLe_nil | exact deLe_blk rfl rfl rfl rfl (leDeed (by first | exact leLit _ | exact leBoo _) (by first | exact leLit _ | exact leBoo _) (by first | exact leLit _ | exact leBoo _)) | exact deLe1 (leDeed (by first | exact leLit _ | exact leBoo _) (by first | exact leLit _ | exact leBoo _) (by first | exact leLit _ | exact leBoo _)) | exact deLe2 hzpl hzjn (leDeed (by first | exact leLit _ | exact leBoo _) (by first | exact leLit _ | exact leBoo _) (by first | exact leLit _ | exact leBoo _)) (leDeed (by first | exact leLit _ | exact leBoo _) (by first | exact leLit _ | exact leBoo _) (by first | exact leLit _ | exact leBoo _)) | exact deLe3 hzpl hzjn (leDeed (by first | exact leLit _ | exact leBoo _) (by first | exact leLit _ | exact leBoo _) (by first | exact leLit _ | exact leBoo _)) (leDeed (by first | exact leLit _ | exact leBoo _) (by first | exact leLit _ | exact leBoo _) (by first | exact leLit _ | exact leBoo _)) (leDeed (by first | exact leLit _ | exact leBoo _) (by first | exact leLit _ | exact leBoo _) (by first | exact leLit _ | exact leBoo _))))))))); (· rfl))
          | ((with_reducible apply go_inline (f := 66) (hf := Try.func66) (hr := Try.results66) (hcall := Try.call66)); (· rfl); (· (cbv; try rfl)))
          | (with_reducible apply go_rounds 4)
          )
  · skip
    clear hr ha h1
    all_goals
        skip
        simp at hL
        subst hL
        refine go_start (args := [.pt (.agg (GStmt.sc _))]) (c := NoRows) Try.func45 rfl (noRows_ok _) rfl rfl ?_
        obtain ⟨nd, hnd⟩ : ∃ f : Bool → Bool → Bool, f = and := ⟨_, rfl⟩
        obtain ⟨nt, hnt⟩ : ∃ f : Bool → Bool, f = not := ⟨_, rfl⟩
        obtain ⟨ar, har⟩ : ∃ f : BinOp → IntKind → Int → Int → Int, f = rAr := ⟨_, rfl⟩
        obtain ⟨cm, hcm⟩ : ∃ f : BinOp → Int → Int → Bool, f = rCm := ⟨_, rfl⟩
        obtain ⟨mx, hmx⟩ : ∃ f : Int → Int → Int, f = rMx := ⟨_, rfl⟩
        obtain ⟨mn, hmn⟩ : ∃ f : Int → Int → Int, f = rMn := ⟨_, rfl⟩
        have ar01 : ar .add .i64 0 1 = 1 := by rw [har]; decide
        have ar12 : ar .add .i64 1 1 = 2 := by rw [har]; decide
        obtain ⟨zpl, hzpl⟩ : ∃ f : Nat → Nat → Nat, f = fun x y => x + y := ⟨_, rfl⟩
        obtain ⟨zjn, hzjn⟩ : ∃ f : Nat → (Nat → List SC) → (Nat → List SC) → Nat → List SC, f = rJn := ⟨_, rfl⟩
        obtain ⟨zup, hzup⟩ : ∃ f : (Nat → List SC) → Nat → Nat → List SC → Nat → List SC, f = rUp := ⟨_, rfl⟩
        obtain ⟨zmi, hzmi⟩ : ∃ f : Nat → Nat → Nat, f = fun x y => x - y := ⟨_, rfl⟩
        obtain ⟨zdp, hzdp⟩ : ∃ f : Nat → (Nat → List SC) → Nat → List SC, f = rDp := ⟨_, rfl⟩
        have hT := T0_ok hnd hnt har hcm hmx hmn hzpl hzjn hzup hzmi hzdp
        repeat' (first
          | ((with_reducible apply go_ev hT 400); (· (cbv; try rfl)); (fail_if_success with_reducible apply stuck_id); (try simp only [ar01, ar12]))
          | ((with_reducible refine go_brt ?_ ?_); (· first | rfl | assumption | (rw [hcm]; decide)))
          | ((with_reducible apply go_ret_rows hT); (· (cbv; try rfl)); (· (cbv; try rfl)); (· (cbv; (try simp only [true_and, and_true]); (try ((repeat' apply And.intro) <;> (first | trivial | rfl | decide  | ((rw [hR]; first | exact deLe_nil | exact deLe_blk rfl rfl rfl rfl (leDeed (by first | exact leLit _ | exact leBoo _) (by first | exact leLit _ | exact leBoo _) (by first | exact leLit _ | exact leBoo _)) | exact deLe1 (leDeed (by first | exact leLit _ | exact leBoo _) (by first | exact leLit _ | exact leBoo _) (by first | exact leLit _ | exact leBoo _)) | exact deLe2 hzpl hzjn (leDeed (by first | exact leLit _ | exact leBoo _) (by first | exact leLit _ | exact leBoo _) (by first | exact leLit _ | exact leBoo _)) (leDeed (by first | exact leLit _ | exact leBoo _) (by first | exact leLit _ | exact leBoo _) (by first | exact leLit _ | exact leBoo _)) | exact deLe3 hzpl hzjn (leDeed (by first | exact leLit _ | exact leBoo _) (by first | exact leLit _ | exact leBoo _) (by first | exact leLit _ | exact leBoo _)) (leDeed (by first | exact leLit _ | exact leBoo _) (by first | exact leLit _ | exact leBoo _) (by first | exact leLit _ | exact leBoo _)) (leDeed (by first | exact leLit _ | exact leBoo _) (by first | exact leLit _ | exact leBoo _) (by first | exact leLit _ | exact leBoo _))))))))); (· (cbv; (try simp only [true_and, and_true]); (try ((repeat' apply And.intro) <;> (first | trivial | rfl | exact RowLe.rfl' _  | ((rw [hR]; first | exact deLe_nil | exact deLe_blk rfl rfl rfl rfl (leDeed (by first | exact leLit _ | exact leBoo _) (by first | exact leLit _ | exact leBoo _) (by first | exact leLit _ | exact leBoo _)) | exact deLe1 (leDeed (by first | exact leLit _ | exact leBoo _) (by first | exact leLit _ | exact leBoo _) (by first | exact leLit _ | exact leBoo _)) | exact deLe2 hzpl hzjn (leDeed (by first | exact leLit _ | exact leBoo _) (by first | exact leLit _ | exact leBoo _) (by first | exact leLit _ | exact leBoo _)) (leDeed (by first | exact leLit _ | exact leBoo _) (by first | exact leLit _ | exact leBoo _) (by first | exact leLit _ | exact leBoo _)) | exact deLe3 hzpl hzjn (leDeed (by first | exact leLit _ | exact leBoo _) (by first | exact leLit _ | exact leBoo _) (by first | exact leLit _ | exact leBoo _)) (leDeed (by first | exact leLit _ | exact leBoo _) (by first | exact leLit _ | exact leBoo _) (by first | exact leLit _ | exact leBoo _)) (leDeed (by first | exact leLit _ | exact leBoo _) (by first | exact leLit _ | exact leBoo _) (by first | exact leLit _ | exact leBoo _))))))))); (· rfl))
          )
  · have hx := ha (.inr rfl)
    clear hr ha h1
    rcases hx with hx | ⟨hx | hx, hx0, hx1⟩ <;> simp only at hx <;> subst hx
    all_goals
        skip
        simp at hL
        subst hL
        refine go_start (args := [.pt (.agg (GStmt.sc _))]) (c := NoRows) Try.func45 rfl (noRows_ok _) rfl rfl ?_
        obtain ⟨nd, hnd⟩ : ∃ f : Bool → Bool → Bool, f = and := ⟨_, rfl⟩
        obtain ⟨nt, hnt⟩ : ∃ f : Bool → Bool, f = not := ⟨_, rfl⟩
        obtain ⟨ar, har⟩ : ∃ f : BinOp → IntKind → Int → Int → Int, f = rAr := ⟨_, rfl⟩
        obtain ⟨cm, hcm⟩ : ∃ f : BinOp → Int → Int → Bool, f = rCm := ⟨_, rfl⟩
        obtain ⟨mx, hmx⟩ : ∃ f : Int → Int → Int, f = rMx := ⟨_, rfl⟩
        obtain ⟨mn, hmn⟩ : ∃ f : Int → Int → Int, f = rMn := ⟨_, rfl⟩
        have ar01 : ar .add .i64 0 1 = 1 := by rw [har]; decide
        have ar12 : ar .add .i64 1 1 = 2 := by rw [har]; decide
        obtain ⟨zpl, hzpl⟩ : ∃ f : Nat → Nat → Nat, f = fun x y => x + y := ⟨_, rfl⟩
        obtain ⟨zjn, hzjn⟩ : ∃ f : Nat → (Nat → List SC) → (Nat → List SC) → Nat → List SC, f = rJn := ⟨_, rfl⟩
        obtain ⟨zup, hzup⟩ : ∃ f : (Nat → List SC) → Nat → Nat → List SC → Nat → List SC, f = rUp := ⟨_, rfl⟩
        obtain ⟨zmi, hzmi⟩ : ∃ f : Nat → Nat → Nat, f = fun x y => x - y := ⟨_, rfl⟩
        obtain ⟨zdp, hzdp⟩ : ∃ f : Nat → (Nat → List SC) → Nat → List SC, f = rDp := ⟨_, rfl⟩
        have hT := T0_ok hnd hnt har hcm hmx hmn hzpl hzjn hzup hzmi hzdp
        repeat' (first
          | ((with_reducible apply go_ev hT 400); (· (cbv; try rfl)); (fail_if_success with_reducible apply stuck_id); (try simp only [ar01, ar12]))
          | ((with_reducible refine go_brt ?_ ?_); (· first | rfl | assumption | (rw [hcm]; decide)))
          | ((with_reducible refine go_brf ?_ ?_); (· first | rfl | assumption | (rw [hcm]; decide)))
          | ((with_reducible refine go_brnt hnt ?_ ?_); (· first | rfl | assumption))
          | ((with_reducible refine go_brnf hnt ?_ ?_); (· first | rfl | assumption))
          | ((with_reducible refine go_need ?_ ?_ ?_); (· first | omega | (simp only [Int.ofNat_eq_natCast]; omega)); (· first | omega | (simp only [Int.ofNat_eq_natCast]; omega)))
          | ((with_reducible refine go_ob ?_ ?_); (· first | trivial | (refine ⟨trivial, ?_⟩; omega) | (rw [hzpl]; refine ⟨trivial, ?_⟩; show _ + _ ≤ 1073741824; omega) | (rw [hzpl]; show _ + _ ≤ 1073741824; omega) | ((rw [hzpl]; exact (show 1 + 1 + 1 ≤ 1073741824 from by decide)))))
          | ((with_reducible apply go_ret_rows hT); (· (cbv; try rfl)); (· (cbv; try rfl)); (· (cbv; (try simp only [true_and, and_true]); (try ((repeat' apply And.intro) <;> (first | trivial | rfl | decide  | ((rw [hR]; first | exact deLe_nil | exact deLe_blk rfl rfl rfl rfl (leDeed (by first | exact leLit _ | exact leBoo _) (by first | exact leLit _ | exact leBoo _) (by first | exact leLit _ | exact leBoo _)) | exact deLe1 (leDeed (by first | exact leLit _ | exact leBoo _) (by first | exact leLit _ | exact leBoo _) (by first | exact leLit _ | exact leBoo _)) | exact deLe2 hzpl hzjn (leDeed (by first | exact leLit _ | exact leBoo _) (by first | exact leLit _ | exact leBoo _) (by first | exact leLit _ | exact leBoo _)) (leDeed (by first | exact leLit _ | exact leBoo _) (by first | exact leLit _ | exact leBoo _) (by first | exact leLit _ | exact leBoo _)) | exact deLe3 hzpl hzjn (leDeed (by first | exact leLit _ | exact leBoo _) (by first | exact leLit _ | exact leBoo _) (by first | exact leLit _ | exact leBoo _)) (leDeed (by first | exact leLit _ | exact leBoo _) (by first | exact leLit _ | exact leBoo _) (by first | exact leLit _ | exact leBoo _)) (leDeed (by first | exact leLit _ | exact leBoo _) (by first | exact leLit _ | exact leBoo _) (by first | exact leLit _ | exact leBoo _))))))))); (· (cbv; (try simp only [true_and, and_true]); (try ((repeat' apply And.intro) <;> (first | trivial | rfl | exact RowLe.rfl' _  | ((rw [hR]; first | exact deLe_nil | exact deLe_blk rfl rfl rfl rfl (leDeed (by first | exact leLit _ | exact leBoo _) (by first | exact leLit _ | exact leBoo _) (by first | exact leLit _ | exact leBoo _)) | exact deLe1 (leDeed (by first | exact leLit _ | exact leBoo _) (by first | exact leLit _ | exact leBoo _) (by first | exact leLit _ | exact leBoo _)) | exact deLe2 hzpl hzjn (leDeed (by first | exact leLit _ | exact leBoo _) (by first | exact leLit _ | exact leBoo _) (by first | exact leLit _ | exact leBoo _)) (leDeed (by first | exact leLit _ | exact leBoo _) (by first | exact leLit _ | exact leBoo _) (by first | exact leLit _ | exact leBoo _)) | exact deLe3 hzpl hzjn (leDeed (by first | exact leLit _ | exact leBoo _) (by first | exact leLit _ | exact leBoo _) (by first | exact leLit _ | exact leBoo _)) (leDeed (by first | exact leLit _ | exact leBoo _) (by first | exact leLit _ | exact leBoo _) (by first | exact leLit _ | exact leBoo _)) (leDeed (by first | exact leLit _ | exact leBoo _) (by first | exact leLit _ | exact leBoo _) (by first | exact leLit _ | exact leBoo _))))))))); (· rfl))
          | ((with_reducible apply go_inline (f := 66) (hf := Try.func66) (hr := Try.results66) (hcall := Try.call66)); (· rfl); (· (cbv; try rfl)))
          | (with_reducible apply go_rounds 4)
          )
  all_goals trace_state

end Go.Proofs.Ytbljhhkjjlgnmaa
