/- Layer 15: the deeds of a jump, by the program; of a point. No condition. -/
import Derived.Test.YtbljhhkjjlgnmaaIdC
namespace Go.Proofs.Ytbljhhkjjlgnmaa
open Go.RowKit
set_option linter.unusedVariables false
set_option linter.unusedSimpArgs false

set_option maxRecDepth 100000 in
set_option maxHeartbeats 16000000 in
theorem jmDeed (F : GFun) (w : World) (hF : F.At w) (hO : F.Ok) (b : Nat) (hb : b < F.bn) :
    Calls Try.prog 46 #[jmpV F b] w (RetR w (funX F) (.pt (.one (.rs 0))) [deR (jmD F b)]) := by
  have hx (h : F.jk b = 2) := condIn hO hb h
  have h4 (wc : World) (hk : KB ⟨w, []⟩ wc) := argsD F wc (hF.later hk) b (hO.jn8 hb)
  have hjk : F.jk b = 1 ∨ F.jk b = 2 ∨ F.jk b = 3 ∨ F.jk b = 4 ∨ F.jk b = 5 := by
    have := hO.okJ hb
    simp only [GJump.ok, GFun.jump, Bool.or_eq_true, Bool.and_eq_true, beq_iff_eq] at this
    omega
  obtain ⟨L, hL⟩ : ∃ L, L = jmD F b := ⟨_, rfl⟩
  obtain ⟨R, hR⟩ : ∃ R, R = deR (jmD F b) := ⟨_, rfl⟩
  rw [← hR]
  rw [← hL] at hR
  have hn8 := opsD_len (F.ja b) (F.jn b)
  have hjn := hO.jn8 hb
  obtain ⟨A, hA⟩ : ∃ A, A = opsD (F.ja b) (F.jn b) := ⟨_, rfl⟩
  obtain ⟨na, hna⟩ : ∃ n, n = A.length := ⟨_, rfl⟩
  obtain ⟨ta, hta⟩ : ∃ f : Nat → GDeed, f = fun j => A.getD j .zero := ⟨_, rfl⟩
  have hRA : deR A = ⟨na, 4, fun j => (ta j).sc⟩ := by rw [deR, hna, hta]
  simp only [jmD, opD, wrD, ← hA] at hL
  rw [← hA, hRA] at h4
  rw [← hA, ← hna] at hn8
  have hn9 : na ≤ 8 := by omega
  clear hO hA hna hta hn8 hjn
  obtain ⟨pa, un, lA, ln, lc, lk, lt, bA, bn, bc, sA, sn, sc, s, jA, jn, jc, ja, jk, jo, jf, jx, je, jd⟩ := F
  obtain ⟨hX, hl, hb, hs, hj⟩ := hF
  simp only at hl hb hs hj
  simp only at hx h4 hjk hL
  obtain ⟨ck, hck⟩ : ∃ k, k = jk b := ⟨_, rfl⟩
  obtain ⟨⟨ok, on, ⟨ol, od, of⟩⟩, hco⟩ : ∃ o, o = jo b := ⟨_, rfl⟩
  simp only [← hck, ← hco] at hx hjk hL
  rcases hjk with rfl | rfl | rfl | rfl | rfl
  · simp at hL
    subst hL
    refine go_start (args := [.pt (.agg [.int .u8 (jk b), .int .u8 (jo b).k, .int .i64 (jo b).n, .int .i64 (jo b).p.l, .bool (jo b).p.d, .int .u8 (jo b).p.f, .int .i64 (jf b), .int .i64 (jx b), .int .i64 (je b), .xs 3 b, .int .i64 (jd b).l, .bool (jd b).d, .int .u8 (jd b).f])]) (c := (funX ⟨pa, un, lA, ln, lc, lk, lt, bA, bn, bc, sA, sn, sc, s, jA, jn, jc, ja, jk, jo, jf, jx, je, jd⟩)) Try.func46 rfl hX rfl rfl ?_
    obtain ⟨nd, hnd⟩ : ∃ f : Bool → Bool → Bool, f = and := ⟨_, rfl⟩
    obtain ⟨nt, hnt⟩ : ∃ f : Bool → Bool, f = not := ⟨_, rfl⟩
    obtain ⟨ar, har⟩ : ∃ f : BinOp → IntKind → Int → Int → Int, f = rAr := ⟨_, rfl⟩
    obtain ⟨cm, hcm⟩ : ∃ f : BinOp → Int → Int → Bool, f = rCm := ⟨_, rfl⟩
    obtain ⟨mx, hmx⟩ : ∃ f : Int → Int → Int, f = rMx := ⟨_, rfl⟩
    obtain ⟨mn, hmn⟩ : ∃ f : Int → Int → Int, f = rMn := ⟨_, rfl⟩
    have ar01 : ar .add .i64 0 1 = 1 := by rw [har]; decide
    have ar12 : ar .add .i64 1 1 = 2 := by rw [har]; decide
    obtain ⟨zpl, hzpl⟩ : ∃ f : Nat → Nat → Nat, f = fun x y => x + y := ⟨_, rfl⟩
    obtain ⟨zjn, hzjn⟩ : ∃ f : Nat → (Nat → List SC) → (Nat → List SC) → Nat → List SC, f = rJn := ⟨_, rfl⟩
    obtain ⟨zup, hzup⟩ : ∃ f : (Nat → List SC) → Nat → Nat → List SC → Nat → List SC, f = rUp := ⟨_, rfl⟩
    obtain ⟨zmi, hzmi⟩ : ∃ f : Nat → Nat → Nat, f = fun x y => x - y := ⟨_, rfl⟩
    obtain ⟨zdp, hzdp⟩ : ∃ f : Nat → (Nat → List SC) → Nat → List SC, f = rDp := ⟨_, rfl⟩
    have hT := T0_ok hnd hnt har hcm hmx hmn hzpl hzjn hzup hzmi hzdp
    rw [← hck, ← hco]
    repeat' (first
      | ((with_reducible apply go_ev hT 400); (· (cbv; try rfl)); (fail_if_success with_reducible apply stuck_id))
      | ((with_reducible refine go_brf ?_ ?_); (· first | rfl | assumption | (rw [hcm]; decide)))
      | ((with_reducible apply go_ret_rows hT); (· (cbv; try rfl)); (· (cbv; try rfl)); (· (cbv; (try simp only [true_and, and_true]); (try ((repeat' apply And.intro) <;> (first | trivial | rfl | decide  | ((rw [hR]; exact deLe_nil))))))); (· (cbv; (try simp only [true_and, and_true]); (try ((repeat' apply And.intro) <;> (first | trivial | rfl | exact RowLe.rfl' _  | ((rw [hR]; exact deLe_nil))))))); (· rfl))
      )
  · rcases hx rfl with hx | ⟨hx | hx, hx0, hx1⟩ <;> simp only at hx <;> subst hx
    all_goals
      simp at hL
      subst hL
      refine go_start (args := [.pt (.agg [.int .u8 (jk b), .int .u8 (jo b).k, .int .i64 (jo b).n, .int .i64 (jo b).p.l, .bool (jo b).p.d, .int .u8 (jo b).p.f, .int .i64 (jf b), .int .i64 (jx b), .int .i64 (je b), .xs 3 b, .int .i64 (jd b).l, .bool (jd b).d, .int .u8 (jd b).f])]) (c := (funX ⟨pa, un, lA, ln, lc, lk, lt, bA, bn, bc, sA, sn, sc, s, jA, jn, jc, ja, jk, jo, jf, jx, je, jd⟩)) Try.func46 rfl hX rfl rfl ?_
      obtain ⟨nd, hnd⟩ : ∃ f : Bool → Bool → Bool, f = and := ⟨_, rfl⟩
      obtain ⟨nt, hnt⟩ : ∃ f : Bool → Bool, f = not := ⟨_, rfl⟩
      obtain ⟨ar, har⟩ : ∃ f : BinOp → IntKind → Int → Int → Int, f = rAr := ⟨_, rfl⟩
      obtain ⟨cm, hcm⟩ : ∃ f : BinOp → Int → Int → Bool, f = rCm := ⟨_, rfl⟩
      obtain ⟨mx, hmx⟩ : ∃ f : Int → Int → Int, f = rMx := ⟨_, rfl⟩
      obtain ⟨mn, hmn⟩ : ∃ f : Int → Int → Int, f = rMn := ⟨_, rfl⟩
      have ar01 : ar .add .i64 0 1 = 1 := by rw [har]; decide
      have ar12 : ar .add .i64 1 1 = 2 := by rw [har]; decide
      obtain ⟨zpl, hzpl⟩ : ∃ f : Nat → Nat → Nat, f = fun x y => x + y := ⟨_, rfl⟩
      obtain ⟨zjn, hzjn⟩ : ∃ f : Nat → (Nat → List SC) → (Nat → List SC) → Nat → List SC, f = rJn := ⟨_, rfl⟩
      obtain ⟨zup, hzup⟩ : ∃ f : (Nat → List SC) → Nat → Nat → List SC → Nat → List SC, f = rUp := ⟨_, rfl⟩
      obtain ⟨zmi, hzmi⟩ : ∃ f : Nat → Nat → Nat, f = fun x y => x - y := ⟨_, rfl⟩
      obtain ⟨zdp, hzdp⟩ : ∃ f : Nat → (Nat → List SC) → Nat → List SC, f = rDp := ⟨_, rfl⟩
      have hT := T0_ok hnd hnt har hcm hmx hmn hzpl hzjn hzup hzmi hzdp
      rw [← hck, ← hco]
      repeat' (first
        | ((with_reducible apply go_ev hT 400); (· (cbv; try rfl)); (fail_if_success with_reducible apply stuck_id); (try simp only [ar01, ar12]))
        | ((with_reducible refine go_brt ?_ ?_); (· first | rfl | assumption | (rw [hcm]; decide)))
        | ((with_reducible refine go_brf ?_ ?_); (· first | rfl | assumption | (rw [hcm]; decide)))
        | ((with_reducible refine go_brnt hnt ?_ ?_); (· first | rfl | assumption))
        | ((with_reducible refine go_brnf hnt ?_ ?_); (· first | rfl | assumption))
        | ((with_reducible refine go_need ?_ ?_ ?_); (· first | omega | (simp only [Int.ofNat_eq_natCast]; omega)); (· first | omega | (simp only [Int.ofNat_eq_natCast]; omega)))
        | ((with_reducible refine go_ob ?_ ?_); (· first | trivial | (refine ⟨trivial, ?_⟩; omega) | (rw [hzpl]; refine ⟨trivial, ?_⟩; show _ + _ ≤ 1073741824; omega) | (rw [hzpl]; show _ + _ ≤ 1073741824; omega)))
        | ((with_reducible apply go_ret_rows hT); (· (cbv; try rfl)); (· (cbv; try rfl)); (· (cbv; (try simp only [true_and, and_true]); (try ((repeat' apply And.intro) <;> (first | trivial | rfl | decide  | ((rw [hR]; first | exact deLe_nil | exact deLe_blk rfl rfl rfl rfl (leDeed (by first | exact leLit _ | exact leBoo _) (by first | exact leLit _ | exact leBoo _) (by first | exact leLit _ | exact leBoo _)) | exact deLe1 (leDeed (by first | exact leLit _ | exact leBoo _) (by first | exact leLit _ | exact leBoo _) (by first | exact leLit _ | exact leBoo _)) | exact deLe2 hzpl hzjn (leDeed (by first | exact leLit _ | exact leBoo _) (by first | exact leLit _ | exact leBoo _) (by first | exact leLit _ | exact leBoo _)) (leDeed (by first | exact leLit _ | exact leBoo _) (by first | exact leLit _ | exact leBoo _) (by first | exact leLit _ | exact leBoo _)) | exact deLe3 hzpl hzjn (leDeed (by first | exact leLit _ | exact leBoo _) (by first | exact leLit _ | exact leBoo _) (by first | exact leLit _ | exact leBoo _)) (leDeed (by first | exact leLit _ | exact leBoo _) (by first | exact leLit _ | exact leBoo _) (by first | exact leLit _ | exact leBoo _)) (leDeed (by first | exact leLit _ | exact leBoo _) (by first | exact leLit _ | exact leBoo _) (by first | exact leLit _ | exact leBoo _))))))))); (· (cbv; (try simp only [true_and, and_true]); (try ((repeat' apply And.intro) <;> (first | trivial | rfl | exact RowLe.rfl' _  | ((rw [hR]; first | exact deLe_nil | exact deLe_blk rfl rfl rfl rfl (leDeed (by first | exact leLit _ | exact leBoo _) (by first | exact leLit _ | exact leBoo _) (by first | exact leLit _ | exact leBoo _)) | exact deLe1 (leDeed (by first | exact leLit _ | exact leBoo _) (by first | exact leLit _ | exact leBoo _) (by first | exact leLit _ | exact leBoo _)) | exact deLe2 hzpl hzjn (leDeed (by first | exact leLit _ | exact leBoo _) (by first | exact leLit _ | exact leBoo _) (by first | exact leLit _ | exact leBoo _)) (leDeed (by first | exact leLit _ | exact leBoo _) (by first | exact leLit _ | exact leBoo _) (by first | exact leLit _ | exact leBoo _)) | exact deLe3 hzpl hzjn (leDeed (by first | exact leLit _ | exact leBoo _) (by first | exact leLit _ | exact leBoo _) (by first | exact leLit _ | exact leBoo _)) (leDeed (by first | exact leLit _ | exact leBoo _) (by first | exact leLit _ | exact leBoo _) (by first | exact leLit _ | exact leBoo _)) (leDeed (by first | exact leLit _ | exact leBoo _) (by first | exact leLit _ | exact leBoo _) (by first | exact leLit _ | exact leBoo _))))))))); (· rfl))
        | ((with_reducible apply go_inline (f := 66) (hf := Try.func66) (hr := Try.results66) (hcall := Try.call66)); (· rfl); (· (cbv; try rfl)))
        | (with_reducible apply go_rounds 4)
        )
  · simp at hL
    subst hL
    refine go_start (args := [.pt (.agg [.int .u8 (jk b), .int .u8 (jo b).k, .int .i64 (jo b).n, .int .i64 (jo b).p.l, .bool (jo b).p.d, .int .u8 (jo b).p.f, .int .i64 (jf b), .int .i64 (jx b), .int .i64 (je b), .xs 3 b, .int .i64 (jd b).l, .bool (jd b).d, .int .u8 (jd b).f])]) (c := (funX ⟨pa, un, lA, ln, lc, lk, lt, bA, bn, bc, sA, sn, sc, s, jA, jn, jc, ja, jk, jo, jf, jx, je, jd⟩)) Try.func46 rfl hX rfl rfl ?_
    obtain ⟨nd, hnd⟩ : ∃ f : Bool → Bool → Bool, f = and := ⟨_, rfl⟩
    obtain ⟨nt, hnt⟩ : ∃ f : Bool → Bool, f = not := ⟨_, rfl⟩
    obtain ⟨ar, har⟩ : ∃ f : BinOp → IntKind → Int → Int → Int, f = rAr := ⟨_, rfl⟩
    obtain ⟨cm, hcm⟩ : ∃ f : BinOp → Int → Int → Bool, f = rCm := ⟨_, rfl⟩
    obtain ⟨mx, hmx⟩ : ∃ f : Int → Int → Int, f = rMx := ⟨_, rfl⟩
    obtain ⟨mn, hmn⟩ : ∃ f : Int → Int → Int, f = rMn := ⟨_, rfl⟩
    have ar01 : ar .add .i64 0 1 = 1 := by rw [har]; decide
    have ar12 : ar .add .i64 1 1 = 2 := by rw [har]; decide
    obtain ⟨zpl, hzpl⟩ : ∃ f : Nat → Nat → Nat, f = fun x y => x + y := ⟨_, rfl⟩
    obtain ⟨zjn, hzjn⟩ : ∃ f : Nat → (Nat → List SC) → (Nat → List SC) → Nat → List SC, f = rJn := ⟨_, rfl⟩
    obtain ⟨zup, hzup⟩ : ∃ f : (Nat → List SC) → Nat → Nat → List SC → Nat → List SC, f = rUp := ⟨_, rfl⟩
    obtain ⟨zmi, hzmi⟩ : ∃ f : Nat → Nat → Nat, f = fun x y => x - y := ⟨_, rfl⟩
    obtain ⟨zdp, hzdp⟩ : ∃ f : Nat → (Nat → List SC) → Nat → List SC, f = rDp := ⟨_, rfl⟩
    have hT := T0_ok hnd hnt har hcm hmx hmn hzpl hzjn hzup hzmi hzdp
    rw [← hck, ← hco]
    repeat' (first
      | ((with_reducible apply go_ev hT 400); (· (cbv; try rfl)); (fail_if_success with_reducible apply stuck_id))
      | ((with_reducible refine go_brt ?_ ?_); (· first | rfl | assumption | (rw [hcm]; decide)))
      | ((with_reducible refine go_brf ?_ ?_); (· first | rfl | assumption | (rw [hcm]; decide)))
      | ((with_reducible apply go_ret_rows hT); (· (cbv; try rfl)); (· (cbv; try rfl)); (· (cbv; (try simp only [true_and, and_true]); (try ((repeat' apply And.intro) <;> (first | trivial | rfl | decide  | ((rw [hR]; first | exact deLe_nil | exact deLe_blk rfl rfl rfl rfl (leDeed (by first | exact leLit _ | exact leBoo _) (by first | exact leLit _ | exact leBoo _) (by first | exact leLit _ | exact leBoo _)) | exact deLe1 (leDeed (by first | exact leLit _ | exact leBoo _) (by first | exact leLit _ | exact leBoo _) (by first | exact leLit _ | exact leBoo _)) | exact deLe2 hzpl hzjn (leDeed (by first | exact leLit _ | exact leBoo _) (by first | exact leLit _ | exact leBoo _) (by first | exact leLit _ | exact leBoo _)) (leDeed (by first | exact leLit _ | exact leBoo _) (by first | exact leLit _ | exact leBoo _) (by first | exact leLit _ | exact leBoo _)) | exact deLe3 hzpl hzjn (leDeed (by first | exact leLit _ | exact leBoo _) (by first | exact leLit _ | exact leBoo _) (by first | exact leLit _ | exact leBoo _)) (leDeed (by first | exact leLit _ | exact leBoo _) (by first | exact leLit _ | exact leBoo _) (by first | exact leLit _ | exact leBoo _)) (leDeed (by first | exact leLit _ | exact leBoo _) (by first | exact leLit _ | exact leBoo _) (by first | exact leLit _ | exact leBoo _))))))))); (· (cbv; (try simp only [true_and, and_true]); (try ((repeat' apply And.intro) <;> (first | trivial | rfl | exact RowLe.rfl' _  | ((rw [hR]; first | exact deLe_nil | exact deLe_blk rfl rfl rfl rfl (leDeed (by first | exact leLit _ | exact leBoo _) (by first | exact leLit _ | exact leBoo _) (by first | exact leLit _ | exact leBoo _)) | exact deLe1 (leDeed (by first | exact leLit _ | exact leBoo _) (by first | exact leLit _ | exact leBoo _) (by first | exact leLit _ | exact leBoo _)) | exact deLe2 hzpl hzjn (leDeed (by first | exact leLit _ | exact leBoo _) (by first | exact leLit _ | exact leBoo _) (by first | exact leLit _ | exact leBoo _)) (leDeed (by first | exact leLit _ | exact leBoo _) (by first | exact leLit _ | exact leBoo _) (by first | exact leLit _ | exact leBoo _)) | exact deLe3 hzpl hzjn (leDeed (by first | exact leLit _ | exact leBoo _) (by first | exact leLit _ | exact leBoo _) (by first | exact leLit _ | exact leBoo _)) (leDeed (by first | exact leLit _ | exact leBoo _) (by first | exact leLit _ | exact leBoo _) (by first | exact leLit _ | exact leBoo _)) (leDeed (by first | exact leLit _ | exact leBoo _) (by first | exact leLit _ | exact leBoo _) (by first | exact leLit _ | exact leBoo _))))))))); (· rfl))
      )
  · simp at hL
    subst hL
    refine go_start (args := [.pt (.agg [.int .u8 (jk b), .int .u8 (jo b).k, .int .i64 (jo b).n, .int .i64 (jo b).p.l, .bool (jo b).p.d, .int .u8 (jo b).p.f, .int .i64 (jf b), .int .i64 (jx b), .int .i64 (je b), .xs 3 b, .int .i64 (jd b).l, .bool (jd b).d, .int .u8 (jd b).f])]) (c := (funX ⟨pa, un, lA, ln, lc, lk, lt, bA, bn, bc, sA, sn, sc, s, jA, jn, jc, ja, jk, jo, jf, jx, je, jd⟩)) Try.func46 rfl hX rfl rfl ?_
    obtain ⟨nd, hnd⟩ : ∃ f : Bool → Bool → Bool, f = and := ⟨_, rfl⟩
    obtain ⟨nt, hnt⟩ : ∃ f : Bool → Bool, f = not := ⟨_, rfl⟩
    obtain ⟨ar, har⟩ : ∃ f : BinOp → IntKind → Int → Int → Int, f = rAr := ⟨_, rfl⟩
    obtain ⟨cm, hcm⟩ : ∃ f : BinOp → Int → Int → Bool, f = rCm := ⟨_, rfl⟩
    obtain ⟨mx, hmx⟩ : ∃ f : Int → Int → Int, f = rMx := ⟨_, rfl⟩
    obtain ⟨mn, hmn⟩ : ∃ f : Int → Int → Int, f = rMn := ⟨_, rfl⟩
    have ar01 : ar .add .i64 0 1 = 1 := by rw [har]; decide
    have ar12 : ar .add .i64 1 1 = 2 := by rw [har]; decide
    obtain ⟨zpl, hzpl⟩ : ∃ f : Nat → Nat → Nat, f = fun x y => x + y := ⟨_, rfl⟩
    obtain ⟨zjn, hzjn⟩ : ∃ f : Nat → (Nat → List SC) → (Nat → List SC) → Nat → List SC, f = rJn := ⟨_, rfl⟩
    obtain ⟨zup, hzup⟩ : ∃ f : (Nat → List SC) → Nat → Nat → List SC → Nat → List SC, f = rUp := ⟨_, rfl⟩
    obtain ⟨zmi, hzmi⟩ : ∃ f : Nat → Nat → Nat, f = fun x y => x - y := ⟨_, rfl⟩
    obtain ⟨zdp, hzdp⟩ : ∃ f : Nat → (Nat → List SC) → Nat → List SC, f = rDp := ⟨_, rfl⟩
    have hT := T0_ok hnd hnt har hcm hmx hmn hzpl hzjn hzup hzmi hzdp
    rw [← hck, ← hco]
    have hfin : ∀ c1 c2, leCell c1 (.bool (!wholeP (jd b))) → leCell c2 (.bool (wholeP (jd b))) → RowLe ⟨zpl na 1, 4, zjn na (fun j => (ta j).sc) (fun j => cutL [.int .i64 (jd b).l, c1, c2, .bool false] (0 + j * 4) 4)⟩ R := fun c1 c2 g1 g2 => by
      rw [hR]
      exact deLe_app hzpl hzjn (L := A) (by rw [hRA]; exact RowLe.rfl' _) rfl (leDeed g1 g2 (leBoo _))
    have hna9 : zpl na 1 ≤ 1073741824 := by rw [hzpl]; show na + 1 ≤ _; omega
    clear hRA hR
    repeat' (first
      | ((with_reducible apply go_ev hT 400); (· (cbv; try rfl)); (fail_if_success with_reducible apply stuck_id))
      | ((with_reducible refine go_brt ?_ ?_); (· first | rfl | assumption | (rw [hcm]; decide)))
      | ((with_reducible refine go_brf ?_ ?_); (· first | rfl | assumption | (rw [hcm]; decide)))
      | ((with_reducible apply go_drawE); (· kernel_rfl))
      | (with_reducible refine go_fork ?_)
      | (with_reducible refine fork_cons ?_ ?_)
      | (with_reducible exact fork_nil)
      | ((with_reducible refine go_ob ?_ ?_); (· first | trivial | (refine ⟨trivial, ?_⟩; omega) | (rw [hzpl]; refine ⟨trivial, ?_⟩; show _ + _ ≤ 1073741824; omega) | (rw [hzpl]; show _ + _ ≤ 1073741824; omega) | ((exact hna9))))
      | ((with_reducible apply go_ret_rows hT); (· (cbv; try rfl)); (· (cbv; try rfl)); (· (cbv; (try simp only [true_and, and_true]); (try ((repeat' apply And.intro) <;> (first | trivial | rfl | decide  | ((exact hfin _ _ (by first | exact leLit _ | exact leBoo _) (by first | exact leLit _ | exact leBoo _)))))))); (· (cbv; (try simp only [true_and, and_true]); (try ((repeat' apply And.intro) <;> (first | trivial | rfl | exact RowLe.rfl' _  | ((exact hfin _ _ (by first | exact leLit _ | exact leBoo _) (by first | exact leLit _ | exact leBoo _)))))))); (· rfl))
      | ((with_reducible apply go_callR (f := 66) (hf := Try.call66)); (· intro S; cbv; try rfl); (· intro wc S hbc hxc hrc; exact h4 wc hbc); (· rfl))
      | ((with_reducible apply go_call (f := 67) (hf := Try.call67)); (· (cbv; try rfl)); (· intro wc hbc hxc; exact writtenC _ _ _ wc))
      )
  · simp at hL
    subst hL
    refine go_start (args := [.pt (.agg [.int .u8 (jk b), .int .u8 (jo b).k, .int .i64 (jo b).n, .int .i64 (jo b).p.l, .bool (jo b).p.d, .int .u8 (jo b).p.f, .int .i64 (jf b), .int .i64 (jx b), .int .i64 (je b), .xs 3 b, .int .i64 (jd b).l, .bool (jd b).d, .int .u8 (jd b).f])]) (c := (funX ⟨pa, un, lA, ln, lc, lk, lt, bA, bn, bc, sA, sn, sc, s, jA, jn, jc, ja, jk, jo, jf, jx, je, jd⟩)) Try.func46 rfl hX rfl rfl ?_
    obtain ⟨nd, hnd⟩ : ∃ f : Bool → Bool → Bool, f = and := ⟨_, rfl⟩
    obtain ⟨nt, hnt⟩ : ∃ f : Bool → Bool, f = not := ⟨_, rfl⟩
    obtain ⟨ar, har⟩ : ∃ f : BinOp → IntKind → Int → Int → Int, f = rAr := ⟨_, rfl⟩
    obtain ⟨cm, hcm⟩ : ∃ f : BinOp → Int → Int → Bool, f = rCm := ⟨_, rfl⟩
    obtain ⟨mx, hmx⟩ : ∃ f : Int → Int → Int, f = rMx := ⟨_, rfl⟩
    obtain ⟨mn, hmn⟩ : ∃ f : Int → Int → Int, f = rMn := ⟨_, rfl⟩
    have ar01 : ar .add .i64 0 1 = 1 := by rw [har]; decide
    have ar12 : ar .add .i64 1 1 = 2 := by rw [har]; decide
    obtain ⟨zpl, hzpl⟩ : ∃ f : Nat → Nat → Nat, f = fun x y => x + y := ⟨_, rfl⟩
    obtain ⟨zjn, hzjn⟩ : ∃ f : Nat → (Nat → List SC) → (Nat → List SC) → Nat → List SC, f = rJn := ⟨_, rfl⟩
    obtain ⟨zup, hzup⟩ : ∃ f : (Nat → List SC) → Nat → Nat → List SC → Nat → List SC, f = rUp := ⟨_, rfl⟩
    obtain ⟨zmi, hzmi⟩ : ∃ f : Nat → Nat → Nat, f = fun x y => x - y := ⟨_, rfl⟩
    obtain ⟨zdp, hzdp⟩ : ∃ f : Nat → (Nat → List SC) → Nat → List SC, f = rDp := ⟨_, rfl⟩
    have hT := T0_ok hnd hnt har hcm hmx hmn hzpl hzjn hzup hzmi hzdp
    rw [← hck, ← hco]
    repeat' (first
      | ((with_reducible apply go_ev hT 400); (· (cbv; try rfl)); (fail_if_success with_reducible apply stuck_id))
      | ((with_reducible refine go_brf ?_ ?_); (· first | rfl | assumption | (rw [hcm]; decide)))
      | ((with_reducible apply go_ret_rows hT); (· (cbv; try rfl)); (· (cbv; try rfl)); (· (cbv; (try simp only [true_and, and_true]); (try ((repeat' apply And.intro) <;> (first | trivial | rfl | decide  | ((rw [hR]; exact deLe_nil))))))); (· (cbv; (try simp only [true_and, and_true]); (try ((repeat' apply And.intro) <;> (first | trivial | rfl | exact RowLe.rfl' _  | ((rw [hR]; exact deLe_nil))))))); (· rfl))
      )
  all_goals trace_state

set_option maxRecDepth 100000 in
set_option maxHeartbeats 4000000 in
theorem deedsC (F : GFun) (w : World) (hF : F.At w) (hO : F.Ok) (b i : Nat) (hbb : b < F.bn) :
    Calls Try.prog 29 #[F.val, .agg #[.int .i64 (.ofNat b), .int .i64 (.ofNat i)]] w (RetR w (funX F) (.pt (.one (.rs 0))) [deR (ptD F b i)]) := by
  have h1 (hi : i < F.sn b) (wc : World) {c : Nat → Nat → Row} := Calls.to (c' := c) (dePlain _) rfl (stDeed F.ln wc (F.s b i) (hO.okS hbb hi) (st_in hO hbb hi))
  have h2 (wc : World) (hk : KB ⟨w, []⟩ wc) := jmDeed F wc (hF.later hk) hO b hbb
  have hs24 := hO.sn24 hbb
  by_cases hi : i < F.sn b
  · have h1 (wc : World) {c : Nat → Nat → Row} := h1 hi wc (c := c)
    have e : ptD F b i = stD (F.s b i) := by unfold ptD; rw [if_pos hi]
    rw [e]
    obtain ⟨R, hR⟩ : ∃ R, R = deR (stD (F.s b i)) := ⟨_, rfl⟩
    rw [← hR] at h1 ⊢
    clear h2 e hR hO
    obtain ⟨pa, un, lA, ln, lc, lk, lt, bA, bn, bc, sA, sn, sc, s, jA, jn, jc, ja, jk, jo, jf, jx, je, jd⟩ := F
    obtain ⟨hX, hl, hb, hs, hj⟩ := hF
    simp only at hl hb hs hj
    simp only at h1 hi hbb hs24
    refine go_start (args := [.pt (.agg (GFun.dat ⟨pa, un, lA, ln, lc, lk, lt, bA, bn, bc, sA, sn, sc, s, jA, jn, jc, ja, jk, jo, jf, jx, je, jd⟩)), .pt (.agg [.int .i64 (.ofNat b), .int .i64 (.ofNat i)])]) (c := (funX ⟨pa, un, lA, ln, lc, lk, lt, bA, bn, bc, sA, sn, sc, s, jA, jn, jc, ja, jk, jo, jf, jx, je, jd⟩)) Try.func29 rfl hX rfl rfl ?_
    obtain ⟨nd, hnd⟩ : ∃ f : Bool → Bool → Bool, f = and := ⟨_, rfl⟩
    obtain ⟨nt, hnt⟩ : ∃ f : Bool → Bool, f = not := ⟨_, rfl⟩
    obtain ⟨ar, har⟩ : ∃ f : BinOp → IntKind → Int → Int → Int, f = rAr := ⟨_, rfl⟩
    obtain ⟨cm, hcm⟩ : ∃ f : BinOp → Int → Int → Bool, f = rCm := ⟨_, rfl⟩
    obtain ⟨mx, hmx⟩ : ∃ f : Int → Int → Int, f = rMx := ⟨_, rfl⟩
    obtain ⟨mn, hmn⟩ : ∃ f : Int → Int → Int, f = rMn := ⟨_, rfl⟩
    have ar01 : ar .add .i64 0 1 = 1 := by rw [har]; decide
    have ar12 : ar .add .i64 1 1 = 2 := by rw [har]; decide
    obtain ⟨zpl, hzpl⟩ : ∃ f : Nat → Nat → Nat, f = fun x y => x + y := ⟨_, rfl⟩
    obtain ⟨zjn, hzjn⟩ : ∃ f : Nat → (Nat → List SC) → (Nat → List SC) → Nat → List SC, f = rJn := ⟨_, rfl⟩
    obtain ⟨zup, hzup⟩ : ∃ f : (Nat → List SC) → Nat → Nat → List SC → Nat → List SC, f = rUp := ⟨_, rfl⟩
    obtain ⟨zmi, hzmi⟩ : ∃ f : Nat → Nat → Nat, f = fun x y => x - y := ⟨_, rfl⟩
    obtain ⟨zdp, hzdp⟩ : ∃ f : Nat → (Nat → List SC) → Nat → List SC, f = rDp := ⟨_, rfl⟩
    have hT := T0_ok hnd hnt har hcm hmx hmn hzpl hzjn hzup hzmi hzdp
    have hq : cm .lss (.ofNat i) (.ofNat (sn b)) = true := by rw [hcm]; exact decide_eq_true (Int.ofNat_lt.2 hi)
    repeat' (first
      | ((with_reducible apply go_ev hT 400); (· (cbv; try rfl)); (fail_if_success with_reducible apply stuck_id))
      | ((with_reducible refine go_brt ?_ ?_); (· first | rfl | assumption | (rw [hcm]; decide)))
      | ((with_reducible refine go_need ?_ ?_ ?_); (· first | omega | (simp only [Int.ofNat_eq_natCast]; omega)); (· first | omega | (simp only [Int.ofNat_eq_natCast]; omega)))
      | ((with_reducible apply go_ret_rows hT); (· (cbv; try rfl)); (· (cbv; try rfl)); (· (cbv; (try simp only [true_and, and_true]); (try ((repeat' apply And.intro) <;> (first | trivial | rfl | decide ))))); (· (cbv; (try simp only [true_and, and_true]); (try ((repeat' apply And.intro) <;> (first | trivial | rfl | exact RowLe.rfl' _ ))))); (· rfl))
      | ((with_reducible apply go_callR (f := 45) (hf := Try.call45)); (· intro S; cbv; try rfl); (· intro wc S hbc hxc hrc; exact h1 wc); (· rfl))
      )
    all_goals trace_state
  · have e : ptD F b i = jmD F b := by unfold ptD; rw [if_neg hi]
    rw [e]
    obtain ⟨R, hR⟩ : ∃ R, R = deR (jmD F b) := ⟨_, rfl⟩
    rw [← hR] at h2 ⊢
    clear h1 e hR hO
    obtain ⟨pa, un, lA, ln, lc, lk, lt, bA, bn, bc, sA, sn, sc, s, jA, jn, jc, ja, jk, jo, jf, jx, je, jd⟩ := F
    obtain ⟨hX, hl, hb, hs, hj⟩ := hF
    simp only at hl hb hs hj
    simp only at h2 hi hbb hs24
    refine go_start (args := [.pt (.agg (GFun.dat ⟨pa, un, lA, ln, lc, lk, lt, bA, bn, bc, sA, sn, sc, s, jA, jn, jc, ja, jk, jo, jf, jx, je, jd⟩)), .pt (.agg [.int .i64 (.ofNat b), .int .i64 (.ofNat i)])]) (c := (funX ⟨pa, un, lA, ln, lc, lk, lt, bA, bn, bc, sA, sn, sc, s, jA, jn, jc, ja, jk, jo, jf, jx, je, jd⟩)) Try.func29 rfl hX rfl rfl ?_
    obtain ⟨nd, hnd⟩ : ∃ f : Bool → Bool → Bool, f = and := ⟨_, rfl⟩
    obtain ⟨nt, hnt⟩ : ∃ f : Bool → Bool, f = not := ⟨_, rfl⟩
    obtain ⟨ar, har⟩ : ∃ f : BinOp → IntKind → Int → Int → Int, f = rAr := ⟨_, rfl⟩
    obtain ⟨cm, hcm⟩ : ∃ f : BinOp → Int → Int → Bool, f = rCm := ⟨_, rfl⟩
    obtain ⟨mx, hmx⟩ : ∃ f : Int → Int → Int, f = rMx := ⟨_, rfl⟩
    obtain ⟨mn, hmn⟩ : ∃ f : Int → Int → Int, f = rMn := ⟨_, rfl⟩
    have ar01 : ar .add .i64 0 1 = 1 := by rw [har]; decide
    have ar12 : ar .add .i64 1 1 = 2 := by rw [har]; decide
    obtain ⟨zpl, hzpl⟩ : ∃ f : Nat → Nat → Nat, f = fun x y => x + y := ⟨_, rfl⟩
    obtain ⟨zjn, hzjn⟩ : ∃ f : Nat → (Nat → List SC) → (Nat → List SC) → Nat → List SC, f = rJn := ⟨_, rfl⟩
    obtain ⟨zup, hzup⟩ : ∃ f : (Nat → List SC) → Nat → Nat → List SC → Nat → List SC, f = rUp := ⟨_, rfl⟩
    obtain ⟨zmi, hzmi⟩ : ∃ f : Nat → Nat → Nat, f = fun x y => x - y := ⟨_, rfl⟩
    obtain ⟨zdp, hzdp⟩ : ∃ f : Nat → (Nat → List SC) → Nat → List SC, f = rDp := ⟨_, rfl⟩
    have hT := T0_ok hnd hnt har hcm hmx hmn hzpl hzjn hzup hzmi hzdp
    have hq : cm .lss (.ofNat i) (.ofNat (sn b)) = false := by rw [hcm]; exact decide_eq_false (fun g => hi (Int.ofNat_lt.1 g))
    repeat' (first
      | ((with_reducible apply go_ev hT 400); (· (cbv; try rfl)); (fail_if_success with_reducible apply stuck_id))
      | ((with_reducible refine go_brf ?_ ?_); (· first | rfl | assumption | (rw [hcm]; decide)))
      | ((with_reducible refine go_need ?_ ?_ ?_); (· first | omega | (simp only [Int.ofNat_eq_natCast]; omega)); (· first | omega | (simp only [Int.ofNat_eq_natCast]; omega)))
      | ((with_reducible apply go_ret_rows hT); (· (cbv; try rfl)); (· (cbv; try rfl)); (· (cbv; (try simp only [true_and, and_true]); (try ((repeat' apply And.intro) <;> (first | trivial | rfl | decide ))))); (· (cbv; (try simp only [true_and, and_true]); (try ((repeat' apply And.intro) <;> (first | trivial | rfl | exact RowLe.rfl' _ ))))); (· rfl))
      | ((with_reducible apply go_callR (f := 46) (hf := Try.call46)); (· intro S; cbv; try rfl); (· intro wc S hbc hxc hrc; exact h2 wc hbc); (· rfl))
      )
    all_goals trace_state

end Go.Proofs.Ytbljhhkjjlgnmaa
