/- Layer 19 of the program: the constraints of a statement. No condition. -/
import Derived.Test.YtbimggeapaaliaaSwB
namespace Go.Proofs.Ytbimggeapaaliaa
open Go.RowKit
set_option linter.unusedVariables false
set_option linter.unusedSimpArgs false

structure KCon where
  fr : Int
  to : Int
  at_ : Int
  why : Int
def KCon.zero : KCon := ⟨0, 0, 0, 0⟩
def KCon.sc (k : KCon) : List SC := [.int .i64 k.fr, .int .i64 k.to, .int .i64 k.at_, .int .u8 k.why]
/-- A list of constraints as a row. -/
def conR (L : List KCon) : ORow := ⟨L.length, 4, fun j => (L.getD j .zero).sc⟩
def isRefK (k : Int) : Bool := k == 3 || k == 4
def GPlace.whole (p : GPlace) : Bool := !p.d && p.f == 0
/-- The constraints of an assignment. -/
def ofL (lk : Nat → Int) (s : GStmt) (at_ loan : Int) : List KCon :=
  if s.p.whole then
    if s.r.k == 4 then ⟨loan, s.p.l, at_, 2⟩ :: (if s.r.p.d && isRefK (lk s.r.p.l.toNat) then [⟨s.r.p.l, s.p.l, at_, 3⟩] else [])
    else if s.r.k == 1 && s.r.a.k != 1 && s.r.a.p.whole && isRefK (lk s.r.a.p.l.toNat) && isRefK (lk s.p.l.toNat) then [⟨s.r.a.p.l, s.p.l, at_, 1⟩]
    else []
  else []

set_option maxRecDepth 100000 in
theorem wholeC (l f : Int) (d : Bool) (w : World) :
    Calls Try.prog 35 #[.agg #[.int .i64 l, .bool d, .int .u8 f]] w (Ret w (.bool (GPlace.mk l d f).whole)) := by
  refine go_start (args := [.pt (.agg [.int .i64 l, .bool d, .int .u8 f])]) (c := NoRows) Try.func35 rfl (noRows_ok _) rfl rfl ?_
  obtain ⟨nd, hnd⟩ : ∃ f : Bool → Bool → Bool, f = and := ⟨_, rfl⟩
  obtain ⟨nt, hnt⟩ : ∃ f : Bool → Bool, f = not := ⟨_, rfl⟩
  obtain ⟨ar, har⟩ : ∃ f : BinOp → IntKind → Int → Int → Int, f = rAr := ⟨_, rfl⟩
  obtain ⟨cm, hcm⟩ : ∃ f : BinOp → Int → Int → Bool, f = rCm := ⟨_, rfl⟩
  obtain ⟨mx, hmx⟩ : ∃ f : Int → Int → Int, f = rMx := ⟨_, rfl⟩
  obtain ⟨mn, hmn⟩ : ∃ f : Int → Int → Int, f = rMn := ⟨_, rfl⟩
  have ar01 : ar .add .i64 0 1 = 1 := by rw [har]; decide
  have ar12 : ar .add .i64 1 1 = 2 := by rw [har]; decide
  obtain ⟨zpl, hzpl⟩ : ∃ f : Nat → Nat → Nat, f = fun x y => x + y := ⟨_, rfl⟩
  obtain ⟨zjn, hzjn⟩ : ∃ f : Nat → (Nat → List SC) → (Nat → List SC) → Nat → List SC, f = rJn := ⟨_, rfl⟩
  obtain ⟨zup, hzup⟩ : ∃ f : (Nat → List SC) → Nat → Nat → List SC → Nat → List SC, f = rUp := ⟨_, rfl⟩
  obtain ⟨zmi, hzmi⟩ : ∃ f : Nat → Nat → Nat, f = fun x y => x - y := ⟨_, rfl⟩
  obtain ⟨zdp, hzdp⟩ : ∃ f : Nat → (Nat → List SC) → Nat → List SC, f = rDp := ⟨_, rfl⟩
  have hT := T0_ok hnd hnt har hcm hmx hmn hzpl hzjn hzup hzmi hzdp
  repeat' (first
    | ((with_reducible apply go_ev hT 400); (· (cbv; try rfl)); (fail_if_success with_reducible apply stuck_id))
    | ((with_reducible refine go_brt ?_ ?_); (· first | rfl | assumption | (rw [hcm]; decide)))
    | ((with_reducible refine go_brf ?_ ?_); (· first | rfl | assumption | (rw [hcm]; decide)))
    | ((with_reducible refine go_brnt hnt ?_ ?_); (· first | rfl | assumption))
    | ((with_reducible refine go_brnf hnt ?_ ?_); (· first | rfl | assumption))
    | (with_reducible refine go_brn hnt (fun h => ?_) (fun h => ?_))
    | (with_reducible refine go_brl hcm (fun hlt => ?_) (fun hge => ?_))
    | (with_reducible refine go_br (fun h => ?_) (fun h => ?_))
    | ((with_reducible apply go_ret_val hT); (· (cbv; try rfl)); (· (cbv; try rfl)))
    | ((with_reducible apply go_fin_val hT); (· (cbv; try rfl)); (· (cbv; try rfl)))
    | ((with_reducible apply go_draw); (· rfl); (· kernel_rfl); (· kernel_rfl))
    | ((with_reducible apply go_drawE); (· kernel_rfl))
    | (with_reducible refine go_fork ?_)
    | (with_reducible refine fork_cons ?_ ?_)
    | (with_reducible exact fork_nil)
    | ((with_reducible refine go_need ?_ ?_ ?_); (· first | omega | (simp only [Int.ofNat_eq_natCast]; omega)); (· first | omega | (simp only [Int.ofNat_eq_natCast]; omega)))
    | ((with_reducible refine go_ob ?_ ?_); (· first | trivial | (refine ⟨trivial, ?_⟩; omega) | (rw [hzpl]; refine ⟨trivial, ?_⟩; show _ + _ ≤ 1073741824; omega) | (rw [hzpl]; show _ + _ ≤ 1073741824; omega)))
    | ((with_reducible apply go_ret_rows hT); (· (cbv; try rfl)); (· (cbv; try rfl)); (· (cbv; (try simp only [true_and, and_true]); (try ((repeat' apply And.intro) <;> (first | trivial | rfl | decide ))))); (· (cbv; (try simp only [true_and, and_true]); (try ((repeat' apply And.intro) <;> (first | trivial | rfl | exact RowLe.rfl' _ ))))); (· rfl))
    | ((with_reducible apply go_fin_rows hT); (· (cbv; try rfl)); (· (cbv; try rfl)); (· (cbv; (try simp only [true_and, and_true]); (try ((repeat' apply And.intro) <;> (first | trivial | rfl | decide ))))); (· (cbv; (try simp only [true_and, and_true]); (try ((repeat' apply And.intro) <;> (first | trivial | rfl | exact RowLe.rfl' _ ))))); (· rfl))
    )
  all_goals
    subst hnd hnt hcm
    refine bool_eq ?_
    grind [GPlace.whole]

set_option maxRecDepth 100000 in
theorem refC (F : GFun) (l : Int) (w : World) (hF : F.At w) (h0 : 0 ≤ l) (h1 : l < F.ln) :
    Calls Try.prog 36 #[F.val, .int .i64 l] w (Ret w (.bool (isRefK (F.lk l.toNat)))) := by
  obtain ⟨n, rfl⟩ : ∃ n : Nat, l = .ofNat n := ⟨l.toNat, by simp only [Int.ofNat_eq_natCast]; omega⟩
  have h1 : n < F.ln := by simp only [Int.ofNat_eq_natCast] at h1; omega
  show Calls Try.prog 36 #[F.val, .int .i64 (.ofNat n)] w (Ret w (.bool (isRefK (F.lk n))))
  clear h0
  obtain ⟨pa, un, lA, ln, lc, lk, lt, bA, bn, bc, sA, sn, sc, s, jA, jn, jc, ja, jk, jo, jf, jx, je, jd⟩ := F
  obtain ⟨hX, hl, hb, hs, hj⟩ := hF
  simp only at hl hb hs hj
  simp only at h1
  refine go_start (args := [.pt (.agg (GFun.dat _)), .pt (.one (.int .i64 (.ofNat n)))]) (c := (funX _)) Try.func36 rfl hX rfl rfl ?_
  obtain ⟨nd, hnd⟩ : ∃ f : Bool → Bool → Bool, f = and := ⟨_, rfl⟩
  obtain ⟨nt, hnt⟩ : ∃ f : Bool → Bool, f = not := ⟨_, rfl⟩
  obtain ⟨ar, har⟩ : ∃ f : BinOp → IntKind → Int → Int → Int, f = rAr := ⟨_, rfl⟩
  obtain ⟨cm, hcm⟩ : ∃ f : BinOp → Int → Int → Bool, f = rCm := ⟨_, rfl⟩
  obtain ⟨mx, hmx⟩ : ∃ f : Int → Int → Int, f = rMx := ⟨_, rfl⟩
  obtain ⟨mn, hmn⟩ : ∃ f : Int → Int → Int, f = rMn := ⟨_, rfl⟩
  have ar01 : ar .add .i64 0 1 = 1 := by rw [har]; decide
  have ar12 : ar .add .i64 1 1 = 2 := by rw [har]; decide
  obtain ⟨zpl, hzpl⟩ : ∃ f : Nat → Nat → Nat, f = fun x y => x + y := ⟨_, rfl⟩
  obtain ⟨zjn, hzjn⟩ : ∃ f : Nat → (Nat → List SC) → (Nat → List SC) → Nat → List SC, f = rJn := ⟨_, rfl⟩
  obtain ⟨zup, hzup⟩ : ∃ f : (Nat → List SC) → Nat → Nat → List SC → Nat → List SC, f = rUp := ⟨_, rfl⟩
  obtain ⟨zmi, hzmi⟩ : ∃ f : Nat → Nat → Nat, f = fun x y => x - y := ⟨_, rfl⟩
  obtain ⟨zdp, hzdp⟩ : ∃ f : Nat → (Nat → List SC) → Nat → List SC, f = rDp := ⟨_, rfl⟩
  have hT := T0_ok hnd hnt har hcm hmx hmn hzpl hzjn hzup hzmi hzdp
  repeat' (first
    | ((with_reducible apply go_ev hT 400); (· (cbv; try rfl)); (fail_if_success with_reducible apply stuck_id))
    | ((with_reducible refine go_brt ?_ ?_); (· first | rfl | assumption | (rw [hcm]; decide)))
    | ((with_reducible refine go_brf ?_ ?_); (· first | rfl | assumption | (rw [hcm]; decide)))
    | ((with_reducible refine go_brnt hnt ?_ ?_); (· first | rfl | assumption))
    | ((with_reducible refine go_brnf hnt ?_ ?_); (· first | rfl | assumption))
    | (with_reducible refine go_brn hnt (fun h => ?_) (fun h => ?_))
    | (with_reducible refine go_brl hcm (fun hlt => ?_) (fun hge => ?_))
    | (with_reducible refine go_br (fun h => ?_) (fun h => ?_))
    | ((with_reducible apply go_ret_val hT); (· (cbv; try rfl)); (· (cbv; try rfl)))
    | ((with_reducible apply go_fin_val hT); (· (cbv; try rfl)); (· (cbv; try rfl)))
    | ((with_reducible apply go_draw); (· rfl); (· kernel_rfl); (· kernel_rfl))
    | ((with_reducible apply go_drawE); (· kernel_rfl))
    | (with_reducible refine go_fork ?_)
    | (with_reducible refine fork_cons ?_ ?_)
    | (with_reducible exact fork_nil)
    | ((with_reducible refine go_need ?_ ?_ ?_); (· first | omega | (simp only [Int.ofNat_eq_natCast]; omega)); (· first | omega | (simp only [Int.ofNat_eq_natCast]; omega)))
    | ((with_reducible refine go_ob ?_ ?_); (· first | trivial | (refine ⟨trivial, ?_⟩; omega) | (rw [hzpl]; refine ⟨trivial, ?_⟩; show _ + _ ≤ 1073741824; omega) | (rw [hzpl]; show _ + _ ≤ 1073741824; omega)))
    | ((with_reducible apply go_ret_rows hT); (· (cbv; try rfl)); (· (cbv; try rfl)); (· (cbv; (try simp only [true_and, and_true]); (try ((repeat' apply And.intro) <;> (first | trivial | rfl | decide ))))); (· (cbv; (try simp only [true_and, and_true]); (try ((repeat' apply And.intro) <;> (first | trivial | rfl | exact RowLe.rfl' _ ))))); (· rfl))
    | ((with_reducible apply go_fin_rows hT); (· (cbv; try rfl)); (· (cbv; try rfl)); (· (cbv; (try simp only [true_and, and_true]); (try ((repeat' apply And.intro) <;> (first | trivial | rfl | decide ))))); (· (cbv; (try simp only [true_and, and_true]); (try ((repeat' apply And.intro) <;> (first | trivial | rfl | exact RowLe.rfl' _ ))))); (· rfl))
    )
  all_goals
    clear hX hT
    subst hnd hnt hcm
    refine bool_eq ?_
    grind [isRefK]

set_option maxRecDepth 100000 in
set_option maxHeartbeats 4000000 in
theorem conOf (F : GFun) (s : GStmt) (at_ loan : Int) (w : World) (hF : F.At w) (hp : 0 ≤ s.p.l ∧ s.p.l < F.ln) (hr : 0 ≤ s.r.p.l ∧ s.r.p.l < F.ln) (ha : 0 ≤ s.r.a.p.l ∧ s.r.a.p.l < F.ln) :
    Calls Try.prog 24 #[F.val, s.val, .int .i64 at_, .int .i64 loan] w (RetR w (funX F) (.pt (.one (.rs 0))) [conR (ofL F.lk s at_ loan)]) := by
  obtain ⟨k, ⟨ql, qd, qf⟩, ⟨rk, rop, rbo, ⟨ak, an, ⟨al, ad, af⟩⟩, ⟨bk, bn', ⟨bl, bd, bf⟩⟩, ⟨pl, pd, pf⟩⟩, ⟨ck, cn, ⟨cl, cd, cf⟩⟩, l⟩ := s
  obtain ⟨L, hL⟩ : ∃ L, L = ofL F.lk (GStmt.mk k ⟨ql, qd, qf⟩ ⟨rk, rop, rbo, ⟨ak, an, ⟨al, ad, af⟩⟩, ⟨bk, bn', ⟨bl, bd, bf⟩⟩, ⟨pl, pd, pf⟩⟩ ⟨ck, cn, ⟨cl, cd, cf⟩⟩ l) at_ loan := ⟨_, rfl⟩
  rw [← hL]
  obtain ⟨ln_, hln⟩ : ∃ f : List KCon → Nat, f = List.length := ⟨_, rfl⟩
  obtain ⟨gt_, hgt⟩ : ∃ f : List KCon → Nat → KCon, f = fun L j => L.getD j .zero := ⟨_, rfl⟩
  have hR : conR L = ⟨ln_ L, 4, fun j => (gt_ L j).sc⟩ := by rw [conR, hln, hgt]
  rw [hR]
  simp only [] at hL hp hr ha
  have hAt (wc : World) (hk : KB ⟨w, []⟩ wc) := hF.later hk
  clear hR
  unfold ofL at hL
  obtain ⟨pa, un, lA, ln, lc, lk, lt, bA, bn, bc, sA, sn, sc, s, jA, jn, jc, ja, jk, jo, jf, jx, je, jd⟩ := F
  obtain ⟨hX, hl, hb, hs, hj⟩ := hF
  simp only at hl hb hs hj
  simp only at hL hp hr ha
  refine go_start (args := [.pt (.agg (GFun.dat _)), .pt (.agg (GStmt.sc _)), .pt (.one (.int .i64 at_)), .pt (.one (.int .i64 loan))]) (c := (funX _)) Try.func24 rfl hX rfl rfl ?_
  obtain ⟨nd, hnd⟩ : ∃ f : Bool → Bool → Bool, f = and := ⟨_, rfl⟩
  obtain ⟨nt, hnt⟩ : ∃ f : Bool → Bool, f = not := ⟨_, rfl⟩
  obtain ⟨ar, har⟩ : ∃ f : BinOp → IntKind → Int → Int → Int, f = rAr := ⟨_, rfl⟩
  obtain ⟨cm, hcm⟩ : ∃ f : BinOp → Int → Int → Bool, f = rCm := ⟨_, rfl⟩
  obtain ⟨mx, hmx⟩ : ∃ f : Int → Int → Int, f = rMx := ⟨_, rfl⟩
  obtain ⟨mn, hmn⟩ : ∃ f : Int → Int → Int, f = rMn := ⟨_, rfl⟩
  have ar01 : ar .add .i64 0 1 = 1 := by rw [har]; decide
  have ar12 : ar .add .i64 1 1 = 2 := by rw [har]; decide
  obtain ⟨zpl, hzpl⟩ : ∃ f : Nat → Nat → Nat, f = fun x y => x + y := ⟨_, rfl⟩
  obtain ⟨zjn, hzjn⟩ : ∃ f : Nat → (Nat → List SC) → (Nat → List SC) → Nat → List SC, f = rJn := ⟨_, rfl⟩
  obtain ⟨zup, hzup⟩ : ∃ f : (Nat → List SC) → Nat → Nat → List SC → Nat → List SC, f = rUp := ⟨_, rfl⟩
  obtain ⟨zmi, hzmi⟩ : ∃ f : Nat → Nat → Nat, f = fun x y => x - y := ⟨_, rfl⟩
  obtain ⟨zdp, hzdp⟩ : ∃ f : Nat → (Nat → List SC) → Nat → List SC, f = rDp := ⟨_, rfl⟩
  have hT := T0_ok hnd hnt har hcm hmx hmn hzpl hzjn hzup hzmi hzdp
  repeat' (first
    | ((with_reducible apply go_ev hT 400); (· (cbv; try rfl)); (fail_if_success with_reducible apply stuck_id))
    | ((with_reducible refine go_brt ?_ ?_); (· first | rfl | assumption | (rw [hcm]; decide)))
    | ((with_reducible refine go_brf ?_ ?_); (· first | rfl | assumption | (rw [hcm]; decide)))
    | ((with_reducible refine go_brnt hnt ?_ ?_); (· first | rfl | assumption))
    | ((with_reducible refine go_brnf hnt ?_ ?_); (· first | rfl | assumption))
    | (with_reducible refine go_brn hnt (fun h => ?_) (fun h => ?_))
    | (with_reducible refine go_brl hcm (fun hlt => ?_) (fun hge => ?_))
    | (with_reducible refine go_br (fun h => ?_) (fun h => ?_))
    | ((with_reducible apply go_ret_val hT); (· (cbv; try rfl)); (· (cbv; try rfl)))
    | ((with_reducible apply go_fin_val hT); (· (cbv; try rfl)); (· (cbv; try rfl)))
    | ((with_reducible apply go_draw); (· rfl); (· kernel_rfl); (· kernel_rfl))
    | ((with_reducible apply go_drawE); (· kernel_rfl))
    | (with_reducible refine go_fork ?_)
    | (with_reducible refine fork_cons ?_ ?_)
    | (with_reducible exact fork_nil)
    | ((with_reducible refine go_need ?_ ?_ ?_); (· first | omega | (simp only [Int.ofNat_eq_natCast]; omega)); (· first | omega | (simp only [Int.ofNat_eq_natCast]; omega)))
    | ((with_reducible refine go_ob ?_ ?_); (· first | trivial | (refine ⟨trivial, ?_⟩; omega) | (rw [hzpl]; refine ⟨trivial, ?_⟩; show _ + _ ≤ 1073741824; omega) | (rw [hzpl]; show _ + _ ≤ 1073741824; omega)))
    | ((with_reducible apply go_ret_rows hT); (· (cbv; try rfl)); (· (cbv; try rfl)); (· (cbv; (try simp only [true_and, and_true]); (try ((repeat' apply And.intro) <;> (first | trivial | rfl | decide  | ((clear hX hT hAt; exact ⟨by rw [hln, hL]; subst hnd hnt; simp_all⟩)) | ((clear hX hT hAt; have e : L = [⟨loan, ql, at_, 2⟩, ⟨pl, ql, at_, 3⟩] := (by subst hnd hnt; simp_all); clear hL; subst e; refine rowLe_snoc hzpl hzjn (by rw [hln]; rfl) (fun j hj => ?_) (by rw [hgt]; exact leCL_rfl _); have hj0 : j = 0 := (by omega); subst hj0; rw [hgt]; exact leCL_rfl _)) | ((clear hX hT hAt; have e : L = [⟨loan, ql, at_, 2⟩] := (by subst hnd hnt; simp_all); clear hL; subst e; refine ⟨by rw [hln]; rfl, Nat.le_refl _, by decide, Nat.le_refl _, rfl, rfl, fun j hj => ?_⟩; have hj0 : j = 0 := (by omega); subst hj0; rw [hgt]; exact leCL_rfl _)) | ((clear hX hT hAt; have e : L = [⟨al, ql, at_, 1⟩] := (by subst hnd hnt; simp_all); clear hL; subst e; refine ⟨by rw [hln]; rfl, Nat.le_refl _, by decide, Nat.le_refl _, rfl, rfl, fun j hj => ?_⟩; have hj0 : j = 0 := (by omega); subst hj0; rw [hgt]; exact leCL_rfl _))))))); (· (cbv; (try simp only [true_and, and_true]); (try ((repeat' apply And.intro) <;> (first | trivial | rfl | exact RowLe.rfl' _  | ((clear hX hT hAt; exact ⟨by rw [hln, hL]; subst hnd hnt; simp_all⟩)) | ((clear hX hT hAt; have e : L = [⟨loan, ql, at_, 2⟩, ⟨pl, ql, at_, 3⟩] := (by subst hnd hnt; simp_all); clear hL; subst e; refine rowLe_snoc hzpl hzjn (by rw [hln]; rfl) (fun j hj => ?_) (by rw [hgt]; exact leCL_rfl _); have hj0 : j = 0 := (by omega); subst hj0; rw [hgt]; exact leCL_rfl _)) | ((clear hX hT hAt; have e : L = [⟨loan, ql, at_, 2⟩] := (by subst hnd hnt; simp_all); clear hL; subst e; refine ⟨by rw [hln]; rfl, Nat.le_refl _, by decide, Nat.le_refl _, rfl, rfl, fun j hj => ?_⟩; have hj0 : j = 0 := (by omega); subst hj0; rw [hgt]; exact leCL_rfl _)) | ((clear hX hT hAt; have e : L = [⟨al, ql, at_, 1⟩] := (by subst hnd hnt; simp_all); clear hL; subst e; refine ⟨by rw [hln]; rfl, Nat.le_refl _, by decide, Nat.le_refl _, rfl, rfl, fun j hj => ?_⟩; have hj0 : j = 0 := (by omega); subst hj0; rw [hgt]; exact leCL_rfl _))))))); (· rfl))
    | ((with_reducible apply go_fin_rows hT); (· (cbv; try rfl)); (· (cbv; try rfl)); (· (cbv; (try simp only [true_and, and_true]); (try ((repeat' apply And.intro) <;> (first | trivial | rfl | decide  | ((clear hX hT hAt; exact ⟨by rw [hln, hL]; subst hnd hnt; simp_all⟩)) | ((clear hX hT hAt; have e : L = [⟨loan, ql, at_, 2⟩, ⟨pl, ql, at_, 3⟩] := (by subst hnd hnt; simp_all); clear hL; subst e; refine rowLe_snoc hzpl hzjn (by rw [hln]; rfl) (fun j hj => ?_) (by rw [hgt]; exact leCL_rfl _); have hj0 : j = 0 := (by omega); subst hj0; rw [hgt]; exact leCL_rfl _)) | ((clear hX hT hAt; have e : L = [⟨loan, ql, at_, 2⟩] := (by subst hnd hnt; simp_all); clear hL; subst e; refine ⟨by rw [hln]; rfl, Nat.le_refl _, by decide, Nat.le_refl _, rfl, rfl, fun j hj => ?_⟩; have hj0 : j = 0 := (by omega); subst hj0; rw [hgt]; exact leCL_rfl _)) | ((clear hX hT hAt; have e : L = [⟨al, ql, at_, 1⟩] := (by subst hnd hnt; simp_all); clear hL; subst e; refine ⟨by rw [hln]; rfl, Nat.le_refl _, by decide, Nat.le_refl _, rfl, rfl, fun j hj => ?_⟩; have hj0 : j = 0 := (by omega); subst hj0; rw [hgt]; exact leCL_rfl _))))))); (· (cbv; (try simp only [true_and, and_true]); (try ((repeat' apply And.intro) <;> (first | trivial | rfl | exact RowLe.rfl' _  | ((clear hX hT hAt; exact ⟨by rw [hln, hL]; subst hnd hnt; simp_all⟩)) | ((clear hX hT hAt; have e : L = [⟨loan, ql, at_, 2⟩, ⟨pl, ql, at_, 3⟩] := (by subst hnd hnt; simp_all); clear hL; subst e; refine rowLe_snoc hzpl hzjn (by rw [hln]; rfl) (fun j hj => ?_) (by rw [hgt]; exact leCL_rfl _); have hj0 : j = 0 := (by omega); subst hj0; rw [hgt]; exact leCL_rfl _)) | ((clear hX hT hAt; have e : L = [⟨loan, ql, at_, 2⟩] := (by subst hnd hnt; simp_all); clear hL; subst e; refine ⟨by rw [hln]; rfl, Nat.le_refl _, by decide, Nat.le_refl _, rfl, rfl, fun j hj => ?_⟩; have hj0 : j = 0 := (by omega); subst hj0; rw [hgt]; exact leCL_rfl _)) | ((clear hX hT hAt; have e : L = [⟨al, ql, at_, 1⟩] := (by subst hnd hnt; simp_all); clear hL; subst e; refine ⟨by rw [hln]; rfl, Nat.le_refl _, by decide, Nat.le_refl _, rfl, rfl, fun j hj => ?_⟩; have hj0 : j = 0 := (by omega); subst hj0; rw [hgt]; exact leCL_rfl _))))))); (· rfl))
    | ((with_reducible apply go_call_bool (f := 35) (hf := Try.call35)); (· (cbv; try rfl)); (· intro wc hbc hxc; exact wholeC _ _ _ wc); intro z hz)
    | ((with_reducible apply go_callq_bool (f := 35) (hf := Try.call35)); (· (cbv; try rfl)); (· intro wc hbc hxc; exact wholeC _ _ _ wc); intro z hz)
    | ((with_reducible apply go_call_bool (f := 36) (hf := Try.call36)); (· (cbv; try rfl)); (· intro wc hbc hxc; exact refC ⟨pa, un, lA, ln, lc, lk, lt, bA, bn, bc, sA, sn, sc, s, jA, jn, jc, ja, jk, jo, jf, jx, je, jd⟩ _ wc (hAt wc hbc) (by first | exact hp.1 | exact hr.1 | exact ha.1) (by first | exact hp.2 | exact hr.2 | exact ha.2)); intro z hz)
    | ((with_reducible apply go_callq_bool (f := 36) (hf := Try.call36)); (· (cbv; try rfl)); (· intro wc hbc hxc; exact refC ⟨pa, un, lA, ln, lc, lk, lt, bA, bn, bc, sA, sn, sc, s, jA, jn, jc, ja, jk, jo, jf, jx, je, jd⟩ _ wc (hAt wc hbc) (by first | exact hp.1 | exact hr.1 | exact ha.1) (by first | exact hp.2 | exact hr.2 | exact ha.2)); intro z hz)
    )

end Go.Proofs.Ytbimggeapaaliaa
