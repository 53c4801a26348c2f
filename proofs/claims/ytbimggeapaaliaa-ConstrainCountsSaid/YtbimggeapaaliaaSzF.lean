/- Layer 7 of the reference: whether a function is well made; its two-phase locals. No condition. -/
import Derived.Test.YtbimggeapaaliaaSzE
import Derived.Test.YtbimggeapaaliaaShapeB
namespace Go.Proofs.Ytbimggeapaaliaa
open Go.RowKit
set_option linter.unusedVariables false
set_option linter.unusedSimpArgs false

/-- The kinds of the locals are bytes. -/
def GFun.Ty8 (F : GFun) : Prop := ∀ i, i < F.ln → 0 ≤ F.lk i ∧ F.lk i ≤ 255 ∧ 0 ≤ F.lt i ∧ F.lt i ≤ 255
theorem rTypChk (k t : Int) (w : World) (hk : 0 ≤ k ∧ k ≤ 255 ∧ 0 ≤ t ∧ t ≤ 255) :
    Calls Try.prog 37 #[.agg #[.int .u8 k, .int .u8 t]] w (Ret w (.int .i64 (okI (tyOk k t)))) := by
  have h := refcheck_any k t w hk.1 hk.2.1 hk.2.2.1 hk.2.2.2
  have e : chk k t = okI (tyOk k t) := by
    unfold chk okI
    have : okB k t = tyOk k t := by simp [okB, tyOk]
    rw [this]
  rw [e] at h
  exact h

def rmadeB (F : GFun) : Bool := !largeB F && !(F.ln == 0) && !(F.bn == 0) && decide (0 ≤ F.pa) && decide (F.pa ≤ 8) && decide (F.pa < F.ln) && (allN F.ln fun i => tyOk (F.lk i) (F.lt i)) && !isPtr (F.lk 0) && allN F.bn (blkOk F)

theorem large_ln {F : GFun} (h : largeB F = false) : F.ln ≤ 16 := by
  simp only [largeB, Bool.or_eq_false_iff, decide_eq_false_iff_not] at h
  omega

set_option maxRecDepth 100000 in
set_option maxHeartbeats 4000000 in
theorem rMadeC (F : GFun) (w : World) (hF : F.At w) (hK : F.Ty8) :
    Calls Try.prog 27 #[F.val] w (Ret w (.bool (rmadeB F))) := by
  have c1 (wc : World) (hk : KB ⟨w, []⟩ wc) := rManyC F wc (hF.later hk)
  have c2 (b : Nat) (h : largeB F = false) (wc : World) (hk : KB ⟨w, []⟩ wc) := rBlockC F wc (hF.later hk) (large_ln h) b
  obtain ⟨z0, hz0⟩ : ∃ z, z = rmadeB F := ⟨_, rfl⟩
  rw [← hz0]
  unfold rmadeB at hz0
  obtain ⟨lg, hlg⟩ : ∃ z, z = largeB F := ⟨_, rfl⟩
  obtain ⟨bk, hbk⟩ : ∃ z, z = blkOk F := ⟨_, rfl⟩
  rw [← hlg] at c1 c2 hz0
  rw [← hbk] at c2 hz0
  clear hlg hbk
  unfold blkV at c2
  obtain ⟨pa, un, lA, ln, lc, lk, lt, bA, bn, bc, sA, sn, sc, s, jA, jn, jc, ja, jk, jo, jf, jx, je, jd⟩ := F
  obtain ⟨hX, hl, hb, hs, hj⟩ := hF
  simp only at hl hb hs hj
  simp only [GFun.Ty8] at c1 c2 hz0 hK
  obtain ⟨ga, hga⟩ : ∃ b, b = allN ln fun i => tyOk (lk i) (lt i) := ⟨_, rfl⟩
  obtain ⟨gb, hgb⟩ : ∃ b, b = allN bn bk := ⟨_, rfl⟩
  rw [← hga, ← hgb] at hz0
  have ha1 : ∀ i, i < ln → tyOk (lk i) (lt i) = false → ga = false := fun i hi h => hga.trans (allN_false hi h)
  have hb1 : ∀ i, i < bn → bk i = false → gb = false := fun i hi h => hgb.trans (allN_false hi h)
  have ha2 : (∀ i, i < ln → tyOk (lk i) (lt i) = true) → ga = true := fun h => hga.trans (allN_iff.2 h)
  have hb2 : (∀ i, i < bn → bk i = true) → gb = true := fun h => hgb.trans (allN_iff.2 h)
  clear hga hgb
  refine go_start (args := [.pt (.agg (GFun.dat _))]) (c := (funX _)) Try.func27 rfl hX rfl rfl ?_
  obtain ⟨nd, hnd⟩ : ∃ f : Bool → Bool → Bool, f = and := ⟨_, rfl⟩
  obtain ⟨nt, hnt⟩ : ∃ f : Bool → Bool, f = not := ⟨_, rfl⟩
  obtain ⟨ar, har⟩ : ∃ f : BinOp → IntKind → Int → Int → Int, f = rAr := ⟨_, rfl⟩
  obtain ⟨cm, hcm⟩ : ∃ f : BinOp → Int → Int → Bool, f = rCm := ⟨_, rfl⟩
  obtain ⟨mx, hmx⟩ : ∃ f : Int → Int → Int, f = rMx := ⟨_, rfl⟩
  obtain ⟨mn, hmn⟩ : ∃ f : Int → Int → Int, f = rMn := ⟨_, rfl⟩
  have ar01 : ar .add .i64 0 1 = 1 := by rw [har]; decide
  have ar12 : ar .add .i64 1 1 = 2 := by rw [har]; decide
  obtain ⟨zpl, hzpl⟩ : ∃ f : Nat → Nat → Nat, f = fun x y => x + y := ⟨_, rfl⟩
  obtain ⟨zjn, hzjn⟩ : ∃ f : Nat → (Nat → List SC) → (Nat → List SC) → Nat → List SC, f = rJn := ⟨_, rfl⟩
  obtain ⟨zup, hzup⟩ : ∃ f : (Nat → List SC) → Nat → Nat → List SC → Nat → List SC, f = rUp := ⟨_, rfl⟩
  obtain ⟨zmi, hzmi⟩ : ∃ f : Nat → Nat → Nat, f = fun x y => x - y := ⟨_, rfl⟩
  obtain ⟨zdp, hzdp⟩ : ∃ f : Nat → (Nat → List SC) → Nat → List SC, f = rDp := ⟨_, rfl⟩
  have hT := T0_ok hnd hnt har hcm hmx hmn hzpl hzjn hzup hzmi hzdp
  by_cases h0 : ln = 0
  · subst h0
    repeat' (first
      | ((with_reducible apply go_ev hT 400); (· (cbv; try rfl)); (fail_if_success with_reducible apply stuck_id))
      | ((with_reducible refine go_brt ?_ ?_); (· first | rfl | assumption | (rw [hcm]; decide)))
      | ((with_reducible refine go_brf ?_ ?_); (· first | rfl | assumption | (rw [hcm]; decide)))
      | ((with_reducible refine go_brnt hnt ?_ ?_); (· first | rfl | assumption))
      | ((with_reducible refine go_brnf hnt ?_ ?_); (· first | rfl | assumption))
      | (with_reducible refine go_brn hnt (fun h => ?_) (fun h => ?_))
      | (with_reducible refine go_brl hcm (fun hlt => ?_) (fun hge => ?_))
      | (with_reducible refine go_br (fun h => ?_) (fun h => ?_))
      | ((with_reducible apply go_ret_val hT); (· (cbv; try rfl)); (· (cbv; try rfl)))
      | ((with_reducible apply go_fin_val hT); (· (cbv; try rfl)); (· (cbv; try rfl)))
      | ((with_reducible apply go_draw); (· rfl); (· kernel_rfl); (· kernel_rfl))
      | ((with_reducible apply go_drawE); (· kernel_rfl))
      | (with_reducible refine go_fork ?_)
      | (with_reducible refine fork_cons ?_ ?_)
      | (with_reducible exact fork_nil)
      | ((with_reducible refine go_need ?_ ?_ ?_); (· first | omega | (simp only [Int.ofNat_eq_natCast]; omega)); (· first | omega | (simp only [Int.ofNat_eq_natCast]; omega)))
      | ((with_reducible refine go_ob ?_ ?_); (· first | trivial | (refine ⟨trivial, ?_⟩; omega) | (rw [hzpl]; refine ⟨trivial, ?_⟩; show _ + _ ≤ 1073741824; omega) | (rw [hzpl]; show _ + _ ≤ 1073741824; omega)))
      | ((with_reducible apply go_ret_rows hT); (· (cbv; try rfl)); (· (cbv; try rfl)); (· (cbv; (try simp only [true_and, and_true]); (try ((repeat' apply And.intro) <;> (first | trivial | rfl | decide ))))); (· (cbv; (try simp only [true_and, and_true]); (try ((repeat' apply And.intro) <;> (first | trivial | rfl | exact RowLe.rfl' _ ))))); (· rfl))
      | ((with_reducible apply go_fin_rows hT); (· (cbv; try rfl)); (· (cbv; try rfl)); (· (cbv; (try simp only [true_and, and_true]); (try ((repeat' apply And.intro) <;> (first | trivial | rfl | decide ))))); (· (cbv; (try simp only [true_and, and_true]); (try ((repeat' apply And.intro) <;> (first | trivial | rfl | exact RowLe.rfl' _ ))))); (· rfl))
      | ((with_reducible apply go_call_bool (f := 26) (hf := Try.call26)); (· (cbv; try rfl)); (· intro wc hbc hxc; exact c1 wc hbc); intro z hz)
      | ((with_reducible apply go_callq_bool (f := 26) (hf := Try.call26)); (· (cbv; try rfl)); (· intro wc hbc hxc; exact c1 wc hbc); intro z hz)
      )
    all_goals (refine bool_eq ?_)
    all_goals
      subst_vars
      simp_all
  have q0 : decide (Int.ofNat ln = 0) = false := by simp; omega
  have hp : 0 < ln := by omega
  repeat' (first
    | ((with_reducible apply go_ev hT 400); (· (cbv; try rfl)); (fail_if_success with_reducible apply stuck_id))
    | ((with_reducible refine go_brt ?_ ?_); (· first | rfl | assumption | (rw [hcm]; decide)))
    | ((with_reducible refine go_brf ?_ ?_); (· first | rfl | assumption | (rw [hcm]; decide)))
    | ((with_reducible refine go_brnt hnt ?_ ?_); (· first | rfl | assumption))
    | ((with_reducible refine go_brnf hnt ?_ ?_); (· first | rfl | assumption))
    | (with_reducible refine go_brn hnt (fun h => ?_) (fun h => ?_))
    | (with_reducible refine go_brl hcm (fun hlt => ?_) (fun hge => ?_))
    | (with_reducible refine go_br (fun h => ?_) (fun h => ?_))
    | ((with_reducible apply go_ret_val hT); (· (cbv; try rfl)); (· (cbv; try rfl)))
    | ((with_reducible apply go_fin_val hT); (· (cbv; try rfl)); (· (cbv; try rfl)))
    | ((with_reducible apply go_draw); (· rfl); (· kernel_rfl); (· kernel_rfl))
    | ((with_reducible apply go_drawE); (· kernel_rfl))
    | (with_reducible refine go_fork ?_)
    | (with_reducible refine fork_cons ?_ ?_)
    | (with_reducible exact fork_nil)
    | ((with_reducible refine go_need ?_ ?_ ?_); (· first | omega | (simp only [Int.ofNat_eq_natCast]; omega)); (· first | omega | (simp only [Int.ofNat_eq_natCast]; omega)))
    | ((with_reducible refine go_ob ?_ ?_); (· first | trivial | (refine ⟨trivial, ?_⟩; omega) | (rw [hzpl]; refine ⟨trivial, ?_⟩; show _ + _ ≤ 1073741824; omega) | (rw [hzpl]; show _ + _ ≤ 1073741824; omega)))
    | ((with_reducible apply go_ret_rows hT); (· (cbv; try rfl)); (· (cbv; try rfl)); (· (cbv; (try simp only [true_and, and_true]); (try ((repeat' apply And.intro) <;> (first | trivial | rfl | decide ))))); (· (cbv; (try simp only [true_and, and_true]); (try ((repeat' apply And.intro) <;> (first | trivial | rfl | exact RowLe.rfl' _ ))))); (· rfl))
    | ((with_reducible apply go_fin_rows hT); (· (cbv; try rfl)); (· (cbv; try rfl)); (· (cbv; (try simp only [true_and, and_true]); (try ((repeat' apply And.intro) <;> (first | trivial | rfl | decide ))))); (· (cbv; (try simp only [true_and, and_true]); (try ((repeat' apply And.intro) <;> (first | trivial | rfl | exact RowLe.rfl' _ ))))); (· rfl))
    | ((with_reducible apply go_call_bool (f := 26) (hf := Try.call26)); (· (cbv; try rfl)); (· intro wc hbc hxc; exact c1 wc hbc); intro z hz)
    | ((with_reducible apply go_callq_bool (f := 26) (hf := Try.call26)); (· (cbv; try rfl)); (· intro wc hbc hxc; exact c1 wc hbc); intro z hz)
    | ((with_reducible apply go_call_int (f := 37) (hf := Try.call37)); (· (cbv; try rfl)); (· intro wc hbc hxc; exact rTypChk _ _ wc (hK i (by assumption))); intro z hz)
    | ((with_reducible apply go_callq_int (f := 37) (hf := Try.call37)); (· (cbv; try rfl)); (· intro wc hbc hxc; exact rTypChk _ _ wc (hK i (by assumption))); intro z hz)
    | ((with_reducible apply go_call_bool (f := 38) (hf := Try.call38)); (· (cbv; try rfl)); (· intro wc hbc hxc; exact rPointer _ _ wc); intro z hz)
    | ((with_reducible apply go_callq_bool (f := 38) (hf := Try.call38)); (· (cbv; try rfl)); (· intro wc hbc hxc; exact rPointer _ _ wc); intro z hz)
    | ((with_reducible apply go_call_bool (f := 39) (hf := Try.call39)); (· (cbv; try rfl)); (· intro wc hbc hxc; exact c2 b (by first | exact via (by assumption) (by assumption) | assumption | simp_all) wc hbc); intro z hz)
    | ((with_reducible apply go_callq_bool (f := 39) (hf := Try.call39)); (· (cbv; try rfl)); (· intro wc hbc hxc; exact c2 b (by first | exact via (by assumption) (by assumption) | assumption | simp_all) wc hbc); intro z hz)
    | ((with_reducible refine go_loopk (σ := {b : Nat // b ≤ bn ∧ ∀ j, j < b → bk j = true}) [2, 56, 57, 58, 59, 60, 61, 62, 63, 64, 65, 66, 67, 68, 69, 70] (fun x => [(4, .pt (.one (.int .i64 (.ofNat x.1))))]) (fun x => []) (fun x => []) (fun x => bn - x.1) ⟨0, by omega, fun j hj => by omega⟩ ?_ ?_ ?_ ?_); (· (refine le_mk ?_ ?_ ?_ ?_ <;> (cbv; (try simp only [true_and, and_true]); (try ((repeat' apply And.intro) <;> (first | trivial | rfl | exact RowLe.rfl' _ | (rw [wrap_nat har _ (by omega)]))))))); (· (cbv; try rfl)); (· simp); (rintro ⟨b, hb1', hbv⟩ mm hmm))
    | ((with_reducible refine go_loopk (σ := {i : Nat // i ≤ ln ∧ ∀ j, j < i → tyOk (lk j) (lt j) = true}) [2, 37, 38, 39, 40, 41, 42, 43, 44, 45, 46, 47, 48, 49, 50] (fun x => [(3, .pt (.one (.int .i64 (.ofNat x.1))))]) (fun x => []) (fun x => []) (fun x => ln - x.1) ⟨0, by omega, fun j hj => by omega⟩ ?_ ?_ ?_ ?_); (· (refine le_mk ?_ ?_ ?_ ?_ <;> (cbv; (try simp only [true_and, and_true]); (try ((repeat' apply And.intro) <;> (first | trivial | rfl | exact RowLe.rfl' _ | (rw [wrap_nat har _ (by omega)]))))))); (· (cbv; try rfl)); (· simp); (rintro ⟨i, hi, hok⟩ mm hmm))
    | ((with_reducible refine go_stop ⟨i + 1, by omega, all_succ hok (okI_inv hz h)⟩ ?_ ?_ ?_ ?_); (· exact Nat.lt_of_lt_of_eq (show ln - (i + 1) < ln - i from by omega) (Eq.symm (by assumption))); (· (refine le_mk ?_ ?_ ?_ ?_ <;> (cbv; (try simp only [true_and, and_true]); (try ((repeat' apply And.intro) <;> (first | trivial | rfl | exact RowLe.rfl' _ | (rw [wrap_nat har _ (by omega)]))))))); (· (cbv; try rfl)); (· simp))
    | ((with_reducible refine go_stop ⟨b + 1, by omega, all_succ hbv (show bk b = true from via (by assumption) (by assumption))⟩ ?_ ?_ ?_ ?_); (· exact Nat.lt_of_lt_of_eq (show bn - (b + 1) < bn - b from by omega) (Eq.symm (by assumption))); (· (refine le_mk ?_ ?_ ?_ ?_ <;> (cbv; (try simp only [true_and, and_true]); (try ((repeat' apply And.intro) <;> (first | trivial | rfl | exact RowLe.rfl' _ | (rw [wrap_nat har _ (by omega)]))))))); (· (cbv; try rfl)); (· simp))
    )
  all_goals (refine bool_eq ?_)
  all_goals
    try have e1 := ha1 _ (by assumption) (okI_inv' (by assumption) (by assumption))
    try have e2 := hb1 _ (by assumption) (via (by assumption) (by assumption))
    try have e3 := ha2 (fun j hj => hok j (by omega))
    try have e4 := hb2 (fun j hj => hbv j (by omega))
    try clear hmm hok
    try clear hmm hbv
    clear hX hT c1 c2 ha1 ha2 hb1 hb2 hK
    subst hnd hnt hcm
    simp only [decide_eq_true_eq, decide_eq_false_iff_not] at *
    subst_vars
    grind [rCm]

set_option maxRecDepth 100000 in
set_option maxHeartbeats 1000000 in
theorem rBorrowsC (s : GStmt) (w : World) :
    Calls Try.prog 40 #[s.val] w (Ret w (.bool (twoB s))) := by
  obtain ⟨k, ⟨ql, qd, qf⟩, ⟨rk, rop, rbo, ⟨ak, an, ⟨al, ad, af⟩⟩, ⟨bk, bn, ⟨bl, bd, bf⟩⟩, ⟨pl, pd, pf⟩⟩, ⟨ck, cn, ⟨cl, cd, cf⟩⟩, l⟩ := s
  unfold twoB
  refine go_start (args := [.pt (.agg (GStmt.sc _))]) (c := NoRows) Try.func40 rfl (noRows_ok _) rfl rfl ?_
  obtain ⟨nd, hnd⟩ : ∃ f : Bool → Bool → Bool, f = and := ⟨_, rfl⟩
  obtain ⟨nt, hnt⟩ : ∃ f : Bool → Bool, f = not := ⟨_, rfl⟩
  obtain ⟨ar, har⟩ : ∃ f : BinOp → IntKind → Int → Int → Int, f = rAr := ⟨_, rfl⟩
  obtain ⟨cm, hcm⟩ : ∃ f : BinOp → Int → Int → Bool, f = rCm := ⟨_, rfl⟩
  obtain ⟨mx, hmx⟩ : ∃ f : Int → Int → Int, f = rMx := ⟨_, rfl⟩
  obtain ⟨mn, hmn⟩ : ∃ f : Int → Int → Int, f = rMn := ⟨_, rfl⟩
  have ar01 : ar .add .i64 0 1 = 1 := by rw [har]; decide
  have ar12 : ar .add .i64 1 1 = 2 := by rw [har]; decide
  obtain ⟨zpl, hzpl⟩ : ∃ f : Nat → Nat → Nat, f = fun x y => x + y := ⟨_, rfl⟩
  obtain ⟨zjn, hzjn⟩ : ∃ f : Nat → (Nat → List SC) → (Nat → List SC) → Nat → List SC, f = rJn := ⟨_, rfl⟩
  obtain ⟨zup, hzup⟩ : ∃ f : (Nat → List SC) → Nat → Nat → List SC → Nat → List SC, f = rUp := ⟨_, rfl⟩
  obtain ⟨zmi, hzmi⟩ : ∃ f : Nat → Nat → Nat, f = fun x y => x - y := ⟨_, rfl⟩
  obtain ⟨zdp, hzdp⟩ : ∃ f : Nat → (Nat → List SC) → Nat → List SC, f = rDp := ⟨_, rfl⟩
  have hT := T0_ok hnd hnt har hcm hmx hmn hzpl hzjn hzup hzmi hzdp
  repeat' (first
    | ((with_reducible apply go_ev hT 400); (· (cbv; try rfl)); (fail_if_success with_reducible apply stuck_id))
    | ((with_reducible refine go_brt ?_ ?_); (· first | rfl | assumption | (rw [hcm]; decide)))
    | ((with_reducible refine go_brf ?_ ?_); (· first | rfl | assumption | (rw [hcm]; decide)))
    | ((with_reducible refine go_brnt hnt ?_ ?_); (· first | rfl | assumption))
    | ((with_reducible refine go_brnf hnt ?_ ?_); (· first | rfl | assumption))
    | (with_reducible refine go_brn hnt (fun h => ?_) (fun h => ?_))
    | (with_reducible refine go_brl hcm (fun hlt => ?_) (fun hge => ?_))
    | (with_reducible refine go_br (fun h => ?_) (fun h => ?_))
    | ((with_reducible apply go_ret_val hT); (· (cbv; try rfl)); (· (cbv; try rfl)))
    | ((with_reducible apply go_fin_val hT); (· (cbv; try rfl)); (· (cbv; try rfl)))
    | ((with_reducible apply go_draw); (· rfl); (· kernel_rfl); (· kernel_rfl))
    | ((with_reducible apply go_drawE); (· kernel_rfl))
    | (with_reducible refine go_fork ?_)
    | (with_reducible refine fork_cons ?_ ?_)
    | (with_reducible exact fork_nil)
    | ((with_reducible refine go_need ?_ ?_ ?_); (· first | omega | (simp only [Int.ofNat_eq_natCast]; omega)); (· first | omega | (simp only [Int.ofNat_eq_natCast]; omega)))
    | ((with_reducible refine go_ob ?_ ?_); (· first | trivial | (refine ⟨trivial, ?_⟩; omega) | (rw [hzpl]; refine ⟨trivial, ?_⟩; show _ + _ ≤ 1073741824; omega) | (rw [hzpl]; show _ + _ ≤ 1073741824; omega)))
    | ((with_reducible apply go_ret_rows hT); (· (cbv; try rfl)); (· (cbv; try rfl)); (· (cbv; (try simp only [true_and, and_true]); (try ((repeat' apply And.intro) <;> (first | trivial | rfl | decide ))))); (· (cbv; (try simp only [true_and, and_true]); (try ((repeat' apply And.intro) <;> (first | trivial | rfl | exact RowLe.rfl' _ ))))); (· rfl))
    | ((with_reducible apply go_fin_rows hT); (· (cbv; try rfl)); (· (cbv; try rfl)); (· (cbv; (try simp only [true_and, and_true]); (try ((repeat' apply And.intro) <;> (first | trivial | rfl | decide ))))); (· (cbv; (try simp only [true_and, and_true]); (try ((repeat' apply And.intro) <;> (first | trivial | rfl | exact RowLe.rfl' _ ))))); (· rfl))
    )
  all_goals
    clear ar01 ar12 hT
    subst hnd hnt hmx hmn
    refine bool_eq ?_
  all_goals grind

section
variable {P : Program} {Q : Exit → Act → World → Prop} {c : Nat → Nat → Row} {w0 : Base}
theorem go_putBL {f : Nat → Bool} {b o o' : Nat} {v : Bool} {k : List Item} {st : St} (ho : o = o') (h16 : o' < 16) (hb : ∀ g : Nat → Bool, ({ st with h := setN st.h b (some (arrB g)) } : St).bnd = true) (hm : ∀ g : Nat → Bool, w0.mo.length ≤ (setN st.h b (some (arrB g))).length) (h : ∀ g, g = turn f o' v → Goes P Q c w0 k { st with h := setN st.h b (some (arrB g)) }) :
    OutOk P Q c w0 (.askS b o [.bool (f 0), .bool (f 1), .bool (f 2), .bool (f 3), .bool (f 4), .bool (f 5), .bool (f 6), .bool (f 7), .bool (f 8), .bool (f 9), .bool (f 10), .bool (f 11), .bool (f 12), .bool (f 13), .bool (f 14), .bool (f 15)] (.lit v) none k st) := by
  subst ho
  exact go_askB (arrB (turn f o v)) h16 (arrB_putL f v h16) (hb _) (hm _) (h _ rfl)
end

set_option maxRecDepth 100000 in
set_option maxHeartbeats 4000000 in
theorem rTwoC (F : GFun) (w : World) (hF : F.At w) (hI : F.In) :
    Calls Try.prog 28 #[F.val] w (Ret w (arrV (allTwo F F.bn).is)) := by
  obtain ⟨Is, Ij⟩ := hI
  clear Ij
  obtain ⟨X, hX0⟩ : ∃ X : Nat → TS, X = allTwo F := ⟨_, rfl⟩
  obtain ⟨XI, hXI⟩ : ∃ g : Nat → Nat → Bool, g = fun b => (X b).is := ⟨_, rfl⟩
  obtain ⟨YI, hYI⟩ : ∃ g : Nat → Nat → Nat → Bool, g = fun b i => (stsTwo (F.s b) i (X b)).is := ⟨_, rfl⟩
  have i0 : ∀ b, YI b 0 = XI b := fun b => by rw [hYI, hXI]; rfl
  have i1 : ∀ b i, YI b (i + 1) = if twoB (F.s b i) = true then turn (YI b i) (F.s b i).p.l.toNat true else YI b i := fun b i => by rw [hYI]; rfl
  have i2 : ∀ b, XI (b + 1) = YI b (F.sn b) := fun b => by rw [hXI, hYI, hX0]; rfl
  have i3 : XI 0 = fun _ => false := by rw [hXI, hX0]; rfl
  have e1 : (allTwo F F.bn).is = XI F.bn := by rw [hXI, hX0]
  have hQ : ∀ b i, b < F.bn → i < F.sn b → twoB (F.s b i) = true → 0 ≤ (F.s b i).p.l ∧ (F.s b i).p.l < 16 := fun b i hb hi h => by
    have h1 := (Is b i hb hi).2.2
    have h2 : (F.s b i).k = 1 := by simp only [twoB, Bool.and_eq_true, beq_iff_eq] at h; exact h.1.1
    exact (h1 h2).1
  rw [e1]
  clear hX0 hXI hYI e1 Is
  obtain ⟨pa, un, lA, ln, lc, lk, lt, bA, bn, bc, sA, sn, sc, s, jA, jn, jc, ja, jk, jo, jf, jx, je, jd⟩ := F
  obtain ⟨hX, hl, hb, hs, hj⟩ := hF
  simp only at hl hb hs hj
  simp only [] at i1 i2 hQ
  refine go_start (args := [.pt (.agg (GFun.dat _))]) (c := (funX _)) Try.func28 rfl hX rfl rfl ?_
  obtain ⟨nd, hnd⟩ : ∃ f : Bool → Bool → Bool, f = and := ⟨_, rfl⟩
  obtain ⟨nt, hnt⟩ : ∃ f : Bool → Bool, f = not := ⟨_, rfl⟩
  obtain ⟨ar, har⟩ : ∃ f : BinOp → IntKind → Int → Int → Int, f = rAr := ⟨_, rfl⟩
  obtain ⟨cm, hcm⟩ : ∃ f : BinOp → Int → Int → Bool, f = rCm := ⟨_, rfl⟩
  obtain ⟨mx, hmx⟩ : ∃ f : Int → Int → Int, f = rMx := ⟨_, rfl⟩
  obtain ⟨mn, hmn⟩ : ∃ f : Int → Int → Int, f = rMn := ⟨_, rfl⟩
  have ar01 : ar .add .i64 0 1 = 1 := by rw [har]; decide
  have ar12 : ar .add .i64 1 1 = 2 := by rw [har]; decide
  obtain ⟨zpl, hzpl⟩ : ∃ f : Nat → Nat → Nat, f = fun x y => x + y := ⟨_, rfl⟩
  obtain ⟨zjn, hzjn⟩ : ∃ f : Nat → (Nat → List SC) → (Nat → List SC) → Nat → List SC, f = rJn := ⟨_, rfl⟩
  obtain ⟨zup, hzup⟩ : ∃ f : (Nat → List SC) → Nat → Nat → List SC → Nat → List SC, f = rUp := ⟨_, rfl⟩
  obtain ⟨zmi, hzmi⟩ : ∃ f : Nat → Nat → Nat, f = fun x y => x - y := ⟨_, rfl⟩
  obtain ⟨zdp, hzdp⟩ : ∃ f : Nat → (Nat → List SC) → Nat → List SC, f = rDp := ⟨_, rfl⟩
  have hT := T0_ok hnd hnt har hcm hmx hmn hzpl hzjn hzup hzmi hzdp
  repeat' (first
    | ((with_reducible apply go_ev hT 400); (· (cbv; try rfl)); (fail_if_success with_reducible apply stuck_id))
    | ((with_reducible refine go_brt ?_ ?_); (· first | rfl | assumption | (rw [hcm]; decide)))
    | ((with_reducible refine go_brf ?_ ?_); (· first | rfl | assumption | (rw [hcm]; decide)))
    | ((with_reducible refine go_brnt hnt ?_ ?_); (· first | rfl | assumption))
    | ((with_reducible refine go_brnf hnt ?_ ?_); (· first | rfl | assumption))
    | (with_reducible refine go_brn hnt (fun h => ?_) (fun h => ?_))
    | (with_reducible refine go_brl hcm (fun hlt => ?_) (fun hge => ?_))
    | (with_reducible refine go_br (fun h => ?_) (fun h => ?_))
    | ((with_reducible apply go_ret_val hT); (· (cbv; try rfl)); (· (cbv; try rfl)))
    | ((with_reducible apply go_fin_val hT); (· (cbv; try rfl)); (· (cbv; try rfl)))
    | ((with_reducible apply go_draw); (· rfl); (· kernel_rfl); (· kernel_rfl))
    | ((with_reducible apply go_drawE); (· kernel_rfl))
    | (with_reducible refine go_fork ?_)
    | (with_reducible refine fork_cons ?_ ?_)
    | (with_reducible exact fork_nil)
    | ((with_reducible refine go_need ?_ ?_ ?_); (· first | omega | (simp only [Int.ofNat_eq_natCast]; omega)); (· first | omega | (simp only [Int.ofNat_eq_natCast]; omega)))
    | ((with_reducible refine go_ob ?_ ?_); (· first | trivial | (refine ⟨trivial, ?_⟩; omega) | (rw [hzpl]; refine ⟨trivial, ?_⟩; show _ + _ ≤ 1073741824; omega) | (rw [hzpl]; show _ + _ ≤ 1073741824; omega)))
    | ((with_reducible apply go_ret_rows hT); (· (cbv; try rfl)); (· (cbv; try rfl)); (· (cbv; (try simp only [true_and, and_true]); (try ((repeat' apply And.intro) <;> (first | trivial | rfl | decide  | ((rw [i3]; done)) | ((rw [i0]; done)) | ((rw [i2, show i = sn b from by omega]; done)) | ((rw [hg, i1, if_pos (via (by assumption) (by assumption))]; done)) | ((rw [i1, if_neg (fun hh => Bool.noConfusion (hh.symm.trans (via (by assumption) (by assumption))))]; done)) | ((have hsb := hs b; rw [wrap_nat har _ (by omega)]))))))); (· (cbv; (try simp only [true_and, and_true]); (try ((repeat' apply And.intro) <;> (first | trivial | rfl | exact RowLe.rfl' _  | ((rw [i3]; done)) | ((rw [i0]; done)) | ((rw [i2, show i = sn b from by omega]; done)) | ((rw [hg, i1, if_pos (via (by assumption) (by assumption))]; done)) | ((rw [i1, if_neg (fun hh => Bool.noConfusion (hh.symm.trans (via (by assumption) (by assumption))))]; done)) | ((have hsb := hs b; rw [wrap_nat har _ (by omega)]))))))); (· rfl))
    | ((with_reducible apply go_fin_rows hT); (· (cbv; try rfl)); (· (cbv; try rfl)); (· (cbv; (try simp only [true_and, and_true]); (try ((repeat' apply And.intro) <;> (first | trivial | rfl | decide  | ((rw [i3]; done)) | ((rw [i0]; done)) | ((rw [i2, show i = sn b from by omega]; done)) | ((rw [hg, i1, if_pos (via (by assumption) (by assumption))]; done)) | ((rw [i1, if_neg (fun hh => Bool.noConfusion (hh.symm.trans (via (by assumption) (by assumption))))]; done)) | ((have hsb := hs b; rw [wrap_nat har _ (by omega)]))))))); (· (cbv; (try simp only [true_and, and_true]); (try ((repeat' apply And.intro) <;> (first | trivial | rfl | exact RowLe.rfl' _  | ((rw [i3]; done)) | ((rw [i0]; done)) | ((rw [i2, show i = sn b from by omega]; done)) | ((rw [hg, i1, if_pos (via (by assumption) (by assumption))]; done)) | ((rw [i1, if_neg (fun hh => Bool.noConfusion (hh.symm.trans (via (by assumption) (by assumption))))]; done)) | ((have hsb := hs b; rw [wrap_nat har _ (by omega)]))))))); (· rfl))
    | ((with_reducible apply go_call_bool (f := 40) (hf := Try.call40)); (· (cbv; try rfl)); (· intro wc hbc hxc; exact rBorrowsC (s b i) wc); intro z hz)
    | ((with_reducible apply go_callq_bool (f := 40) (hf := Try.call40)); (· (cbv; try rfl)); (· intro wc hbc hxc; exact rBorrowsC (s b i) wc); intro z hz)
    | ((with_reducible refine go_loopk (σ := {b : Nat // b ≤ bn}) [5, 6, 7, 8, 9, 10, 11, 12, 13, 14, 15, 16, 17, 18, 19, 20, 21, 22, 23, 24, 25, 26, 27, 28, 29, 30, 31, 32, 33, 34, 35, 36, 37] (fun x => [(4, .pt (.one (.int .i64 (.ofNat x.1))))]) (fun x => [(2, arrB (XI x.1))]) (fun x => []) (fun x => bn - x.1) ⟨0, by omega⟩ ?_ ?_ ?_ ?_); (· (refine le_mk ?_ ?_ ?_ ?_ <;> (cbv; (try simp only [true_and, and_true]); (try ((repeat' apply And.intro) <;> (first | trivial | rfl | exact RowLe.rfl' _ | (rw [wrap_nat har _ (by omega)]) | ((rw [i3]; done)) | ((rw [i0]; done)) | ((rw [i2, show i = sn b from by omega]; done)) | ((rw [hg, i1, if_pos (via (by assumption) (by assumption))]; done)) | ((rw [i1, if_neg (fun hh => Bool.noConfusion (hh.symm.trans (via (by assumption) (by assumption))))]; done)) | ((have hsb := hs b; rw [wrap_nat har _ (by omega)])))))))); (· (cbv; try rfl)); (· simp); (rintro ⟨b, hb1⟩ mm hmm))
    | ((with_reducible refine go_loopk (σ := {i : Nat // i ≤ sn b}) [20, 21, 22, 23, 24, 25, 26, 27, 28, 29, 30, 31, 32, 33, 34, 35, 36, 37] (fun x => [(6, .pt (.one (.int .i64 (.ofNat x.1))))]) (fun x => [(2, arrB (YI b x.1))]) (fun x => []) (fun x => sn b - x.1) ⟨0, by omega⟩ ?_ ?_ ?_ ?_); (· (refine le_mk ?_ ?_ ?_ ?_ <;> (cbv; (try simp only [true_and, and_true]); (try ((repeat' apply And.intro) <;> (first | trivial | rfl | exact RowLe.rfl' _ | (rw [wrap_nat har _ (by omega)]) | ((rw [i3]; done)) | ((rw [i0]; done)) | ((rw [i2, show i = sn b from by omega]; done)) | ((rw [hg, i1, if_pos (via (by assumption) (by assumption))]; done)) | ((rw [i1, if_neg (fun hh => Bool.noConfusion (hh.symm.trans (via (by assumption) (by assumption))))]; done)) | ((have hsb := hs b; rw [wrap_nat har _ (by omega)])))))))); (· (cbv; try rfl)); (· simp); (rintro ⟨i, hi⟩ mm hmm))
    | (((with_reducible apply go_need); (· exact (hQ b i (by assumption) (by assumption) (via (by assumption) (by assumption))).1); (· exact (hQ b i (by assumption) (by assumption) (via (by assumption) (by assumption))).2)))
    | (((with_reducible apply go_putBL); (· exact off2 _); (· exact toNat16 (hQ b i (by assumption) (by assumption) (via (by assumption) (by assumption)))); (· intro g; rfl); (· intro g; simp); (intro g hg)))
    | ((with_reducible refine go_stop ⟨b + 1, by omega⟩ ?_ ?_ ?_ ?_); (· exact Nat.lt_of_lt_of_eq (show bn - (b + 1) < bn - b from by omega) (Eq.symm (by assumption))); (· (refine le_mk ?_ ?_ ?_ ?_ <;> (cbv; (try simp only [true_and, and_true]); (try ((repeat' apply And.intro) <;> (first | trivial | rfl | exact RowLe.rfl' _ | (rw [wrap_nat har _ (by omega)]) | ((rw [i3]; done)) | ((rw [i0]; done)) | ((rw [i2, show i = sn b from by omega]; done)) | ((rw [hg, i1, if_pos (via (by assumption) (by assumption))]; done)) | ((rw [i1, if_neg (fun hh => Bool.noConfusion (hh.symm.trans (via (by assumption) (by assumption))))]; done)) | ((have hsb := hs b; rw [wrap_nat har _ (by omega)])))))))); (· (cbv; try rfl)); (· simp))
    | ((with_reducible refine go_stop ⟨i + 1, by omega⟩ ?_ ?_ ?_ ?_); (· exact Nat.lt_of_lt_of_eq (show sn b - (i + 1) < sn b - i from by omega) (Eq.symm (by assumption))); (· (refine le_mk ?_ ?_ ?_ ?_ <;> (cbv; (try simp only [true_and, and_true]); (try ((repeat' apply And.intro) <;> (first | trivial | rfl | exact RowLe.rfl' _ | (rw [wrap_nat har _ (by omega)]) | ((rw [i3]; done)) | ((rw [i0]; done)) | ((rw [i2, show i = sn b from by omega]; done)) | ((rw [hg, i1, if_pos (via (by assumption) (by assumption))]; done)) | ((rw [i1, if_neg (fun hh => Bool.noConfusion (hh.symm.trans (via (by assumption) (by assumption))))]; done)) | ((have hsb := hs b; rw [wrap_nat har _ (by omega)])))))))); (· (cbv; try rfl)); (· simp))
    )
  all_goals (have hbb : b = bn := by omega)
  all_goals subst hbb
  all_goals rfl

end Go.Proofs.Ytbimggeapaaliaa
