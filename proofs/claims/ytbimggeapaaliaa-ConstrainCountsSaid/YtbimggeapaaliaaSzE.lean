/- Layer 7 of the reference: whether a block is well made. No condition. -/
import Derived.Test.YtbimggeapaaliaaSzD
namespace Go.Proofs.Ytbimggeapaaliaa
open Go.RowKit
set_option linter.unusedVariables false
set_option linter.unusedSimpArgs false

/-- Whether a local occurs that is not less than a number. -/
def farB (f : Nat → Int) (c : Nat) : Bool := !(allN 16 fun i => decide (i < c) || !decide (0 < f i))

theorem via {z y b : Bool} (hz : z = y) (h : z = b) : y = b := hz ▸ h
theorem gt_dec {x : Int} {b : Bool} (h : rCm .gtr x 0 = b) : decide (0 < x) = b := h
set_option maxRecDepth 100000 in
set_option maxHeartbeats 4000000 in
theorem farC (f : Nat → Int) (c : Nat) (w : World) (hc : c ≤ 16) :
    Calls Try.prog 55 #[arrI f, .int .i64 (.ofNat c)] w (Ret w (.bool (farB f c))) := by
  obtain ⟨z0, hz0⟩ : ∃ z, z = farB f c := ⟨_, rfl⟩
  have hz1 : ∀ i, c ≤ i → i < 16 → decide (0 < f i) = true → z0 = true := fun i h1 h2 h => by
    rw [hz0, farB, allN_false h2 (by simp only [h]; simp; omega)]; rfl
  have hz2 : (∀ i, c ≤ i → i < 16 → decide (0 < f i) = false) → z0 = false := fun h => by
    rw [hz0, farB, allN_iff.2 (fun i hi => ?_)]; · rfl
    by_cases g : i < c
    · simp [g]
    · rw [h i (by omega) hi]; simp
  rw [← hz0]
  clear hz0
  refine go_start (args := [.pt (.agg (arrC f)), .pt (.one (.int .i64 (.ofNat c)))]) (c := NoRows) Try.func55 rfl (noRows_ok _) rfl rfl ?_
  obtain ⟨nd, hnd⟩ : ∃ f : Bool → Bool → Bool, f = and := ⟨_, rfl⟩
  obtain ⟨nt, hnt⟩ : ∃ f : Bool → Bool, f = not := ⟨_, rfl⟩
  obtain ⟨ar, har⟩ : ∃ f : BinOp → IntKind → Int → Int → Int, f = rAr := ⟨_, rfl⟩
  obtain ⟨cm, hcm⟩ : ∃ f : BinOp → Int → Int → Bool, f = rCm := ⟨_, rfl⟩
  obtain ⟨mx, hmx⟩ : ∃ f : Int → Int → Int, f = rMx := ⟨_, rfl⟩
  obtain ⟨mn, hmn⟩ : ∃ f : Int → Int → Int, f = rMn := ⟨_, rfl⟩
  have ar01 : ar .add .i64 0 1 = 1 := by rw [har]; decide
  have ar12 : ar .add .i64 1 1 = 2 := by rw [har]; decide
  obtain ⟨zpl, hzpl⟩ : ∃ f : Nat → Nat → Nat, f = fun x y => x + y := ⟨_, rfl⟩
  obtain ⟨zjn, hzjn⟩ : ∃ f : Nat → (Nat → List SC) → (Nat → List SC) → Nat → List SC, f = rJn := ⟨_, rfl⟩
  obtain ⟨zup, hzup⟩ : ∃ f : (Nat → List SC) → Nat → Nat → List SC → Nat → List SC, f = rUp := ⟨_, rfl⟩
  obtain ⟨zmi, hzmi⟩ : ∃ f : Nat → Nat → Nat, f = fun x y => x - y := ⟨_, rfl⟩
  obtain ⟨zdp, hzdp⟩ : ∃ f : Nat → (Nat → List SC) → Nat → List SC, f = rDp := ⟨_, rfl⟩
  have hT := T0_ok hnd hnt har hcm hmx hmn hzpl hzjn hzup hzmi hzdp
  have hl16 : ∀ t : Nat, cm .lss (.ofNat t) 16 = true → t < 16 := fun t h => by
    rw [hcm] at h
    have := of_decide_eq_true (show decide ((t : Int) < 16) = true from h)
    omega
  have hg16 : ∀ t : Nat, cm .lss (.ofNat t) 16 = false → 16 ≤ t := fun t h => by
    rw [hcm] at h
    have := of_decide_eq_false (show decide ((t : Int) < 16) = false from h)
    omega
  repeat' (first
    | ((with_reducible apply go_ev hT 400); (· (cbv; try rfl)); (fail_if_success with_reducible apply stuck_id))
    | ((with_reducible refine go_brt ?_ ?_); (· first | rfl | assumption | (rw [hcm]; decide)))
    | ((with_reducible refine go_brf ?_ ?_); (· first | rfl | assumption | (rw [hcm]; decide)))
    | ((with_reducible refine go_brnt hnt ?_ ?_); (· first | rfl | assumption))
    | ((with_reducible refine go_brnf hnt ?_ ?_); (· first | rfl | assumption))
    | (with_reducible refine go_brn hnt (fun h => ?_) (fun h => ?_))
    | (with_reducible refine go_brl hcm (fun hlt => ?_) (fun hge => ?_))
    | (with_reducible refine go_br (fun h => ?_) (fun h => ?_))
    | ((with_reducible apply go_ret_val hT); (· (cbv; try rfl)); (· (cbv; try rfl)))
    | ((with_reducible apply go_fin_val hT); (· (cbv; try rfl)); (· (cbv; try rfl)))
    | ((with_reducible apply go_draw); (· rfl); (· kernel_rfl); (· kernel_rfl))
    | ((with_reducible apply go_drawE); (· kernel_rfl))
    | (with_reducible refine go_fork ?_)
    | (with_reducible refine fork_cons ?_ ?_)
    | (with_reducible exact fork_nil)
    | ((with_reducible refine go_need ?_ ?_ ?_); (· first | omega | (simp only [Int.ofNat_eq_natCast]; omega)); (· first | omega | (simp only [Int.ofNat_eq_natCast]; omega)))
    | ((with_reducible refine go_ob ?_ ?_); (· first | trivial | (refine ⟨trivial, ?_⟩; omega) | (rw [hzpl]; refine ⟨trivial, ?_⟩; show _ + _ ≤ 1073741824; omega) | (rw [hzpl]; show _ + _ ≤ 1073741824; omega)))
    | ((with_reducible apply go_ret_rows hT); (· (cbv; try rfl)); (· (cbv; try rfl)); (· (cbv; (try simp only [true_and, and_true]); (try ((repeat' apply And.intro) <;> (first | trivial | rfl | decide ))))); (· (cbv; (try simp only [true_and, and_true]); (try ((repeat' apply And.intro) <;> (first | trivial | rfl | exact RowLe.rfl' _ ))))); (· rfl))
    | ((with_reducible apply go_fin_rows hT); (· (cbv; try rfl)); (· (cbv; try rfl)); (· (cbv; (try simp only [true_and, and_true]); (try ((repeat' apply And.intro) <;> (first | trivial | rfl | decide ))))); (· (cbv; (try simp only [true_and, and_true]); (try ((repeat' apply And.intro) <;> (first | trivial | rfl | exact RowLe.rfl' _ ))))); (· rfl))
    | ((with_reducible refine go_loopk (σ := {i : Nat // c ≤ i ∧ i ≤ 16 ∧ ∀ j, c ≤ j → j < i → decide (0 < f j) = false}) [4, 7, 8, 9, 10, 11, 12, 13, 14] (fun x => [(5, .pt (.one (.int .i64 (.ofNat x.1))))]) (fun x => []) (fun x => []) (fun x => 16 - x.1) ⟨c, Nat.le_refl c, hc, fun j h1 h2 => by omega⟩ ?_ ?_ ?_ ?_); (· (refine le_mk ?_ ?_ ?_ ?_ <;> (cbv; (try simp only [true_and, and_true]); (try ((repeat' apply And.intro) <;> (first | trivial | rfl | exact RowLe.rfl' _ | (rw [wrap_nat har _ (by omega)]))))))); (· (cbv; try rfl)); (· simp); (rintro ⟨i, hi1, hi2, hok⟩ mm hmm))
    | (((with_reducible apply go_need); (· exact Int.natCast_nonneg _); (· have hq := hl16 i (by assumption); show (i : Int) < ((16 : Nat) : Int); omega)))
    | (((with_reducible apply go_getC); (· first | exact off2 _ | exact (off0 _).trans (off0 _)); (· first | exact hl16 _ (by assumption) | omega)))
    | ((with_reducible refine go_stop ⟨i + 1, by omega, by have := hl16 i (by assumption); omega, fun j h1 h2 => by rcases Nat.lt_or_eq_of_le (Nat.le_of_lt_succ h2) with h' | rfl; exact hok j h1 h'; exact gt_dec (by subst hcm; assumption)⟩ ?_ ?_ ?_ ?_); (· subst hmm; exact Nat.lt_of_lt_of_eq (Nat.sub_lt_sub_left (hl16 i (by assumption)) (Nat.lt_succ_self i)) rfl); (· (refine le_mk ?_ ?_ ?_ ?_ <;> (cbv; (try simp only [true_and, and_true]); (try ((repeat' apply And.intro) <;> (first | trivial | rfl | exact RowLe.rfl' _ | (rw [wrap_nat har _ (by omega)]))))))); (· (cbv; try rfl)); (· simp))
    )
  all_goals (refine bool_eq ?_)
  · exact (hz1 i hi1 (hl16 i (by assumption)) (gt_dec (by subst hcm; assumption))).symm
  · exact (hz2 fun j h1 h2 => hok j h1 (by have := hg16 i (by assumption); omega)).symm

/-- Whether a block is well made. -/
def blkOk (F : GFun) (b : Nat) : Bool :=
  (allN (F.sn b) fun i => (F.s b i).ok && !farB (occS (F.s b i)) F.ln) && ((F.jump b).ok && !farB (occJ (F.jk b) (F.jo b) (F.jd b) (F.jn b) (F.ja b)) F.ln) && (F.jump b).leads.all fun n => decide (n < F.bn)
def blkV (F : GFun) (b : Nat) : Value := .agg #[.slice (F.sA b) (F.sn b) (F.sc b), .int .u8 (F.jk b), .int .u8 (F.jo b).k, .int .i64 (F.jo b).n, .int .i64 (F.jo b).p.l, .bool (F.jo b).p.d, .int .u8 (F.jo b).p.f, .int .i64 (F.jf b), .int .i64 (F.jx b), .int .i64 (F.je b), .slice (F.jA b) (F.jn b) (F.jc b), .int .i64 (F.jd b).l, .bool (F.jd b).d, .int .u8 (F.jd b).f]

set_option maxRecDepth 100000 in
set_option maxHeartbeats 4000000 in
theorem rBlockC (F : GFun) (w : World) (hF : F.At w) (hl16 : F.ln ≤ 16) (b : Nat) :
    Calls Try.prog 39 #[F.val, blkV F b] w (Ret w (.bool (blkOk F b))) := by
  have hXk (wc : World) (hk : KB ⟨w, []⟩ wc) := argX (hF.later hk).ok b
  obtain ⟨z0, hz0⟩ : ∃ z, z = blkOk F b := ⟨_, rfl⟩
  obtain ⟨oS, hoS⟩ : ∃ f, f = occS := ⟨_, rfl⟩
  obtain ⟨oJ, hoJ⟩ : ∃ f, f = occJ (F.jk b) (F.jo b) (F.jd b) (F.jn b) (F.ja b) := ⟨_, rfl⟩
  obtain ⟨fa, hfa⟩ : ∃ f, f = farB := ⟨_, rfl⟩
  have f1 : ∀ i, i < F.sn b → (F.s b i).ok = false → z0 = false := fun i hi h => by
    rw [hz0, blkOk, allN_false hi (by rw [h]; rfl)]; rfl
  have f2 : ∀ i, i < F.sn b → fa (oS (F.s b i)) F.ln = true → z0 = false := fun i hi h => by
    rw [hfa, hoS] at h
    rw [hz0, blkOk, allN_false hi (by rw [h]; simp)]; rfl
  have f3 : (F.jump b).ok = false → z0 = false := fun h => by rw [hz0, blkOk, h]; simp
  have f4 : fa oJ F.ln = true → z0 = false := fun h => by rw [hfa, hoJ] at h; rw [hz0, blkOk, h]; simp
  have f5 : ((F.jump b).leads.all fun n => decide (n < F.bn)) = false → z0 = false := fun h => by rw [hz0, blkOk, h]; simp
  have f6 : (∀ i, i < F.sn b → (F.s b i).ok = true ∧ fa (oS (F.s b i)) F.ln = false) → (F.jump b).ok = true → fa oJ F.ln = false → ((F.jump b).leads.all fun n => decide (n < F.bn)) = true → z0 = true := fun h1 h2 h3 h4 => by
    rw [hfa, hoJ] at h3
    rw [hfa, hoS] at h1
    rw [hz0, blkOk, h2, h3, h4, allN_iff.2 (fun i hi => by rw [(h1 i hi).1, (h1 i hi).2]; rfl)]; rfl
  have cS : ∀ i wc, (F.s b i).ok = true → Calls Try.prog 41 #[(F.s b i).val] wc (Ret wc (arrI (oS (F.s b i)))) := fun i wc h => by rw [hoS]; exact occC _ wc h
  have cF : ∀ f wc, Calls Try.prog 55 #[arrI f, .int .i64 (.ofNat F.ln)] wc (Ret wc (.bool (fa f F.ln))) := fun f wc => by rw [hfa]; exact farC f F.ln wc hl16
  have cJ : ∀ wc, KB ⟨w, []⟩ wc → (F.jump b).ok = true → Calls Try.prog 44 #[.agg #[.int .u8 (F.jk b), .int .u8 (F.jo b).k, .int .i64 (F.jo b).n, .int .i64 (F.jo b).p.l, .bool (F.jo b).p.d, .int .u8 (F.jo b).p.f, .int .i64 (F.jf b), .int .i64 (F.jx b), .int .i64 (F.je b), .slice (F.jA b) (F.jn b) (F.jc b), .int .i64 (F.jd b).l, .bool (F.jd b).d, .int .u8 (F.jd b).f]] wc (Ret wc (arrI oJ)) := fun wc hk h => by
    rw [hoJ]
    exact occJC _ _ _ _ _ _ _ _ _ _ _ _ _ _ _ _ wc (by unfold maxLen; have := hF.j b; omega) (hXk wc hk) h
  rw [← hz0]
  clear hz0 hoS hoJ hfa
  unfold blkV
  obtain ⟨pa, un, lA, ln, lc, lk, lt, bA, bn, bc, sA, sn, sc, s, jA, jn, jc, ja, jk, jo, jf, jx, je, jd⟩ := F
  obtain ⟨hX, hl, hb, hs, hj⟩ := hF
  simp only at hl hb hs hj
  simp only [] at f1 f2 f3 f4 f5 f6 cS cF cJ hXk
  have hsb := hs b
  refine go_start (args := [.pt (.agg (GFun.dat _)), .pt (.agg (GFun.blkC _ b))]) (c := (funX _)) Try.func39 rfl hX rfl rfl ?_
  obtain ⟨nd, hnd⟩ : ∃ f : Bool → Bool → Bool, f = and := ⟨_, rfl⟩
  obtain ⟨nt, hnt⟩ : ∃ f : Bool → Bool, f = not := ⟨_, rfl⟩
  obtain ⟨ar, har⟩ : ∃ f : BinOp → IntKind → Int → Int → Int, f = rAr := ⟨_, rfl⟩
  obtain ⟨cm, hcm⟩ : ∃ f : BinOp → Int → Int → Bool, f = rCm := ⟨_, rfl⟩
  obtain ⟨mx, hmx⟩ : ∃ f : Int → Int → Int, f = rMx := ⟨_, rfl⟩
  obtain ⟨mn, hmn⟩ : ∃ f : Int → Int → Int, f = rMn := ⟨_, rfl⟩
  have ar01 : ar .add .i64 0 1 = 1 := by rw [har]; decide
  have ar12 : ar .add .i64 1 1 = 2 := by rw [har]; decide
  obtain ⟨zpl, hzpl⟩ : ∃ f : Nat → Nat → Nat, f = fun x y => x + y := ⟨_, rfl⟩
  obtain ⟨zjn, hzjn⟩ : ∃ f : Nat → (Nat → List SC) → (Nat → List SC) → Nat → List SC, f = rJn := ⟨_, rfl⟩
  obtain ⟨zup, hzup⟩ : ∃ f : (Nat → List SC) → Nat → Nat → List SC → Nat → List SC, f = rUp := ⟨_, rfl⟩
  obtain ⟨zmi, hzmi⟩ : ∃ f : Nat → Nat → Nat, f = fun x y => x - y := ⟨_, rfl⟩
  obtain ⟨zdp, hzdp⟩ : ∃ f : Nat → (Nat → List SC) → Nat → List SC, f = rDp := ⟨_, rfl⟩
  have hT := T0_ok hnd hnt har hcm hmx hmn hzpl hzjn hzup hzmi hzdp
  repeat' (first
    | ((with_reducible apply go_ev hT 400); (· (cbv; try rfl)); (fail_if_success with_reducible apply stuck_id); (try simp only [ar01, ar12]))
    | ((with_reducible refine go_brt ?_ ?_); (· first | rfl | assumption | (rw [hcm]; decide)))
    | ((with_reducible refine go_brf ?_ ?_); (· first | rfl | assumption | (rw [hcm]; decide)))
    | ((with_reducible refine go_brnt hnt ?_ ?_); (· first | rfl | assumption))
    | ((with_reducible refine go_brnf hnt ?_ ?_); (· first | rfl | assumption))
    | (with_reducible refine go_brn hnt (fun h => ?_) (fun h => ?_))
    | (with_reducible refine go_brl hcm (fun hlt => ?_) (fun hge => ?_))
    | (with_reducible refine go_br (fun h => ?_) (fun h => ?_))
    | ((with_reducible apply go_ret_val hT); (· (cbv; try rfl)); (· (cbv; try rfl)))
    | ((with_reducible apply go_fin_val hT); (· (cbv; try rfl)); (· (cbv; try rfl)))
    | ((with_reducible apply go_draw); (· rfl); (· kernel_rfl); (· kernel_rfl))
    | ((with_reducible apply go_drawE); (· kernel_rfl))
    | (with_reducible refine go_fork ?_)
    | (with_reducible refine fork_cons ?_ ?_)
    | (with_reducible exact fork_nil)
    | ((with_reducible refine go_need ?_ ?_ ?_); (· first | omega | (simp only [Int.ofNat_eq_natCast]; omega)); (· first | omega | (simp only [Int.ofNat_eq_natCast]; omega)))
    | ((with_reducible refine go_ob ?_ ?_); (· first | trivial | (refine ⟨trivial, ?_⟩; omega) | (rw [hzpl]; refine ⟨trivial, ?_⟩; show _ + _ ≤ 1073741824; omega) | (rw [hzpl]; show _ + _ ≤ 1073741824; omega)))
    | ((with_reducible apply go_ret_rows hT); (· (cbv; try rfl)); (· (cbv; try rfl)); (· (cbv; (try simp only [true_and, and_true]); (try ((repeat' apply And.intro) <;> (first | trivial | rfl | decide ))))); (· (cbv; (try simp only [true_and, and_true]); (try ((repeat' apply And.intro) <;> (first | trivial | rfl | exact RowLe.rfl' _ ))))); (· rfl))
    | ((with_reducible apply go_fin_rows hT); (· (cbv; try rfl)); (· (cbv; try rfl)); (· (cbv; (try simp only [true_and, and_true]); (try ((repeat' apply And.intro) <;> (first | trivial | rfl | decide ))))); (· (cbv; (try simp only [true_and, and_true]); (try ((repeat' apply And.intro) <;> (first | trivial | rfl | exact RowLe.rfl' _ ))))); (· rfl))
    | ((with_reducible apply go_call_bool (f := 54) (hf := Try.call54)); (· (cbv; try rfl)); (· intro wc hbc hxc; exact rStmtV (s b i) wc); intro z hz)
    | ((with_reducible apply go_callq_bool (f := 54) (hf := Try.call54)); (· (cbv; try rfl)); (· intro wc hbc hxc; exact rStmtV (s b i) wc); intro z hz)
    | ((with_reducible apply go_call (f := 41) (hf := Try.call41)); (· (cbv; try rfl)); (· intro wc hbc hxc; exact cS i wc (by first | (rw [← hz]; assumption) | simp_all)))
    | ((with_reducible apply go_callq (f := 41) (hf := Try.call41)); (· (cbv; try rfl)); (· intro wc hbc hxc; exact cS i wc (by first | (rw [← hz]; assumption) | simp_all)))
    | ((with_reducible apply go_call_bool (f := 55) (hf := Try.call55)); (· (cbv; try rfl)); (· intro wc hbc hxc; exact cF _ wc); intro z hz)
    | ((with_reducible apply go_callq_bool (f := 55) (hf := Try.call55)); (· (cbv; try rfl)); (· intro wc hbc hxc; exact cF _ wc); intro z hz)
    | ((with_reducible apply go_call_bool (f := 56) (hf := Try.call56)); (· (cbv; try rfl)); (· intro wc hbc hxc; exact rJumpV _ _ _ _ _ _ _ _ _ _ _ _ (jA b) (jn b) (jc b) (ja b) wc (by unfold maxLen; have := hj b; omega) (hXk wc hbc)); intro z hz)
    | ((with_reducible apply go_callq_bool (f := 56) (hf := Try.call56)); (· (cbv; try rfl)); (· intro wc hbc hxc; exact rJumpV _ _ _ _ _ _ _ _ _ _ _ _ (jA b) (jn b) (jc b) (ja b) wc (by unfold maxLen; have := hj b; omega) (hXk wc hbc)); intro z hz)
    | ((with_reducible apply go_call (f := 44) (hf := Try.call44)); (· (cbv; try rfl)); (· intro wc hbc hxc; exact cJ wc hbc (by first | exact hz.symm.trans (by assumption) | simp_all)))
    | ((with_reducible apply go_callq (f := 44) (hf := Try.call44)); (· (cbv; try rfl)); (· intro wc hbc hxc; exact cJ wc hbc (by first | exact hz.symm.trans (by assumption) | simp_all)))
    | ((with_reducible apply go_inline (f := 57) (hf := Try.func57) (hr := Try.results57) (hcall := Try.call57)); (· rfl); (· (cbv; try rfl)))
    | ((with_reducible refine go_loopk (σ := {i : Nat // i ≤ sn b ∧ ∀ j, j < i → (s b j).ok = true ∧ fa (oS (s b j)) ln = false}) [4, 8, 9, 10, 11, 12, 13, 14, 15, 16, 17, 18, 19, 20, 21, 22, 23, 24, 25, 26, 27, 28, 29, 30, 31, 32, 33] (fun x => [(5, .pt (.one (.int .i64 (.ofNat x.1))))]) (fun x => []) (fun x => []) (fun x => sn b - x.1) ⟨0, by omega, fun j hj => by omega⟩ ?_ ?_ ?_ ?_); (· (refine le_mk ?_ ?_ ?_ ?_ <;> (cbv; (try simp only [true_and, and_true]); (try ((repeat' apply And.intro) <;> (first | trivial | rfl | exact RowLe.rfl' _ | (rw [wrap_nat har _ (by omega)]))))))); (· (cbv; try rfl)); (· simp); (rintro ⟨i, hi, hok⟩ mm hmm))
    | ((with_reducible refine go_stop ⟨i + 1, by omega, all_succ hok (show (s b i).ok = true ∧ fa (oS (s b i)) ln = false from ⟨via (by assumption) (by assumption), via (by assumption) (by assumption)⟩)⟩ ?_ ?_ ?_ ?_); (· exact Nat.lt_of_lt_of_eq (show sn b - (i + 1) < sn b - i from by omega) (Eq.symm (by assumption))); (· (refine le_mk ?_ ?_ ?_ ?_ <;> (cbv; (try simp only [true_and, and_true]); (try ((repeat' apply And.intro) <;> (first | trivial | rfl | exact RowLe.rfl' _ | (rw [wrap_nat har _ (by omega)]))))))); (· (cbv; try rfl)); (· simp))
    | (with_reducible apply go_rounds 4)
    )
  all_goals (refine bool_eq ?_)
  all_goals first
    | exact (f1 i hlt (via (by assumption) (by assumption))).symm
    | exact (f2 i hlt (via (by assumption) (by assumption))).symm
    | exact (f3 (via (by assumption) (by assumption))).symm
    | exact (f4 (via (by assumption) (by assumption))).symm
    | skip
  all_goals (have hsi : i = sn b := by omega)
  all_goals subst hsi
  all_goals
    have ht := f6 hok (via (by assumption) (by assumption)) (via (by assumption) (by assumption))
    clear f6 f1 f2 f3 f4 cS cF cJ hXk hX hT hmm hok
    subst hcm
    simp only [GFun.jump, GJump.leads] at f5 ht
    simp only [decide_eq_true_eq, decide_eq_false_iff_not] at *
    grind [rCm]

end Go.Proofs.Ytbimggeapaaliaa
