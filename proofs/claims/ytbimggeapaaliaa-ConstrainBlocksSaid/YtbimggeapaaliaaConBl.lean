/- ConstrainBlocks: with a print more at the end of a block the constraints are the same, for every function and block. No condition. -/
import Derived.Test.YtbimggeapaaliaaSvD
import Derived.Test.YtbimggeapaaliaaSvE
import Derived.Test.YtbimggeapaaliaaSxM
import Derived.Test.YtbimggeapaaliaaOpenF
/- Layer 19: which functions the laws consider. No condition. -/
namespace Go.Proofs.Ytbimggeapaaliaa
open Go.RowKit
set_option linter.unusedVariables false
set_option linter.unusedSimpArgs false

def fitB (F : GFun) : Bool := !greatB F && (!gfB F && decide (rchkV F = 0))
theorem fit_ok {F : GFun} (h : fitB F = true) : F.Ok := by
  simp only [fitB, Bool.and_eq_true, decide_eq_true_eq] at h
  exact (rchk_eq F).symm.trans h.2.2
set_option maxRecDepth 100000 in
set_option maxHeartbeats 4000000 in
theorem fitC (F : GFun) (w : World) (hF : F.At w) (hK : F.Ty8) :
    Calls Try.prog 7 #[F.val] w (Ret w (.bool (fitB F))) := by
  have h1 (wc : World) (hk : KB ⟨w, []⟩ wc) := greatC F wc (hF.later hk)
  have h2 (wc : World) (hk : KB ⟨w, []⟩ wc) := gfC F wc (hF.later hk)
  have h3 (wc : World) (hk : KB ⟨w, []⟩ wc) := rFnChk F wc (hF.later hk) hK
  unfold fitB
  obtain ⟨q1, hq1⟩ : ∃ b, b = greatB F := ⟨_, rfl⟩
  obtain ⟨q2, hq2⟩ : ∃ b, b = gfB F := ⟨_, rfl⟩
  obtain ⟨q3, hq3⟩ : ∃ b, b = rchkV F := ⟨_, rfl⟩
  rw [← hq1] at h1 ⊢
  rw [← hq2] at h2 ⊢
  rw [← hq3] at h3 ⊢
  clear hq1 hq2 hq3 hK
  obtain ⟨pa, un, lA, ln, lc, lk, lt, bA, bn, bc, sA, sn, sc, s, jA, jn, jc, ja, jk, jo, jf, jx, je, jd⟩ := F
  obtain ⟨hX, hl, hb, hs, hj⟩ := hF
  simp only at hl hb hs hj
  refine go_start (args := [.pt (.agg (GFun.dat _))]) (c := (funX _)) Try.func7 rfl hX rfl rfl ?_
  obtain ⟨nd, hnd⟩ : ∃ f : Bool → Bool → Bool, f = and := ⟨_, rfl⟩
  obtain ⟨nt, hnt⟩ : ∃ f : Bool → Bool, f = not := ⟨_, rfl⟩
  obtain ⟨ar, har⟩ : ∃ f : BinOp → IntKind → Int → Int → Int, f = rAr := ⟨_, rfl⟩
  obtain ⟨cm, hcm⟩ : ∃ f : BinOp → Int → Int → Bool, f = rCm := ⟨_, rfl⟩
  obtain ⟨mx, hmx⟩ : ∃ f : Int → Int → Int, f = rMx := ⟨_, rfl⟩
  obtain ⟨mn, hmn⟩ : ∃ f : Int → Int → Int, f = rMn := ⟨_, rfl⟩
  have ar01 : ar .add .i64 0 1 = 1 := by rw [har]; decide
  have ar12 : ar .add .i64 1 1 = 2 := by rw [har]; decide
  obtain ⟨zpl, hzpl⟩ : ∃ f : Nat → Nat → Nat, f = fun x y => x + y := ⟨_, rfl⟩
  obtain ⟨zjn, hzjn⟩ : ∃ f : Nat → (Nat → List SC) → (Nat → List SC) → Nat → List SC, f = rJn := ⟨_, rfl⟩
  obtain ⟨zup, hzup⟩ : ∃ f : (Nat → List SC) → Nat → Nat → List SC → Nat → List SC, f = rUp := ⟨_, rfl⟩
  obtain ⟨zmi, hzmi⟩ : ∃ f : Nat → Nat → Nat, f = fun x y => x - y := ⟨_, rfl⟩
  obtain ⟨zdp, hzdp⟩ : ∃ f : Nat → (Nat → List SC) → Nat → List SC, f = rDp := ⟨_, rfl⟩
  have hT := T0_ok hnd hnt har hcm hmx hmn hzpl hzjn hzup hzmi hzdp
  repeat' (first
    | ((with_reducible apply go_ev hT 400); (· (cbv; try rfl)); (fail_if_success with_reducible apply stuck_id))
    | ((with_reducible refine go_brt ?_ ?_); (· first | rfl | assumption | (rw [hcm]; decide)))
    | ((with_reducible refine go_brf ?_ ?_); (· first | rfl | assumption | (rw [hcm]; decide)))
    | ((with_reducible refine go_brnt hnt ?_ ?_); (· first | rfl | assumption))
    | ((with_reducible refine go_brnf hnt ?_ ?_); (· first | rfl | assumption))
    | (with_reducible refine go_brn hnt (fun h => ?_) (fun h => ?_))
    | (with_reducible refine go_brl hcm (fun hlt => ?_) (fun hge => ?_))
    | (with_reducible refine go_br (fun h => ?_) (fun h => ?_))
    | ((with_reducible apply go_ret_val hT); (· (cbv; try rfl)); (· (cbv; try rfl)))
    | ((with_reducible apply go_fin_val hT); (· (cbv; try rfl)); (· (cbv; try rfl)))
    | ((with_reducible apply go_draw); (· rfl); (· kernel_rfl); (· kernel_rfl))
    | ((with_reducible apply go_drawE); (· kernel_rfl))
    | (with_reducible refine go_fork ?_)
    | (with_reducible refine fork_cons ?_ ?_)
    | (with_reducible exact fork_nil)
    | ((with_reducible refine go_need ?_ ?_ ?_); (· first | omega | (simp only [Int.ofNat_eq_natCast]; omega)); (· first | omega | (simp only [Int.ofNat_eq_natCast]; omega)))
    | ((with_reducible refine go_ob ?_ ?_); (· first | trivial | (refine ⟨trivial, ?_⟩; omega) | (rw [hzpl]; refine ⟨trivial, ?_⟩; show _ + _ ≤ 1073741824; omega) | (rw [hzpl]; show _ + _ ≤ 1073741824; omega)))
    | ((with_reducible apply go_ret_rows hT); (· (cbv; try rfl)); (· (cbv; try rfl)); (· (cbv; (try simp only [true_and, and_true]); (try ((repeat' apply And.intro) <;> (first | trivial | rfl | decide ))))); (· (cbv; (try simp only [true_and, and_true]); (try ((repeat' apply And.intro) <;> (first | trivial | rfl | exact RowLe.rfl' _ ))))); (· rfl))
    | ((with_reducible apply go_fin_rows hT); (· (cbv; try rfl)); (· (cbv; try rfl)); (· (cbv; (try simp only [true_and, and_true]); (try ((repeat' apply And.intro) <;> (first | trivial | rfl | decide ))))); (· (cbv; (try simp only [true_and, and_true]); (try ((repeat' apply And.intro) <;> (first | trivial | rfl | exact RowLe.rfl' _ ))))); (· rfl))
    | ((with_reducible apply go_call_bool (f := 20) (hf := Try.call20)); (· (cbv; try rfl)); (· intro wc hbc hxc; exact h1 wc hbc); intro z hz)
    | ((with_reducible apply go_callq_bool (f := 20) (hf := Try.call20)); (· (cbv; try rfl)); (· intro wc hbc hxc; exact h1 wc hbc); intro z hz)
    | ((with_reducible apply go_call_bool (f := 21) (hf := Try.call21)); (· (cbv; try rfl)); (· intro wc hbc hxc; exact h2 wc hbc); intro z hz)
    | ((with_reducible apply go_callq_bool (f := 21) (hf := Try.call21)); (· (cbv; try rfl)); (· intro wc hbc hxc; exact h2 wc hbc); intro z hz)
    | ((with_reducible apply go_call_int (f := 14) (hf := Try.call14)); (· (cbv; try rfl)); (· intro wc hbc hxc; exact h3 wc hbc); intro z hz)
    | ((with_reducible apply go_callq_int (f := 14) (hf := Try.call14)); (· (cbv; try rfl)); (· intro wc hbc hxc; exact h3 wc hbc); intro z hz)
    )
  all_goals (refine bool_eq ?_; clear hX hT h1 h2 h3; subst hnd hnt; subst_vars; simp_all)

set_option maxRecDepth 100000 in
theorem localC (n : Int) (w : World) :
    Calls Try.prog 12 #[.int .i64 n] w (Ret w (.agg #[.int .i64 n, .bool false, .int .u8 0])) := by
  refine go_start (args := [.pt (.one (.int .i64 n))]) (c := NoRows) Try.func12 rfl (noRows_ok _) rfl rfl ?_
  obtain ⟨nd, hnd⟩ : ∃ f : Bool → Bool → Bool, f = and := ⟨_, rfl⟩
  obtain ⟨nt, hnt⟩ : ∃ f : Bool → Bool, f = not := ⟨_, rfl⟩
  obtain ⟨ar, har⟩ : ∃ f : BinOp → IntKind → Int → Int → Int, f = rAr := ⟨_, rfl⟩
  obtain ⟨cm, hcm⟩ : ∃ f : BinOp → Int → Int → Bool, f = rCm := ⟨_, rfl⟩
  obtain ⟨mx, hmx⟩ : ∃ f : Int → Int → Int, f = rMx := ⟨_, rfl⟩
  obtain ⟨mn, hmn⟩ : ∃ f : Int → Int → Int, f = rMn := ⟨_, rfl⟩
  have ar01 : ar .add .i64 0 1 = 1 := by rw [har]; decide
  have ar12 : ar .add .i64 1 1 = 2 := by rw [har]; decide
  obtain ⟨zpl, hzpl⟩ : ∃ f : Nat → Nat → Nat, f = fun x y => x + y := ⟨_, rfl⟩
  obtain ⟨zjn, hzjn⟩ : ∃ f : Nat → (Nat → List SC) → (Nat → List SC) → Nat → List SC, f = rJn := ⟨_, rfl⟩
  obtain ⟨zup, hzup⟩ : ∃ f : (Nat → List SC) → Nat → Nat → List SC → Nat → List SC, f = rUp := ⟨_, rfl⟩
  obtain ⟨zmi, hzmi⟩ : ∃ f : Nat → Nat → Nat, f = fun x y => x - y := ⟨_, rfl⟩
  obtain ⟨zdp, hzdp⟩ : ∃ f : Nat → (Nat → List SC) → Nat → List SC, f = rDp := ⟨_, rfl⟩
  have hT := T0_ok hnd hnt har hcm hmx hmn hzpl hzjn hzup hzmi hzdp
  repeat' (first
    | ((with_reducible apply go_ev hT 400); (· (cbv; try rfl)); (fail_if_success with_reducible apply stuck_id))
    | ((with_reducible refine go_brt ?_ ?_); (· first | rfl | assumption | (rw [hcm]; decide)))
    | ((with_reducible refine go_brf ?_ ?_); (· first | rfl | assumption | (rw [hcm]; decide)))
    | ((with_reducible refine go_brnt hnt ?_ ?_); (· first | rfl | assumption))
    | ((with_reducible refine go_brnf hnt ?_ ?_); (· first | rfl | assumption))
    | (with_reducible refine go_brn hnt (fun h => ?_) (fun h => ?_))
    | (with_reducible refine go_brl hcm (fun hlt => ?_) (fun hge => ?_))
    | (with_reducible refine go_br (fun h => ?_) (fun h => ?_))
    | ((with_reducible apply go_ret_val hT); (· (cbv; try rfl)); (· (cbv; try rfl)))
    | ((with_reducible apply go_fin_val hT); (· (cbv; try rfl)); (· (cbv; try rfl)))
    | ((with_reducible apply go_draw); (· rfl); (· kernel_rfl); (· kernel_rfl))
    | ((with_reducible apply go_drawE); (· kernel_rfl))
    | (with_reducible refine go_fork ?_)
    | (with_reducible refine fork_cons ?_ ?_)
    | (with_reducible exact fork_nil)
    | ((with_reducible refine go_need ?_ ?_ ?_); (· first | omega | (simp only [Int.ofNat_eq_natCast]; omega)); (· first | omega | (simp only [Int.ofNat_eq_natCast]; omega)))
    | ((with_reducible refine go_ob ?_ ?_); (· first | trivial | (refine ⟨trivial, ?_⟩; omega) | (rw [hzpl]; refine ⟨trivial, ?_⟩; show _ + _ ≤ 1073741824; omega) | (rw [hzpl]; show _ + _ ≤ 1073741824; omega)))
    | ((with_reducible apply go_ret_rows hT); (· (cbv; try rfl)); (· (cbv; try rfl)); (· (cbv; (try simp only [true_and, and_true]); (try ((repeat' apply And.intro) <;> (first | trivial | rfl | decide ))))); (· (cbv; (try simp only [true_and, and_true]); (try ((repeat' apply And.intro) <;> (first | trivial | rfl | exact RowLe.rfl' _ ))))); (· rfl))
    | ((with_reducible apply go_fin_rows hT); (· (cbv; try rfl)); (· (cbv; try rfl)); (· (cbv; (try simp only [true_and, and_true]); (try ((repeat' apply And.intro) <;> (first | trivial | rfl | decide ))))); (· (cbv; (try simp only [true_and, and_true]); (try ((repeat' apply And.intro) <;> (first | trivial | rfl | exact RowLe.rfl' _ ))))); (· rfl))
    )
  all_goals rfl

end Go.Proofs.Ytbimggeapaaliaa

/- Functions with a statement more: points, constraints. No condition. -/
namespace Go.Proofs.Ytbimggeapaaliaa
open Go.RowKit
set_option linter.unusedVariables false
set_option linter.unusedSimpArgs false

/-- With the statement t more, the i0-th of the block b0. -/
def GFun.ins (F : GFun) (b0 i0 : Nat) (t : GStmt) : GFun := { F with
  sn := fun b => if b = b0 then F.sn b + 1 else F.sn b
  s := fun b i => if b = b0 then (if i < i0 then F.s b i else if i = i0 then t else F.s b (i - 1)) else F.s b i }
section
variable {F : GFun} {b0 i0 : Nat} {t : GStmt}
theorem ins_st : ∀ b, stN (F.ins b0 i0 t).sn b = stN F.sn b + if b0 < b then 1 else 0
  | 0 => by simp [stN]
  | b + 1 => by
    simp only [stN, ins_st b]
    simp only [GFun.ins]
    by_cases h : b = b0
    · subst h; simp; omega
    · rw [if_neg h]
      by_cases h' : b0 < b
      · rw [if_pos h', if_pos (by omega)]; omega
      · rw [if_neg h', if_neg (by omega)]; omega
theorem ins_sn (b : Nat) : (F.ins b0 i0 t).sn b = if b = b0 then F.sn b + 1 else F.sn b := rfl
theorem ins_bn : (F.ins b0 i0 t).bn = F.bn := rfl
theorem at_is {F : GFun} {b i : Nat} (hb : b < F.bn) (hi : i ≤ F.sn b) : isAt F (stN F.sn b + i) = decide (i < F.sn b) ∧ stAt F (stN F.sn b + i) = if i < F.sn b then F.s b i else .zero := by
  obtain ⟨h1, h2⟩ := at_num hb hi
  simp only [isAt, stAt, h1, h2]
  exact ⟨trivial, trivial⟩
/-- Ahead of it all is as it was. -/
theorem ins_lt (hb0 : b0 < F.bn) (hi0 : i0 ≤ F.sn b0) {n : Nat} (hn : n < stN F.sn b0 + i0) : isAt (F.ins b0 i0 t) n = isAt F n ∧ stAt (F.ins b0 i0 t) n = stAt F n := by
  have hN : n < stN F.sn F.bn := by have := stN_lt hb0 hi0; omega
  obtain ⟨h1, h2, h3⟩ := num_pt hN
  generalize pbN F n = b at h1 h2 h3
  generalize piN F n = i at h2 h3
  subst h3
  have hb : b ≤ b0 := by
    rcases Nat.lt_or_ge b0 b with g | g
    · have := stN_le_of (sn := F.sn) (show b0 + 1 ≤ b from g); simp only [stN] at this; omega
    · exact g
  have e : stN F.sn b + i = stN (F.ins b0 i0 t).sn b + i := by rw [ins_st, if_neg (by omega)]; omega
  have hi' : i ≤ (F.ins b0 i0 t).sn b := by rw [ins_sn]; split <;> omega
  obtain ⟨a1, a2⟩ := at_is (F := F) h1 h2
  obtain ⟨c1, c2⟩ := at_is (F := F.ins b0 i0 t) (b := b) h1 hi'
  rw [← e] at c1 c2
  rw [a1, a2, c1, c2, ins_sn]
  by_cases g : b = b0
  · subst g
    have hlt : i < i0 := by omega
    simp only [if_true, GFun.ins, if_pos hlt]
    rw [if_pos (show i < F.sn b + 1 by omega), if_pos (show i < F.sn b by omega)]
    exact ⟨by simp; omega, rfl⟩
  · simp only [if_neg g, GFun.ins]; exact ⟨trivial, trivial⟩
theorem ins_eq (hb0 : b0 < F.bn) (hi0 : i0 ≤ F.sn b0) : isAt (F.ins b0 i0 t) (stN F.sn b0 + i0) = true ∧ stAt (F.ins b0 i0 t) (stN F.sn b0 + i0) = t := by
  have e : stN F.sn b0 + i0 = stN (F.ins b0 i0 t).sn b0 + i0 := by rw [ins_st, if_neg (by omega)]; omega
  obtain ⟨c1, c2⟩ := at_is (F := F.ins b0 i0 t) (b := b0) (i := i0) hb0 (by rw [ins_sn, if_pos rfl]; omega)
  rw [← e] at c1 c2
  rw [c1, c2, ins_sn, if_pos rfl, if_pos (by omega)]
  refine ⟨by simp; omega, ?_⟩
  simp [GFun.ins]
/-- Behind it, one later. -/
theorem ins_gt (hb0 : b0 < F.bn) (hi0 : i0 ≤ F.sn b0) {n : Nat} (hn : stN F.sn b0 + i0 ≤ n) (hN : n < stN F.sn F.bn) : isAt (F.ins b0 i0 t) (n + 1) = isAt F n ∧ stAt (F.ins b0 i0 t) (n + 1) = stAt F n := by
  obtain ⟨h1, h2, h3⟩ := num_pt hN
  generalize pbN F n = b at h1 h2 h3
  generalize piN F n = i at h2 h3
  subst h3
  have hb : b0 ≤ b := by
    rcases Nat.lt_or_ge b b0 with g | g
    · have := stN_le_of (sn := F.sn) (show b + 1 ≤ b0 from g); simp only [stN] at this; omega
    · exact g
  obtain ⟨a1, a2⟩ := at_is (F := F) h1 h2
  by_cases g : b = b0
  · subst g
    have e : stN F.sn b + i + 1 = stN (F.ins b i0 t).sn b + (i + 1) := by rw [ins_st, if_neg (by omega)]; omega
    obtain ⟨c1, c2⟩ := at_is (F := F.ins b i0 t) (b := b) (i := i + 1) h1 (by rw [ins_sn, if_pos rfl]; omega)
    rw [← e] at c1 c2
    rw [a1, a2, c1, c2, ins_sn, if_pos rfl]
    simp only [GFun.ins, if_true, Nat.add_sub_cancel]
    rw [if_neg (show ¬ i + 1 < i0 by omega), if_neg (show ¬ i + 1 = i0 by omega)]
    refine ⟨by simp, ?_⟩
    by_cases g : i < F.sn b
    · rw [if_pos g, if_pos (by omega)]
    · rw [if_neg g, if_neg (by omega)]
  · have e : stN F.sn b + i + 1 = stN (F.ins b0 i0 t).sn b + i := by rw [ins_st, if_pos (by omega)]; omega
    obtain ⟨c1, c2⟩ := at_is (F := F.ins b0 i0 t) (b := b) (i := i) h1 (by rw [ins_sn, if_neg g]; exact h2)
    rw [← e] at c1 c2
    rw [a1, a2, c1, c2, ins_sn, if_neg g]
    simp only [GFun.ins, if_neg g]; exact ⟨trivial, trivial⟩
theorem ins_N (hb0 : b0 < F.bn) : stN (F.ins b0 i0 t).sn (F.ins b0 i0 t).bn = stN F.sn F.bn + 1 := by
  rw [ins_st, ins_bn, if_pos hb0]
/-- A constraint of a later point. -/
def KCon.shift (n : Nat) (c : KCon) : KCon := if (n : Int) ≤ c.at_ then ⟨c.fr, c.to, c.at_ + 1, c.why⟩ else c
theorem ofL_at {lk : Nat → Int} {s : GStmt} {a l : Int} : ∀ c ∈ ofL lk s a l, c.at_ = a := fun c hc => by
  unfold ofL at hc
  split at hc
  · split at hc
    · simp only [List.mem_cons] at hc
      rcases hc with rfl | hc
      · rfl
      · split at hc
        · simp only [List.mem_cons, List.not_mem_nil, or_false] at hc; subst hc; rfl
        · simp at hc
    · split at hc
      · simp only [List.mem_cons, List.not_mem_nil, or_false] at hc; subst hc; rfl
      · simp at hc
  · simp at hc
theorem ofL_shift {lk : Nat → Int} {s : GStmt} {n m : Nat} {l : Int} (h : m ≤ n) : ofL lk s (.ofNat (n + 1)) l = (ofL lk s (.ofNat n) l).map (KCon.shift m) := by
  have e : ∀ f o y, KCon.shift m ⟨f, o, .ofNat n, y⟩ = ⟨f, o, .ofNat (n + 1), y⟩ := fun f o y => by
    unfold KCon.shift
    simp only [Int.ofNat_eq_natCast]
    rw [if_pos (by omega)]; rfl
  unfold ofL
  split
  · split
    · split <;> simp only [List.map_cons, List.map_nil, e]
    · split <;> simp only [List.map_cons, List.map_nil, e]
  · rfl
theorem ins_low (hb0 : b0 < F.bn) (hi0 : i0 ≤ F.sn b0) : ∀ n, n ≤ stN F.sn b0 + i0 → loanPts (F.ins b0 i0 t) n = loanPts F n ∧ conTo (F.ins b0 i0 t) n = conTo F n
  | 0, _ => ⟨rfl, rfl⟩
  | n + 1, h => by
    obtain ⟨h1, h2⟩ := ins_low hb0 hi0 n (by omega)
    obtain ⟨h3, h4⟩ := ins_lt (t := t) hb0 hi0 (n := n) (by omega)
    simp only [loanPts, conTo, conN, h1, h2, h3, h4]
    exact ⟨trivial, rfl⟩
theorem conTo_shift0 (m : Nat) : ∀ n, n ≤ m → (conTo F n).map (KCon.shift m) = conTo F n
  | 0, _ => rfl
  | n + 1, h => by
    simp only [conTo, List.map_append, conTo_shift0 m n (by omega)]
    congr 1
    unfold conN
    split
    · refine (List.map_congr_left (g := id) fun c hc => ?_).trans (List.map_id _)
      have := ofL_at c hc
      unfold KCon.shift
      rw [if_neg (by rw [this]; simp only [Int.ofNat_eq_natCast]; omega)]; rfl
    · rfl
theorem ins_high (hb0 : b0 < F.bn) (hi0 : i0 ≤ F.sn b0) (ht : t.k ≠ 1) : ∀ n, stN F.sn b0 + i0 ≤ n → n ≤ stN F.sn F.bn → (loanPts (F.ins b0 i0 t) (n + 1)).length = (loanPts F n).length ∧ conTo (F.ins b0 i0 t) (n + 1) = (conTo F n).map (KCon.shift (stN F.sn b0 + i0)) := by
  intro n
  induction n with
  | zero =>
    intro h _
    have e0 : stN F.sn b0 + i0 = 0 := by omega
    obtain ⟨h1, h2⟩ := ins_eq (t := t) hb0 hi0
    rw [e0] at h1 h2
    rw [e0]
    simp only [loanPts, conTo, conN, h1, h2]
    rw [if_neg (fun h => ht h.2.1), if_neg (fun h => ht h.2)]
    exact ⟨rfl, rfl⟩
  | succ n ih =>
    intro h hN
    by_cases g : stN F.sn b0 + i0 = n + 1
    · obtain ⟨h1, h2⟩ := ins_eq (t := t) hb0 hi0
      obtain ⟨h3, h4⟩ := ins_low (t := t) hb0 hi0 (n + 1) (by omega)
      rw [g] at h1 h2
      rw [g, conTo_shift0 (n + 1) (n + 1) (Nat.le_refl _)]
      have e1 : loanPts (F.ins b0 i0 t) (n + 1 + 1) = loanPts (F.ins b0 i0 t) (n + 1) := by
        rw [show loanPts (F.ins b0 i0 t) (n + 1 + 1) = loanPts (F.ins b0 i0 t) (n + 1) ++ _ from rfl, h1, h2, if_neg (fun h => ht h.2.1)]; simp
      have e2 : conTo (F.ins b0 i0 t) (n + 1 + 1) = conTo (F.ins b0 i0 t) (n + 1) := by
        rw [show conTo (F.ins b0 i0 t) (n + 1 + 1) = conTo (F.ins b0 i0 t) (n + 1) ++ _ from rfl, conN, h1, h2, if_neg (fun h => ht h.2)]; simp
      rw [e1, e2, h3, h4]
      exact ⟨rfl, rfl⟩
    · obtain ⟨h1, h2⟩ := ih (by omega) (by omega)
      obtain ⟨h3, h4⟩ := ins_gt (t := t) hb0 hi0 (n := n) (by omega) (by omega)
      have e1 : loanPts (F.ins b0 i0 t) (n + 1 + 1) = loanPts (F.ins b0 i0 t) (n + 1) ++ _ := rfl
      have e2 : loanPts F (n + 1) = loanPts F n ++ _ := rfl
      have e3 : conTo (F.ins b0 i0 t) (n + 1 + 1) = conTo (F.ins b0 i0 t) (n + 1) ++ _ := rfl
      have e4 : conTo F (n + 1) = conTo F n ++ _ := rfl
      rw [e1, e2, e3, e4, h3, h4, List.length_append, List.length_append, List.map_append, h1, h2]
      refine ⟨?_, ?_⟩
      · congr 1; split <;> rfl
      · congr 1
        unfold conN
        rw [h3, h4, h1]
        split
        · exact ofL_shift (by omega)
        · rfl
theorem ins_con (hb0 : b0 < F.bn) (hi0 : i0 ≤ F.sn b0) (ht : t.k ≠ 1) : allCon (F.ins b0 i0 t) = (allCon F).map (KCon.shift (stN F.sn b0 + i0)) := by
  rw [allCon_to, allCon_to, ins_N hb0]
  exact (ins_high hb0 hi0 ht _ (by have := stN_lt hb0 hi0; omega) (Nat.le_refl _)).2
end

end Go.Proofs.Ytbimggeapaaliaa

/- Functions whose blocks lie in a row of the call's own. No condition. -/
namespace Go.Proofs.Ytbimggeapaaliaa
open Go.RowKit
set_option linter.unusedVariables false
set_option linter.unusedSimpArgs false

/-- What such a slice gives to the rows of the outside, its cells as they are. -/
theorem RowIs.rowG {c : Nat → Nat → Row} {w : World} {R : ORow} {a : Option Addr} {cap : Nat} (h : RowIs c w R (.slice a R.n cap)) {j : Nat} (hj : j < R.n) :
    ∃ b p, a = some ⟨b, p, none⟩ ∧ b < w.heap.size ∧ ∃ vs, isL ⟨[], c, []⟩ (R.el j) vs ∧ ∀ (t : Nat) (v : Value), vs[t]? = some v → w.cell? ⟨b, p + (j * R.es + t), none⟩ = some v := by
  obtain ⟨xs, hO, hE, hb⟩ := h
  rcases hO.2.2 with ⟨_, h0⟩ | ⟨g, o, cap', cur, ty, hv, hg, rest⟩
  · omega
  · cases hv
    refine ⟨g, o, rfl, hb g rfl, _, hE j hj, fun t v ht => ?_⟩
    simp only [List.getElem?_take, List.getElem?_drop] at ht
    split at ht
    · exact hO.cell ht
    · cases ht
theorem isL_each {e e' : Env} : ∀ {l : List SC} {vs : List Value}, (∀ c ∈ l, ∀ v, c.is e v → c.is e' v) → isL e l vs → isL e' l vs
  | [], [], _, _ => trivial
  | c :: l, v :: vs, hm, h => ⟨hm c List.mem_cons_self v h.1, isL_each (fun x hx => hm x (List.mem_cons_of_mem _ hx)) h.2⟩
  | [], _ :: _, _, h => h.elim
  | _ :: _, [], _, h => h.elim
/-- The function with its blocks elsewhere. -/
def GFun.withB (F : GFun) (a : Option Addr) (c : Nat) : GFun := { F with bA := a, bc := c }
theorem GFun.at_row {c : Nat → Nat → Row} {w : World} {F : GFun} {v : Value} {R : ORow} (hx : XOk ⟨[], c, []⟩ ⟨w, []⟩) (hR : RowIs c w R v) (hn : R.n = F.bn) (hes : R.es = 14)
    (hcell : ∀ b, b < F.bn → ∀ vs, isL ⟨[], c, []⟩ (R.el b) vs → isL ⟨[], funX F, []⟩ (F.blkC b) vs)
    (hl : c 0 0 = funX F 0 0) (hs : ∀ b, ∃ q i, c q i = funX F 2 b) (hj : ∀ b, ∃ q i, c q i = funX F 3 b)
    (h1 : F.ln ≤ 9223372036854775807) (h2 : F.bn ≤ 9223372036854775807) (h3 : ∀ b, F.sn b ≤ 9223372036854775807) (h4 : ∀ b, F.jn b ≤ 9223372036854775807) :
    ∃ a cap, v = .slice a F.bn cap ∧ (F.withB a cap).At w := by
  obtain ⟨a, cap, rfl⟩ := hR.form
  refine ⟨a, cap, by rw [hn], ⟨fun q i j hlt => ?_, h1, h2, h3, h4⟩⟩
  match q, hlt with
  | 0, hlt =>
    have hlt : j < (funX F 0 0).n := hlt
    have := hx 0 0 j (by simp only [hl]; exact hlt)
    simp only [hl] at this
    obtain ⟨b, p, f1, f2, f3, vs, f4, f5⟩ := this
    exact ⟨b, p, f1, f2, f3, vs, plainL_is rfl f4, f5⟩
  | 1, hlt =>
    have hlt : j < F.bn := hlt
    obtain ⟨b, p, f1, f2, vs, f4, f5⟩ := hR.rowG (j := j) (by omega)
    rw [hes] at f5
    refine ⟨b, p, f1, f2, by simp, vs, isL_each (l := F.blkC j) (fun x hx v hv => ?_) (hcell j hlt vs f4), f5⟩
    simp only [GFun.blkC, List.mem_cons, List.not_mem_nil, or_false] at hx
    rcases hx with rfl | rfl | rfl | rfl | rfl | rfl | rfl | rfl | rfl | rfl | rfl | rfl | rfl | rfl <;> exact hv
  | 2, hlt =>
    have hlt : j < (funX F 2 i).n := hlt
    obtain ⟨q', i', e⟩ := hs i
    have := hx q' i' j (by simp only [e]; exact hlt)
    simp only [e] at this
    obtain ⟨b, p, f1, f2, f3, vs, f4, f5⟩ := this
    exact ⟨b, p, f1, f2, f3, vs, plainL_is rfl f4, f5⟩
  | q + 3, hlt =>
    have hlt : j < (funX F 3 i).n := hlt
    obtain ⟨q', i', e⟩ := hj i
    have := hx q' i' j (by simp only [e]; exact hlt)
    simp only [e] at this
    obtain ⟨b, p, f1, f2, f3, vs, f4, f5⟩ := this
    exact ⟨b, p, f1, f2, f3, vs, plainL_is rfl f4, f5⟩
/-- With the statements of a block elsewhere. -/
def GFun.withS (F : GFun) (b0 : Nat) (a : Option Addr) (c : Nat) : GFun := { F with sA := fun b => if b = b0 then a else F.sA b, sc := fun b => if b = b0 then c else F.sc b }
/-- The function elsewhere in memory. -/
def GFun.moved (F : GFun) (lA : Option Addr) (lc : Nat) (bA : Option Addr) (bc : Nat) (sA : Nat → Option Addr) (sc : Nat → Nat) (jA : Nat → Option Addr) (jc : Nat → Nat) : GFun := { F with lA := lA, lc := lc, bA := bA, bc := bc, sA := sA, sc := sc, jA := jA, jc := jc }
section
variable (F : GFun) (lA : Option Addr) (lc : Nat) (bA : Option Addr) (bc : Nat) (sA : Nat → Option Addr) (sc : Nat → Nat) (jA : Nat → Option Addr) (jc : Nat → Nat)
theorem rightB_moved : ∀ n, rightB (F.moved lA lc bA bc sA sc jA jc) n = rightB F n
  | 0 => rfl
  | n + 1 => by simp only [rightB, rightB_moved n]; rfl
theorem allTwo_moved : ∀ n, allTwo (F.moved lA lc bA bc sA sc jA jc) n = allTwo F n
  | 0 => rfl
  | n + 1 => by simp only [allTwo, allTwo_moved n]; rfl
theorem fchkV_moved : fchkV (F.moved lA lc bA bc sA sc jA jc) = fchkV F := by
  have h1 : largeB (F.moved lA lc bA bc sA sc jA jc) = largeB F := rfl
  have h2 : madeB (F.moved lA lc bA bc sA sc jA jc) = madeB F := by
    unfold madeB
    rw [rightB_moved]; rfl
  have h3 : twosB (F.moved lA lc bA bc sA sc jA jc) = twosB F := by
    unfold twosB
    rw [allTwo_moved]; rfl
  unfold fchkV
  rw [h1, h2, h3]
theorem allCon_moved : allCon (F.moved lA lc bA bc sA sc jA jc) = allCon F := rfl
theorem rchkV_moved : rchkV (F.moved lA lc bA bc sA sc jA jc) = rchkV F := by rw [rchk_eq, rchk_eq, fchkV_moved]
end

end Go.Proofs.Ytbimggeapaaliaa

/- Layer 19: a print more at the end of a block. No condition. -/
namespace Go.Proofs.Ytbimggeapaaliaa
open Go.RowKit
set_option linter.unusedVariables false
set_option linter.unusedSimpArgs false

/-- The print's cells, as a literal has them. -/
def prC : List SC := [.int .u8 2, .int .i64 0, .lit false, .int .u8 0, .int .u8 0, .int .u8 0, .int .u8 0, .int .u8 0, .int .i64 0, .int .i64 0, .lit false, .int .u8 0, .int .u8 0, .int .i64 0, .int .i64 0, .lit false, .int .u8 0, .int .i64 0, .lit false, .int .u8 0, .int .u8 1, .int .i64 0, .int .i64 0, .lit false, .int .u8 0, .int .i64 0]
def prS : GStmt := ⟨2, .zero, .zero, ⟨1, 0, .zero⟩, 0⟩
/-- The function with the print more, where its statements lie. -/
def insF (F : GFun) (b0 : Nat) : GFun := F.ins b0 (F.sn b0) prS
def insG (F : GFun) (b0 : Nat) (y : Option Addr × Nat) : Nat → Nat → Row := fun p i => if p = 0 ∧ i = 0 then ⟨y.1, F.sn b0 + 1, y.2, 26, fun i => ((insF F b0).s b0 i).sc⟩ else ⟨none, 0, 0, 0, fun _ => []⟩
def insQ (F : GFun) (b0 : Nat) (y : Option Addr × Nat) : Nat → List SC := rUp F.blkC b0 0 [.val (.slice y.1 (F.sn b0 + 1) y.2)]
theorem prC_le : leCL (cutL prC (0 + 0 * 26) 26) prS.sc := by
  cbv
theorem ins_more {F : GFun} {b0 : Nat} {y : Option Addr × Nat} {wc : World} {v : Value} (hs : ∀ b, F.sn b ≤ 9223372036854775807) (hs0 : F.sn b0 ≤ 24) (hF : F.At wc) (hx : XOk ⟨[], chiG (funX F) 4 (insG F b0 y), []⟩ ⟨wc, []⟩) (hR : RowIs (chiG (funX F) 4 (insG F b0 y)) wc ⟨F.bn, 14, insQ F b0 y⟩ v) :
    ∃ a cap, v = .slice a F.bn cap ∧ (((insF F b0).withS b0 y.1 y.2).withB a cap).At wc := by
  refine GFun.at_row (F := (insF F b0).withS b0 y.1 y.2) hx hR rfl rfl (fun b hb vs h => ?_) rfl (fun b => ?_) (fun b => ⟨3, b, rfl⟩) hF.l hF.b (fun b => ?_) hF.j
  · simp only [insQ, rUp] at h
    by_cases hbb : b = b0
    · rw [if_pos hbb] at h
      match vs, h with
      | [v0, v1, v2, v3, v4, v5, v6, v7, v8, v9, v10, v11, v12, v13], ⟨h0, h1, h2, h3, h4, h5, h6, h7, h8, h9, h10, h11, h12, h13, _⟩ =>
        refine ⟨?_, h1, h2, h3, h4, h5, h6, h7, h8, h9, h10, h11, h12, h13, trivial⟩
        have h0 : v0 = .slice y.1 (F.sn b0 + 1) y.2 := h0
        show v0 = .slice (if b = b0 then y.1 else F.sA b) (if b = b0 then F.sn b + 1 else F.sn b) (if b = b0 then y.2 else F.sc b)
        rw [h0, if_pos hbb, if_pos hbb, if_pos hbb, hbb]
    · rw [if_neg hbb] at h
      match vs, h with
      | [v0, v1, v2, v3, v4, v5, v6, v7, v8, v9, v10, v11, v12, v13], ⟨h0, h1, h2, h3, h4, h5, h6, h7, h8, h9, h10, h11, h12, h13, _⟩ =>
        refine ⟨?_, h1, h2, h3, h4, h5, h6, h7, h8, h9, h10, h11, h12, h13, trivial⟩
        have h0 : v0 = .slice (F.sA b) (F.sn b) (F.sc b) := h0
        show v0 = .slice (if b = b0 then y.1 else F.sA b) (if b = b0 then F.sn b + 1 else F.sn b) (if b = b0 then y.2 else F.sc b)
        rw [h0, if_neg hbb, if_neg hbb, if_neg hbb]
  · by_cases hbb : b = b0
    · refine ⟨4, 0, ?_⟩
      rw [chiG_ge (Nat.le_refl _)]
      show insG F b0 y 0 0 = (⟨if b = b0 then y.1 else F.sA b, if b = b0 then F.sn b + 1 else F.sn b, if b = b0 then y.2 else F.sc b, 26, fun i => ((insF F b0).s b i).sc⟩ : Row)
      rw [if_pos hbb, if_pos hbb, if_pos hbb, hbb]
      simp only [insG, and_self, if_true]
    · refine ⟨2, b, ?_⟩
      rw [chiG_lt (by omega)]
      show (⟨F.sA b, F.sn b, F.sc b, 26, fun i => (F.s b i).sc⟩ : Row) = (⟨if b = b0 then y.1 else F.sA b, if b = b0 then F.sn b + 1 else F.sn b, if b = b0 then y.2 else F.sc b, 26, fun i => (if b = b0 then (if i < F.sn b0 then F.s b i else if i = F.sn b0 then prS else F.s b (i - 1)) else F.s b i).sc⟩ : Row)
      simp only [if_neg hbb]
  · show (if b = b0 then F.sn b + 1 else F.sn b) ≤ _
    split
    · rename_i e; rw [e]; omega
    · exact hs b
theorem ins_moved {F : GFun} {b0 : Nat} {y : Option Addr × Nat} {a : Option Addr} {cap : Nat} : (((insF F b0).withS b0 y.1 y.2).withB a cap) = (insF F b0).moved F.lA F.lc a cap (fun b => if b = b0 then y.1 else F.sA b) (fun b => if b = b0 then y.2 else F.sc b) F.jA F.jc := rfl
theorem insOk {F : GFun} {b0 : Nat} {y : Option Addr × Nat} {a : Option Addr} {cap : Nat} (h : (insF F b0).Ok) : (((insF F b0).withS b0 y.1 y.2).withB a cap).Ok := by
  rw [ins_moved]; exact (fchkV_moved ..).trans h
theorem ins_check {F : GFun} {b0 : Nat} {y : Option Addr × Nat} {wc : World} {v : Value} (hs0 : F.sn b0 ≤ 24) (hF : F.At wc) (hK : F.Ty8) (hx : XOk ⟨[], chiG (funX F) 4 (insG F b0 y), []⟩ ⟨wc, []⟩) (hR : RowIs (chiG (funX F) 4 (insG F b0 y)) wc ⟨F.bn, 14, insQ F b0 y⟩ v) :
    Calls Try.prog 14 #[.agg #[.int .i64 F.pa, .bool F.un, .slice F.lA F.ln F.lc, v]] wc (Ret wc (.int .i64 (rchkV (insF F b0)))) := by
  obtain ⟨a, cap, rfl, hA⟩ := ins_more hF.s hs0 hF hx hR
  have := rFnChk _ wc hA hK
  rw [ins_moved, rchkV_moved] at this
  exact this
theorem ins_all {F : GFun} {b0 : Nat} {y : Option Addr × Nat} {wc : World} {v : Value} (hs0 : F.sn b0 ≤ 24) (hF : F.At wc) (hO : (insF F b0).Ok) (hx : XOk ⟨[], chiG (funX F) 4 (insG F b0 y), []⟩ ⟨wc, []⟩) (hR : RowIs (chiG (funX F) 4 (insG F b0 y)) wc ⟨F.bn, 14, insQ F b0 y⟩ v) {c : Nat → Nat → Row} :
    Calls Try.prog 8 #[.agg #[.int .i64 F.pa, .bool F.un, .slice F.lA F.ln F.lc, v]] wc (RetR wc c (.tup [.one (.rs 0), .one (.int .i64 0)]) [conR (allCon (insF F b0))]) := by
  obtain ⟨a, cap, rfl, hA⟩ := ins_more hF.s hs0 hF hx hR
  have hO' := insOk (y := y) (a := a) (cap := cap) hO
  rw [ins_moved] at hA hO'
  have := allConC _ wc hA hO'.small hO'.nearS hO'.chk
  rw [allCon_moved] at this
  exact Calls.to (conPlain _) rfl this

attribute [local irreducible] Calls
set_option maxRecDepth 100000 in
set_option maxHeartbeats 8000000 in
theorem blocksC (F : GFun) (w : World) (hF : F.At w) (hK : F.Ty8) (block : Int) :
    Calls Try.prog 5 #[F.val, .int .i64 block] w (Ret w (.bool true)) := by
  have h1 (wc : World) (hk : KB ⟨w, []⟩ wc) := fitC F wc (hF.later hk) hK
  by_cases hO : fitB F = true
  case neg =>
    have e : fitB F = false := by simpa using hO
    rw [e] at h1
    clear hK hO e
    obtain ⟨pa, un, lA, ln, lc, lk, lt, bA, bn, bc, sA, sn, sc, s, jA, jn, jc, ja, jk, jo, jf, jx, je, jd⟩ := F
    obtain ⟨hX, hl, hb, hs, hj⟩ := hF
    simp only at hl hb hs hj
    refine go_start (args := [.pt (.agg (GFun.dat _)), .pt (.one (.int .i64 block))]) (c := (funX _)) Try.func5 rfl hX rfl rfl ?_
    obtain ⟨nd, hnd⟩ : ∃ f : Bool → Bool → Bool, f = and := ⟨_, rfl⟩
    obtain ⟨nt, hnt⟩ : ∃ f : Bool → Bool, f = not := ⟨_, rfl⟩
    obtain ⟨ar, har⟩ : ∃ f : BinOp → IntKind → Int → Int → Int, f = rAr := ⟨_, rfl⟩
    obtain ⟨cm, hcm⟩ : ∃ f : BinOp → Int → Int → Bool, f = rCm := ⟨_, rfl⟩
    obtain ⟨mx, hmx⟩ : ∃ f : Int → Int → Int, f = rMx := ⟨_, rfl⟩
    obtain ⟨mn, hmn⟩ : ∃ f : Int → Int → Int, f = rMn := ⟨_, rfl⟩
    have ar01 : ar .add .i64 0 1 = 1 := by rw [har]; decide
    have ar12 : ar .add .i64 1 1 = 2 := by rw [har]; decide
    obtain ⟨zpl, hzpl⟩ : ∃ f : Nat → Nat → Nat, f = fun x y => x + y := ⟨_, rfl⟩
    obtain ⟨zjn, hzjn⟩ : ∃ f : Nat → (Nat → List SC) → (Nat → List SC) → Nat → List SC, f = rJn := ⟨_, rfl⟩
    obtain ⟨zup, hzup⟩ : ∃ f : (Nat → List SC) → Nat → Nat → List SC → Nat → List SC, f = rUp := ⟨_, rfl⟩
    obtain ⟨zmi, hzmi⟩ : ∃ f : Nat → Nat → Nat, f = fun x y => x - y := ⟨_, rfl⟩
    obtain ⟨zdp, hzdp⟩ : ∃ f : Nat → (Nat → List SC) → Nat → List SC, f = rDp := ⟨_, rfl⟩
    have hT := T0_ok hnd hnt har hcm hmx hmn hzpl hzjn hzup hzmi hzdp
    repeat' (first
      | ((with_reducible apply go_ev hT 400); (· (cbv; try rfl)); (fail_if_success with_reducible apply stuck_id))
      | ((with_reducible refine go_brt ?_ ?_); (· first | rfl | assumption | (rw [hcm]; decide)))
      | ((with_reducible refine go_brf ?_ ?_); (· first | rfl | assumption | (rw [hcm]; decide)))
      | ((with_reducible refine go_brnt hnt ?_ ?_); (· first | rfl | assumption))
      | ((with_reducible refine go_brnf hnt ?_ ?_); (· first | rfl | assumption))
      | (with_reducible refine go_brn hnt (fun h => ?_) (fun h => ?_))
      | (with_reducible refine go_brl hcm (fun hlt => ?_) (fun hge => ?_))
      | (with_reducible refine go_br (fun h => ?_) (fun h => ?_))
      | ((with_reducible apply go_ret_val hT); (· (cbv; try rfl)); (· (cbv; try rfl)))
      | ((with_reducible apply go_fin_val hT); (· (cbv; try rfl)); (· (cbv; try rfl)))
      | ((with_reducible apply go_draw); (· rfl); (· kernel_rfl); (· kernel_rfl))
      | ((with_reducible apply go_drawE); (· kernel_rfl))
      | (with_reducible refine go_fork ?_)
      | (with_reducible refine fork_cons ?_ ?_)
      | (with_reducible exact fork_nil)
      | ((with_reducible refine go_need ?_ ?_ ?_); (· first | omega | (simp only [Int.ofNat_eq_natCast]; omega)); (· first | omega | (simp only [Int.ofNat_eq_natCast]; omega)))
      | ((with_reducible refine go_ob ?_ ?_); (· first | trivial | (refine ⟨trivial, ?_⟩; omega) | (rw [hzpl]; refine ⟨trivial, ?_⟩; show _ + _ ≤ 1073741824; omega) | (rw [hzpl]; show _ + _ ≤ 1073741824; omega)))
      | ((with_reducible apply go_ret_rows hT); (· (cbv; try rfl)); (· (cbv; try rfl)); (· (cbv; (try simp only [true_and, and_true]); (try ((repeat' apply And.intro) <;> (first | trivial | rfl | decide ))))); (· (cbv; (try simp only [true_and, and_true]); (try ((repeat' apply And.intro) <;> (first | trivial | rfl | exact RowLe.rfl' _ ))))); (· rfl))
      | ((with_reducible apply go_fin_rows hT); (· (cbv; try rfl)); (· (cbv; try rfl)); (· (cbv; (try simp only [true_and, and_true]); (try ((repeat' apply And.intro) <;> (first | trivial | rfl | decide ))))); (· (cbv; (try simp only [true_and, and_true]); (try ((repeat' apply And.intro) <;> (first | trivial | rfl | exact RowLe.rfl' _ ))))); (· rfl))
      | ((with_reducible apply go_call (f := 6) (hf := Try.call6)); (· (cbv; try rfl)); (· intro wc hbc hxc; exact aliveC wc))
      | ((with_reducible apply go_callq (f := 6) (hf := Try.call6)); (· (cbv; try rfl)); (· intro wc hbc hxc; exact aliveC wc))
      | ((with_reducible apply go_call (f := 7) (hf := Try.call7)); (· (cbv; try rfl)); (· intro wc hbc hxc; exact h1 wc hbc))
      | ((with_reducible apply go_callq (f := 7) (hf := Try.call7)); (· (cbv; try rfl)); (· intro wc hbc hxc; exact h1 wc hbc))
      )
    all_goals rfl
  rw [hO] at h1
  have hO := fit_ok hO
  by_cases hneg : block < 0
  · clear hK hO
    obtain ⟨pa, un, lA, ln, lc, lk, lt, bA, bn, bc, sA, sn, sc, s, jA, jn, jc, ja, jk, jo, jf, jx, je, jd⟩ := F
    obtain ⟨hX, hl, hb, hs, hj⟩ := hF
    simp only at hl hb hs hj
    refine go_start (args := [.pt (.agg (GFun.dat _)), .pt (.one (.int .i64 block))]) (c := (funX _)) Try.func5 rfl hX rfl rfl ?_
    obtain ⟨nd, hnd⟩ : ∃ f : Bool → Bool → Bool, f = and := ⟨_, rfl⟩
    obtain ⟨nt, hnt⟩ : ∃ f : Bool → Bool, f = not := ⟨_, rfl⟩
    obtain ⟨ar, har⟩ : ∃ f : BinOp → IntKind → Int → Int → Int, f = rAr := ⟨_, rfl⟩
    obtain ⟨cm, hcm⟩ : ∃ f : BinOp → Int → Int → Bool, f = rCm := ⟨_, rfl⟩
    obtain ⟨mx, hmx⟩ : ∃ f : Int → Int → Int, f = rMx := ⟨_, rfl⟩
    obtain ⟨mn, hmn⟩ : ∃ f : Int → Int → Int, f = rMn := ⟨_, rfl⟩
    have ar01 : ar .add .i64 0 1 = 1 := by rw [har]; decide
    have ar12 : ar .add .i64 1 1 = 2 := by rw [har]; decide
    obtain ⟨zpl, hzpl⟩ : ∃ f : Nat → Nat → Nat, f = fun x y => x + y := ⟨_, rfl⟩
    obtain ⟨zjn, hzjn⟩ : ∃ f : Nat → (Nat → List SC) → (Nat → List SC) → Nat → List SC, f = rJn := ⟨_, rfl⟩
    obtain ⟨zup, hzup⟩ : ∃ f : (Nat → List SC) → Nat → Nat → List SC → Nat → List SC, f = rUp := ⟨_, rfl⟩
    obtain ⟨zmi, hzmi⟩ : ∃ f : Nat → Nat → Nat, f = fun x y => x - y := ⟨_, rfl⟩
    obtain ⟨zdp, hzdp⟩ : ∃ f : Nat → (Nat → List SC) → Nat → List SC, f = rDp := ⟨_, rfl⟩
    have hT := T0_ok hnd hnt har hcm hmx hmn hzpl hzjn hzup hzmi hzdp
    have q1 : cm .lss block 0 = true := by rw [hcm]; exact decide_eq_true hneg
    repeat' (first
      | ((with_reducible apply go_ev hT 400); (· (cbv; try rfl)); (fail_if_success with_reducible apply stuck_id))
      | ((with_reducible refine go_brt ?_ ?_); (· first | rfl | assumption | (rw [hcm]; decide)))
      | ((with_reducible refine go_brf ?_ ?_); (· first | rfl | assumption | (rw [hcm]; decide)))
      | ((with_reducible refine go_brnt hnt ?_ ?_); (· first | rfl | assumption))
      | ((with_reducible refine go_brnf hnt ?_ ?_); (· first | rfl | assumption))
      | (with_reducible refine go_brn hnt (fun h => ?_) (fun h => ?_))
      | (with_reducible refine go_brl hcm (fun hlt => ?_) (fun hge => ?_))
      | (with_reducible refine go_br (fun h => ?_) (fun h => ?_))
      | ((with_reducible apply go_ret_val hT); (· (cbv; try rfl)); (· (cbv; try rfl)))
      | ((with_reducible apply go_fin_val hT); (· (cbv; try rfl)); (· (cbv; try rfl)))
      | ((with_reducible apply go_draw); (· rfl); (· kernel_rfl); (· kernel_rfl))
      | ((with_reducible apply go_drawE); (· kernel_rfl))
      | (with_reducible refine go_fork ?_)
      | (with_reducible refine fork_cons ?_ ?_)
      | (with_reducible exact fork_nil)
      | ((with_reducible refine go_need ?_ ?_ ?_); (· first | omega | (simp only [Int.ofNat_eq_natCast]; omega)); (· first | omega | (simp only [Int.ofNat_eq_natCast]; omega)))
      | ((with_reducible refine go_ob ?_ ?_); (· first | trivial | (refine ⟨trivial, ?_⟩; omega) | (rw [hzpl]; refine ⟨trivial, ?_⟩; show _ + _ ≤ 1073741824; omega) | (rw [hzpl]; show _ + _ ≤ 1073741824; omega)))
      | ((with_reducible apply go_ret_rows hT); (· (cbv; try rfl)); (· (cbv; try rfl)); (· (cbv; (try simp only [true_and, and_true]); (try ((repeat' apply And.intro) <;> (first | trivial | rfl | decide ))))); (· (cbv; (try simp only [true_and, and_true]); (try ((repeat' apply And.intro) <;> (first | trivial | rfl | exact RowLe.rfl' _ ))))); (· rfl))
      | ((with_reducible apply go_fin_rows hT); (· (cbv; try rfl)); (· (cbv; try rfl)); (· (cbv; (try simp only [true_and, and_true]); (try ((repeat' apply And.intro) <;> (first | trivial | rfl | decide ))))); (· (cbv; (try simp only [true_and, and_true]); (try ((repeat' apply And.intro) <;> (first | trivial | rfl | exact RowLe.rfl' _ ))))); (· rfl))
      | ((with_reducible apply go_call (f := 6) (hf := Try.call6)); (· (cbv; try rfl)); (· intro wc hbc hxc; exact aliveC wc))
      | ((with_reducible apply go_callq (f := 6) (hf := Try.call6)); (· (cbv; try rfl)); (· intro wc hbc hxc; exact aliveC wc))
      | ((with_reducible apply go_call (f := 7) (hf := Try.call7)); (· (cbv; try rfl)); (· intro wc hbc hxc; exact h1 wc hbc))
      | ((with_reducible apply go_callq (f := 7) (hf := Try.call7)); (· (cbv; try rfl)); (· intro wc hbc hxc; exact h1 wc hbc))
      )
    all_goals rfl
  obtain ⟨b0, rfl⟩ : ∃ n : Nat, block = .ofNat n := ⟨block.toNat, by simp only [Int.ofNat_eq_natCast]; omega⟩
  by_cases hbig : F.bn ≤ b0
  · clear hK hO
    obtain ⟨pa, un, lA, ln, lc, lk, lt, bA, bn, bc, sA, sn, sc, s, jA, jn, jc, ja, jk, jo, jf, jx, je, jd⟩ := F
    obtain ⟨hX, hl, hb, hs, hj⟩ := hF
    simp only at hl hb hs hj
    refine go_start (args := [.pt (.agg (GFun.dat _)), .pt (.one (.int .i64 (.ofNat b0)))]) (c := (funX _)) Try.func5 rfl hX rfl rfl ?_
    obtain ⟨nd, hnd⟩ : ∃ f : Bool → Bool → Bool, f = and := ⟨_, rfl⟩
    obtain ⟨nt, hnt⟩ : ∃ f : Bool → Bool, f = not := ⟨_, rfl⟩
    obtain ⟨ar, har⟩ : ∃ f : BinOp → IntKind → Int → Int → Int, f = rAr := ⟨_, rfl⟩
    obtain ⟨cm, hcm⟩ : ∃ f : BinOp → Int → Int → Bool, f = rCm := ⟨_, rfl⟩
    obtain ⟨mx, hmx⟩ : ∃ f : Int → Int → Int, f = rMx := ⟨_, rfl⟩
    obtain ⟨mn, hmn⟩ : ∃ f : Int → Int → Int, f = rMn := ⟨_, rfl⟩
    have ar01 : ar .add .i64 0 1 = 1 := by rw [har]; decide
    have ar12 : ar .add .i64 1 1 = 2 := by rw [har]; decide
    obtain ⟨zpl, hzpl⟩ : ∃ f : Nat → Nat → Nat, f = fun x y => x + y := ⟨_, rfl⟩
    obtain ⟨zjn, hzjn⟩ : ∃ f : Nat → (Nat → List SC) → (Nat → List SC) → Nat → List SC, f = rJn := ⟨_, rfl⟩
    obtain ⟨zup, hzup⟩ : ∃ f : (Nat → List SC) → Nat → Nat → List SC → Nat → List SC, f = rUp := ⟨_, rfl⟩
    obtain ⟨zmi, hzmi⟩ : ∃ f : Nat → Nat → Nat, f = fun x y => x - y := ⟨_, rfl⟩
    obtain ⟨zdp, hzdp⟩ : ∃ f : Nat → (Nat → List SC) → Nat → List SC, f = rDp := ⟨_, rfl⟩
    have hT := T0_ok hnd hnt har hcm hmx hmn hzpl hzjn hzup hzmi hzdp
    have q1 : cm .lss (.ofNat b0) 0 = false := by rw [hcm]; exact decide_eq_false (Int.not_lt.2 (Int.natCast_nonneg b0))
    have hbig : bn ≤ b0 := hbig
    have q2 : cm .geq (.ofNat b0) (.ofNat bn) = true := by rw [hcm]; exact decide_eq_true (show (bn : Int) ≤ (b0 : Int) by omega)
    repeat' (first
      | ((with_reducible apply go_ev hT 400); (· (cbv; try rfl)); (fail_if_success with_reducible apply stuck_id))
      | ((with_reducible refine go_brt ?_ ?_); (· first | rfl | assumption | (rw [hcm]; decide)))
      | ((with_reducible refine go_brf ?_ ?_); (· first | rfl | assumption | (rw [hcm]; decide)))
      | ((with_reducible refine go_brnt hnt ?_ ?_); (· first | rfl | assumption))
      | ((with_reducible refine go_brnf hnt ?_ ?_); (· first | rfl | assumption))
      | (with_reducible refine go_brn hnt (fun h => ?_) (fun h => ?_))
      | (with_reducible refine go_brl hcm (fun hlt => ?_) (fun hge => ?_))
      | (with_reducible refine go_br (fun h => ?_) (fun h => ?_))
      | ((with_reducible apply go_ret_val hT); (· (cbv; try rfl)); (· (cbv; try rfl)))
      | ((with_reducible apply go_fin_val hT); (· (cbv; try rfl)); (· (cbv; try rfl)))
      | ((with_reducible apply go_draw); (· rfl); (· kernel_rfl); (· kernel_rfl))
      | ((with_reducible apply go_drawE); (· kernel_rfl))
      | (with_reducible refine go_fork ?_)
      | (with_reducible refine fork_cons ?_ ?_)
      | (with_reducible exact fork_nil)
      | ((with_reducible refine go_need ?_ ?_ ?_); (· first | omega | (simp only [Int.ofNat_eq_natCast]; omega)); (· first | omega | (simp only [Int.ofNat_eq_natCast]; omega)))
      | ((with_reducible refine go_ob ?_ ?_); (· first | trivial | (refine ⟨trivial, ?_⟩; omega) | (rw [hzpl]; refine ⟨trivial, ?_⟩; show _ + _ ≤ 1073741824; omega) | (rw [hzpl]; show _ + _ ≤ 1073741824; omega)))
      | ((with_reducible apply go_ret_rows hT); (· (cbv; try rfl)); (· (cbv; try rfl)); (· (cbv; (try simp only [true_and, and_true]); (try ((repeat' apply And.intro) <;> (first | trivial | rfl | decide ))))); (· (cbv; (try simp only [true_and, and_true]); (try ((repeat' apply And.intro) <;> (first | trivial | rfl | exact RowLe.rfl' _ ))))); (· rfl))
      | ((with_reducible apply go_fin_rows hT); (· (cbv; try rfl)); (· (cbv; try rfl)); (· (cbv; (try simp only [true_and, and_true]); (try ((repeat' apply And.intro) <;> (first | trivial | rfl | decide ))))); (· (cbv; (try simp only [true_and, and_true]); (try ((repeat' apply And.intro) <;> (first | trivial | rfl | exact RowLe.rfl' _ ))))); (· rfl))
      | ((with_reducible apply go_call (f := 6) (hf := Try.call6)); (· (cbv; try rfl)); (· intro wc hbc hxc; exact aliveC wc))
      | ((with_reducible apply go_callq (f := 6) (hf := Try.call6)); (· (cbv; try rfl)); (· intro wc hbc hxc; exact aliveC wc))
      | ((with_reducible apply go_call (f := 7) (hf := Try.call7)); (· (cbv; try rfl)); (· intro wc hbc hxc; exact h1 wc hbc))
      | ((with_reducible apply go_callq (f := 7) (hf := Try.call7)); (· (cbv; try rfl)); (· intro wc hbc hxc; exact h1 wc hbc))
      )
    all_goals rfl
  have hb0 : b0 < F.bn := by omega
  have hs0 : F.sn b0 ≤ 24 := hO.sn24 hb0
  have h3 (wc : World) (hk : KB ⟨w, []⟩ wc) {c : Nat → Nat → Row} := Calls.to (c' := c) (conPlain _) rfl (allConC F wc (hF.later hk) hO.small hO.nearS hO.chk)
  have h4 (wc : World) (hk : KB ⟨w, []⟩ wc) (y : Option Addr × Nat) (v : Value) := ins_check (F := F) (b0 := b0) (y := y) (wc := wc) (v := v) hs0 (hF.later hk) hK
  have h5 (wc : World) (hk : KB ⟨w, []⟩ wc) (hz : rchkV (insF F b0) = 0) (y : Option Addr × Nat) (v : Value) {c : Nat → Nat → Row} := ins_all (F := F) (b0 := b0) (y := y) (wc := wc) (v := v) (c := c) hs0 (hF.later hk) ((rchk_eq _).symm.trans hz)
  have h6 (wc : World) (hk : KB ⟨w, []⟩ wc) {c : Nat → Nat → Row} := Calls.to (c' := c) (r := [⟨F.bn + 1, 1, fun j => [.int .i64 (.ofNat (stN F.sn j))]⟩]) ⟨fun _ _ => rfl, trivial⟩ rfl (startsC F wc (hF.later hk) hO.small.s hO.small.b)
  have hcon := ins_con (t := prS) hb0 (Nat.le_refl (F.sn b0)) (by decide)
  have hcon : allCon (insF F b0) = (allCon F).map (KCon.shift (stN F.sn b0 + F.sn b0)) := hcon
  rw [hcon] at h5
  obtain ⟨M, hMM⟩ : ∃ M, M = (allCon F).length := ⟨_, rfl⟩
  obtain ⟨fr, hfr⟩ : ∃ f : Nat → Int, f = fun j => ((allCon F).getD j .zero).fr := ⟨_, rfl⟩
  obtain ⟨tn, htn⟩ : ∃ f : Nat → Int, f = fun j => ((allCon F).getD j .zero).to := ⟨_, rfl⟩
  obtain ⟨an, han⟩ : ∃ f : Nat → Nat, f = fun j => ((allCon F).getD j .zero).at_.toNat := ⟨_, rfl⟩
  obtain ⟨wy, hwy⟩ : ∃ f : Nat → Int, f = fun j => ((allCon F).getD j .zero).why := ⟨_, rfl⟩
  obtain ⟨sh, hsh⟩ : ∃ f : Nat → Nat, f = fun j => if j < M then (if stN F.sn b0 + F.sn b0 ≤ an j then an j + 1 else an j) else 0 := ⟨_, rfl⟩
  obtain ⟨st, hstt⟩ : ∃ f : Nat → Nat, f = stN F.sn := ⟨_, rfl⟩
  have key : ∀ j, j < M → ((allCon F).getD j .zero).at_ = .ofNat (an j) ∧ an j < stN F.sn F.bn := fun j hj => by
    obtain ⟨q, hq⟩ := @conTo_at F (n := stN F.sn F.bn) j (by rw [← allCon_to]; omega)
    rw [← allCon_to] at hq
    have e : an j = q := by rw [han]; simp only [hq.ok.at_]; rfl
    rw [e]; exact ⟨hq.ok.at_, hq.lt⟩
  have hz : ∀ j, ¬ j < M → (allCon F).getD j .zero = .zero := fun j hj => by
    simp [List.getD, List.getElem?_eq_none (show (allCon F).length ≤ j by omega)]
  have hR1 : conR (allCon F) = ⟨M, 4, fun j => [.int .i64 (fr j), .int .i64 (tn j), .int .i64 (.ofNat (an j)), .int .u8 (wy j)]⟩ := by
    rw [conR, hMM]
    congr 1
    funext j
    by_cases hj : j < M
    · rw [hfr, hwy, htn, ← (key j hj).1]; rfl
    · rw [hz j hj, hfr, hwy, htn, han]
      simp only [hz j hj]; rfl
  have hR2 : conR ((allCon F).map (KCon.shift (stN F.sn b0 + F.sn b0))) = ⟨M, 4, fun j => [.int .i64 (fr j), .int .i64 (tn j), .int .i64 (.ofNat (sh j)), .int .u8 (wy j)]⟩ := by
    rw [conR, List.length_map, ← hMM]
    congr 1
    funext j
    by_cases hj : j < M
    · have e : ((allCon F).map (KCon.shift (stN F.sn b0 + F.sn b0))).getD j .zero = ((allCon F).getD j .zero).shift (stN F.sn b0 + F.sn b0) := by
        have hj' : j < (allCon F).length := by omega
        simp [List.getD, List.getElem?_map, List.getElem?_eq_getElem hj']
      have hk := (key j hj).1
      rw [e, hfr, hwy, htn, hsh]
      simp only [if_pos hj, KCon.shift, hk, Int.ofNat_eq_natCast, KCon.sc]
      by_cases g : stN F.sn b0 + F.sn b0 ≤ an j
      · rw [if_pos (by omega), if_pos g]; simp only [Int.natCast_add, Int.natCast_one]
      · rw [if_neg (by omega), if_neg g]; simp only [hk, Int.ofNat_eq_natCast]
    · have e : ((allCon F).map (KCon.shift (stN F.sn b0 + F.sn b0))).getD j .zero = .zero := by
        simp [List.getD, List.getElem?_eq_none (show (allCon F).length ≤ j by omega)]
      rw [e, hfr, hwy, htn, hsh]
      simp only [if_neg hj, hz j hj]; rfl
  have han9 : ∀ j, j < M → an j < 600 := fun j hj => Nat.lt_of_lt_of_le (key j hj).2 hO.pts
  have hM9 : M ≤ 1152 := by rw [hMM]; exact hO.cons
  rw [hR2] at h5
  rw [hR1] at h3
  rw [← hstt] at h6
  clear hR1 hR2 key hz hfr htn han hwy hMM
  obtain ⟨sx, hsx⟩ : ∃ f : Nat → GStmt, f = (insF F b0).s b0 := ⟨_, rfl⟩
  obtain ⟨n1, hn1⟩ : ∃ n, n = F.sn b0 + 1 := ⟨_, rfl⟩
  obtain ⟨Gf, hGf⟩ : ∃ f : Option Addr × Nat → Nat → Nat → Row, f = insG F b0 := ⟨_, rfl⟩
  obtain ⟨bq, hbq⟩ : ∃ f : Option Addr × Nat → Nat → List SC, f = insQ F b0 := ⟨_, rfl⟩
  obtain ⟨z, hz⟩ : ∃ z, z = rchkV (insF F b0) := ⟨_, rfl⟩
  rw [← hz] at h4 h5
  rw [← hGf, ← hbq] at h4 h5
  have hG0 : ∀ y p i, Gf y p i = if p = 0 ∧ i = 0 then ⟨y.1, n1, y.2, 26, fun i => (sx i).sc⟩ else ⟨none, 0, 0, 0, fun _ => []⟩ := fun y p i => by rw [hGf, hn1, hsx]; rfl
  have hQ0 : ∀ y b, bq y b = if b = b0 then pasteL (F.blkC b) 0 [.val (.slice y.1 n1 y.2)] else F.blkC b := fun y b => by rw [hbq, hn1]; rfl
  have hx0 : ∀ i, i < F.sn b0 → sx i = F.s b0 i := fun i hi => by rw [hsx]; show (if b0 = b0 then (if i < F.sn b0 then F.s b0 i else _) else _) = _; rw [if_pos rfl, if_pos hi]
  have hx1 : sx (F.sn b0) = prS := by rw [hsx]; show (if b0 = b0 then (if F.sn b0 < F.sn b0 then _ else if F.sn b0 = F.sn b0 then prS else _) else _) = _; rw [if_pos rfl, if_neg (Nat.lt_irrefl _), if_pos rfl]
  obtain ⟨pS, hpS⟩ : ∃ s : Nat, s = stN F.sn b0 + F.sn b0 := ⟨_, rfl⟩
  have hst : st (b0 + 1) = pS + 1 := by rw [hpS, hstt]; rfl
  have hpS9 : pS < 600 := by have := stN_lt hb0 (Nat.le_refl (F.sn b0)); have := hO.pts; omega
  rw [← hpS] at hsh
  have hsh1 : ∀ j, j < M → pS ≤ an j → sh j = an j + 1 := fun j h1 h2 => by rw [hsh]; simp only [if_pos h1, if_pos h2]
  have hsh2 : ∀ j, j < M → ¬ pS ≤ an j → sh j = an j := fun j h1 h2 => by rw [hsh]; simp only [if_pos h1, if_neg h2]
  have hb24 := hO.bn24
  clear hcon hGf hbq hz hsx hK hO hsh hstt hpS
  obtain ⟨pa, un, lA, ln, lc, lk, lt, bA, bn, bc, sA, sn, sc, s, jA, jn, jc, ja, jk, jo, jf, jx, je, jd⟩ := F
  obtain ⟨hX, hl, hb, hs, hj⟩ := hF
  simp only at hl hb hs hj
  simp only at hn1 hb24 hb0 hs0 hG0 hQ0 hx0 hx1 h1 h3 h4 h5 h6
  refine go_start (args := [.pt (.agg (GFun.dat _)), .pt (.one (.int .i64 (.ofNat b0)))]) (c := (funX _)) Try.func5 rfl hX rfl rfl ?_
  obtain ⟨nd, hnd⟩ : ∃ f : Bool → Bool → Bool, f = and := ⟨_, rfl⟩
  obtain ⟨nt, hnt⟩ : ∃ f : Bool → Bool, f = not := ⟨_, rfl⟩
  obtain ⟨ar, har⟩ : ∃ f : BinOp → IntKind → Int → Int → Int, f = rAr := ⟨_, rfl⟩
  obtain ⟨cm, hcm⟩ : ∃ f : BinOp → Int → Int → Bool, f = rCm := ⟨_, rfl⟩
  obtain ⟨mx, hmx⟩ : ∃ f : Int → Int → Int, f = rMx := ⟨_, rfl⟩
  obtain ⟨mn, hmn⟩ : ∃ f : Int → Int → Int, f = rMn := ⟨_, rfl⟩
  have ar01 : ar .add .i64 0 1 = 1 := by rw [har]; decide
  have ar12 : ar .add .i64 1 1 = 2 := by rw [har]; decide
  obtain ⟨zpl, hzpl⟩ : ∃ f : Nat → Nat → Nat, f = fun x y => x + y := ⟨_, rfl⟩
  obtain ⟨zjn, hzjn⟩ : ∃ f : Nat → (Nat → List SC) → (Nat → List SC) → Nat → List SC, f = rJn := ⟨_, rfl⟩
  obtain ⟨zup, hzup⟩ : ∃ f : (Nat → List SC) → Nat → Nat → List SC → Nat → List SC, f = rUp := ⟨_, rfl⟩
  obtain ⟨zmi, hzmi⟩ : ∃ f : Nat → Nat → Nat, f = fun x y => x - y := ⟨_, rfl⟩
  obtain ⟨zdp, hzdp⟩ : ∃ f : Nat → (Nat → List SC) → Nat → List SC, f = rDp := ⟨_, rfl⟩
  have hT := T0_ok hnd hnt har hcm hmx hmn hzpl hzjn hzup hzmi hzdp
  have q1 : cm .lss (.ofNat b0) 0 = false := by rw [hcm]; exact decide_eq_false (Int.not_lt.2 (Int.natCast_nonneg b0))
  have q2 : cm .geq (.ofNat b0) (.ofNat bn) = false := by rw [hcm]; exact decide_eq_false (show ¬ (bn : Int) ≤ (b0 : Int) by omega)
  refine go_fam 4 rfl rfl trivial ?_ ?_
  · intro q i j hq hj
    match q, hq with
    | 0, _ => rfl
    | 1, _ => rfl
    | 2, _ => rfl
    | 3, _ => rfl
  repeat' (first
    | ((with_reducible apply go_ev hT 400); (· (cbv; try rfl)); (fail_if_success with_reducible apply stuck_id))
    | ((with_reducible refine go_brt ?_ ?_); (· first | rfl | assumption | (rw [hcm]; decide)))
    | ((with_reducible refine go_brf ?_ ?_); (· first | rfl | assumption | (rw [hcm]; decide)))
    | ((with_reducible refine go_brnt hnt ?_ ?_); (· first | rfl | assumption))
    | ((with_reducible refine go_brnf hnt ?_ ?_); (· first | rfl | assumption))
    | (with_reducible refine go_brn hnt (fun h => ?_) (fun h => ?_))
    | (with_reducible refine go_brl hcm (fun hlt => ?_) (fun hge => ?_))
    | (with_reducible refine go_br (fun h => ?_) (fun h => ?_))
    | ((with_reducible apply go_ret_val hT); (· (cbv; try rfl)); (· (cbv; try rfl)))
    | ((with_reducible apply go_fin_val hT); (· (cbv; try rfl)); (· (cbv; try rfl)))
    | (with_reducible refine go_fork ?_)
    | (with_reducible refine fork_cons ?_ ?_)
    | (with_reducible exact fork_nil)
    | ((with_reducible refine go_need ?_ ?_ ?_); (· first | omega | (simp only [Int.ofNat_eq_natCast]; omega)); (· first | omega | (simp only [Int.ofNat_eq_natCast]; omega)))
    | ((with_reducible refine go_ob ?_ ?_); (· first | trivial | (refine ⟨trivial, ?_⟩; omega) | (rw [hzpl]; refine ⟨trivial, ?_⟩; show _ + _ ≤ 1073741824; omega) | (rw [hzpl]; show _ + _ ≤ 1073741824; omega) | ((exact ⟨fun j hj => ⟨rfl, rfl⟩, by rw [hzpl]; show 0 + bn ≤ 1073741824; omega⟩))))
    | ((with_reducible apply go_ret_rows hT); (· (cbv; try rfl)); (· (cbv; try rfl)); (· (cbv; (try simp only [true_and, and_true]); (try ((repeat' apply And.intro) <;> (first | trivial | rfl | decide ))))); (· (cbv; (try simp only [true_and, and_true]); (try ((repeat' apply And.intro) <;> (first | trivial | rfl | exact RowLe.rfl' _ ))))); (· rfl))
    | ((with_reducible apply go_fin_rows hT); (· (cbv; try rfl)); (· (cbv; try rfl)); (· (cbv; (try simp only [true_and, and_true]); (try ((repeat' apply And.intro) <;> (first | trivial | rfl | decide ))))); (· (cbv; (try simp only [true_and, and_true]); (try ((repeat' apply And.intro) <;> (first | trivial | rfl | exact RowLe.rfl' _ ))))); (· rfl))
    | ((with_reducible apply go_call (f := 6) (hf := Try.call6)); (· (cbv; try rfl)); (· intro wc hbc hxc; exact aliveC wc))
    | ((with_reducible apply go_callq (f := 6) (hf := Try.call6)); (· (cbv; try rfl)); (· intro wc hbc hxc; exact aliveC wc))
    | ((with_reducible apply go_call (f := 7) (hf := Try.call7)); (· (cbv; try rfl)); (· intro wc hbc hxc; exact h1 wc hbc))
    | ((with_reducible apply go_callq (f := 7) (hf := Try.call7)); (· (cbv; try rfl)); (· intro wc hbc hxc; exact h1 wc hbc))
    )
  with_reducible refine go_drawE (by kernel_rfl) ?_
  have hfz : RowLe ⟨zpl (zpl 0 (sn b0)) 1, 26, zjn (zpl 0 (sn b0)) (zjn 0 (fun j => cutL [] (j * 26) 26) (fun i => (s b0 i).sc)) (fun j => cutL prC (0 + j * 26) 26)⟩ ⟨n1, 26, fun i => (sx i).sc⟩ := by
    subst hzpl hzjn
    refine ⟨by show 0 + sn b0 + 1 = n1; rw [hn1]; omega, rfl, fun j hj => ?_⟩
    have hj : j < 0 + sn b0 + 1 := hj
    show leCL (rJn (0 + sn b0) (rJn 0 (fun j => cutL [] (j * 26) 26) (fun i => (s b0 i).sc)) (fun j => cutL prC (0 + j * 26) 26) j) (sx j).sc
    by_cases hlt : j < sn b0
    · simp only [rJn, Nat.zero_add, if_pos hlt, Nat.not_lt_zero, if_false, Nat.sub_zero, hx0 j hlt]
      exact leCL_rfl _
    · have hjj : j = sn b0 := by omega
      subst hjj
      simp only [rJn, Nat.zero_add, Nat.lt_irrefl, if_false, Nat.sub_self, hx1]
      exact prC_le
  have hqb : ∀ j, qbL 4 (zjn 0 (fun j => cutL [] (j * 14) 14) (GFun.blkC ⟨pa, un, lA, ln, lc, lk, lt, bA, bn, bc, sA, sn, sc, s, jA, jn, jc, ja, jk, jo, jf, jx, je, jd⟩) j) = true := fun j => by
    rw [hzjn]; rfl
  have hob1 : zpl 0 (sn b0) ≤ 1073741824 := by rw [hzpl]; show 0 + sn b0 ≤ _; omega
  have hob2 : zpl (zpl 0 (sn b0)) 1 ≤ 1073741824 := by rw [hzpl]; show 0 + sn b0 + 1 ≤ _; omega
  have hzb : (b0 : Int) < (zpl 0 bn : Nat) := by rw [hzpl]; show (b0 : Int) < ((0 + bn : Nat) : Int); omega
  have hrow : ∀ y : Option Addr × Nat, RowLe ⟨zpl 0 bn, 14, zup (zjn 0 (fun j => cutL [] (j * 14) 14) (GFun.blkC ⟨pa, un, lA, ln, lc, lk, lt, bA, bn, bc, sA, sn, sc, s, jA, jn, jc, ja, jk, jo, jf, jx, je, jd⟩)) b0 0 [.val (.slice y.1 n1 y.2)]⟩ ⟨bn, 14, bq y⟩ := fun y => by
    subst hzpl hzjn hzup
    refine ⟨by show 0 + bn = bn; omega, rfl, fun j hj => ?_⟩
    show leCL (rUp _ b0 0 _ j) (bq y j)
    rw [hQ0]
    simp only [rUp, rJn, Nat.not_lt_zero, if_false, Nat.sub_zero]
    exact leCL_rfl _
  have hc4 : ∀ q i j, q < 4 → j < (funX ⟨pa, un, lA, ln, lc, lk, lt, bA, bn, bc, sA, sn, sc, s, jA, jn, jc, ja, jk, jo, jf, jx, je, jd⟩ q i).n → qbL 4 ((funX ⟨pa, un, lA, ln, lc, lk, lt, bA, bn, bc, sA, sn, sc, s, jA, jn, jc, ja, jk, jo, jf, jx, je, jd⟩ q i).el j) = true := fun q i j hq hj => by
    match q, hq with
    | 0, _ => rfl
    | 1, _ => rfl
    | 2, _ => rfl
    | 3, _ => rfl
  refine go_cutL (σ := {y : Option Addr × Nat // NewA w y.1}) (fun y => chiG (funX ⟨pa, un, lA, ln, lc, lk, lt, bA, bn, bc, sA, sn, sc, s, jA, jn, jc, ja, jk, jo, jf, jx, je, jd⟩) 4 (Gf y.1)) [40, 41, 42, 43, 44, 45, 46, 47, 48, 49, 50, 51, 52, 53, 54, 55, 56] (fun y => []) (fun y => []) (fun y => [(0, ⟨bn, 14, bq y.1⟩)]) rfl ?_ (fun y => ?_)
  · skip
    repeat' (first
      | ((with_reducible apply go_ev hT 400); (· (cbv; try rfl)); (fail_if_success with_reducible apply stuck_id))
      | ((with_reducible refine go_brt ?_ ?_); (· first | rfl | assumption | (rw [hcm]; decide)))
      | ((with_reducible refine go_brf ?_ ?_); (· first | rfl | assumption | (rw [hcm]; decide)))
      | ((with_reducible refine go_brnt hnt ?_ ?_); (· first | rfl | assumption))
      | ((with_reducible refine go_brnf hnt ?_ ?_); (· first | rfl | assumption))
      | (with_reducible refine go_brn hnt (fun h => ?_) (fun h => ?_))
      | (with_reducible refine go_brl hcm (fun hlt => ?_) (fun hge => ?_))
      | (with_reducible refine go_br (fun h => ?_) (fun h => ?_))
      | ((with_reducible apply go_ret_val hT); (· (cbv; try rfl)); (· (cbv; try rfl)))
      | ((with_reducible apply go_fin_val hT); (· (cbv; try rfl)); (· (cbv; try rfl)))
      | ((with_reducible apply go_draw); (· rfl); (· kernel_rfl); (· kernel_rfl))
      | ((with_reducible apply go_drawE); (· kernel_rfl))
      | (with_reducible refine go_fork ?_)
      | (with_reducible refine fork_cons ?_ ?_)
      | (with_reducible exact fork_nil)
      | ((with_reducible refine go_need ?_ ?_ ?_); (· first | omega | (simp only [Int.ofNat_eq_natCast]; omega)); (· first | omega | (simp only [Int.ofNat_eq_natCast]; omega)))
      | ((with_reducible apply go_ret_rows hT); (· (cbv; try rfl)); (· (cbv; try rfl)); (· (cbv; (try simp only [true_and, and_true]); (try ((repeat' apply And.intro) <;> (first | trivial | rfl | decide ))))); (· (cbv; (try simp only [true_and, and_true]); (try ((repeat' apply And.intro) <;> (first | trivial | rfl | exact RowLe.rfl' _ ))))); (· rfl))
      | ((with_reducible apply go_fin_rows hT); (· (cbv; try rfl)); (· (cbv; try rfl)); (· (cbv; (try simp only [true_and, and_true]); (try ((repeat' apply And.intro) <;> (first | trivial | rfl | decide ))))); (· (cbv; (try simp only [true_and, and_true]); (try ((repeat' apply And.intro) <;> (first | trivial | rfl | exact RowLe.rfl' _ ))))); (· rfl))
      | (((with_reducible refine go_ob ?_ ?_); (· exact hob2); (refine go_freeze 1 0 0 (fun a cap => Gf (a, cap)) (R := ⟨n1, 26, fun i => (sx i).sc⟩) rfl hfz rfl (fun v => rfl) ⟨fun j _ => hqb j, trivial⟩ (fun j hj => rfl) hc4 (fun p i j hj => absurd hj (Nat.not_lt_zero _)) rfl (fun a cap p' i' h => by rw [hG0, if_neg h]; rfl) (fun a cap => by rw [hG0, if_pos ⟨rfl, rfl⟩]) (fun a cap hnew => ?_))))
      | (((with_reducible refine go_ob ?_ ?_); (· exact ⟨fun j hj => ⟨rfl, rfl⟩, hob1⟩)))
      | (((with_reducible apply go_need); (· exact Int.natCast_nonneg _); (· exact hzb)))
      | (((with_reducible refine go_stopC ⟨(a, cap), hnew⟩ rfl ?_ ?_ ?_); (· (refine le_mk ?_ ?_ ?_ ?_ <;> (cbv; (try simp only [true_and, and_true]); (try ((repeat' apply And.intro) <;> (first | trivial | rfl | exact hrow (a, cap))))))); (· (cbv; try rfl)); (· simp)))
      )
  obtain ⟨⟨a, cap⟩, hnew⟩ := y
  simp only
  have hw1 : ar .add .i64 (.ofNat b0) 1 = .ofNat (b0 + 1) := wrap_nat har _ (by omega)
  have hw2 : ar .sub .i64 (.ofNat (st (b0 + 1))) 1 = .ofNat pS := by rw [hst]; exact sub_nat har (n := 1) (by omega) (by omega)
  repeat' (first
    | ((with_reducible apply go_ev hT 400); (· (cbv; try rfl)); (fail_if_success with_reducible apply stuck_id))
    | ((with_reducible refine go_brt ?_ ?_); (· first | rfl | assumption | (rw [hcm]; decide)))
    | ((with_reducible refine go_brf ?_ ?_); (· first | rfl | assumption | (rw [hcm]; decide)))
    | ((with_reducible refine go_brnt hnt ?_ ?_); (· first | rfl | assumption))
    | ((with_reducible refine go_brnf hnt ?_ ?_); (· first | rfl | assumption))
    | (with_reducible refine go_brn hnt (fun h => ?_) (fun h => ?_))
    | (with_reducible refine go_brl hcm (fun hlt => ?_) (fun hge => ?_))
    | (with_reducible refine go_br (fun h => ?_) (fun h => ?_))
    | ((with_reducible apply go_ret_val hT); (· (cbv; try rfl)); (· (cbv; try rfl)))
    | ((with_reducible apply go_fin_val hT); (· (cbv; try rfl)); (· (cbv; try rfl)))
    | ((with_reducible apply go_draw); (· rfl); (· kernel_rfl); (· kernel_rfl))
    | ((with_reducible apply go_drawE); (· kernel_rfl))
    | (with_reducible refine go_fork ?_)
    | (with_reducible refine fork_cons ?_ ?_)
    | (with_reducible exact fork_nil)
    | ((with_reducible refine go_need ?_ ?_ ?_); (· first | omega | (simp only [Int.ofNat_eq_natCast]; omega)); (· first | omega | (simp only [Int.ofNat_eq_natCast]; omega)))
    | ((with_reducible refine go_ob ?_ ?_); (· first | trivial | (refine ⟨trivial, ?_⟩; omega) | (rw [hzpl]; refine ⟨trivial, ?_⟩; show _ + _ ≤ 1073741824; omega) | (rw [hzpl]; show _ + _ ≤ 1073741824; omega)))
    | ((with_reducible apply go_ret_rows hT); (· (cbv; try rfl)); (· (cbv; try rfl)); (· (cbv; (try simp only [true_and, and_true]); (try ((repeat' apply And.intro) <;> (first | trivial | rfl | decide ))))); (· (cbv; (try simp only [true_and, and_true]); (try ((repeat' apply And.intro) <;> (first | trivial | rfl | exact RowLe.rfl' _ ))))); (· rfl))
    | ((with_reducible apply go_fin_rows hT); (· (cbv; try rfl)); (· (cbv; try rfl)); (· (cbv; (try simp only [true_and, and_true]); (try ((repeat' apply And.intro) <;> (first | trivial | rfl | decide ))))); (· (cbv; (try simp only [true_and, and_true]); (try ((repeat' apply And.intro) <;> (first | trivial | rfl | exact RowLe.rfl' _ ))))); (· rfl))
    | ((with_reducible apply go_callRv (f := 14) (hf := Try.call14)); (· intro S; cbv; try rfl); (· intro wc S hbc hxc hrc; exact h4 wc hbc (a, cap) _ hxc (hrc 0 _ rfl)))
    | ((with_reducible apply go_callR (f := 15) (hf := Try.call15)); (· intro S; cbv; try rfl); (· intro wc S hbc hxc hrc; exact h6 wc hbc); (· rfl))
    | ((with_reducible apply go_callR (f := 8) (hf := Try.call8)); (· intro S; cbv; try rfl); (· intro wc S hbc hxc hrc; exact (by first | exact h3 wc hbc | exact h5 wc hbc (by have := of_decide_eq_true (by assumption : decide (z = 0) = true); exact this) (a, cap) _ hxc (hrc 0 _ rfl))); (· rfl))
    | ((rw [hw1]))
    | ((rw [hw2]))
    | ((with_reducible refine go_loopk (σ := {i : Nat // i ≤ M}) [4, 13, 91, 92, 93, 94, 95, 96, 97, 98, 99, 100, 101, 102, 103, 104, 105, 106, 107, 108, 109, 110, 111, 112, 113, 114] (fun x => [(12, .pt (.one (.int .i64 (.ofNat x.1))))]) (fun x => []) (fun x => []) (fun x => M - x.1) ⟨0, by omega⟩ ?_ ?_ ?_ ?_); (· (refine le_mk ?_ ?_ ?_ ?_ <;> (cbv; (try simp only [true_and, and_true]); (try ((repeat' apply And.intro) <;> (first | trivial | rfl | exact RowLe.rfl' _ | (rw [wrap_nat har _ (by omega)]))))))); (· (cbv; try rfl)); (· simp); (rintro ⟨i, hi⟩ mm hmm))
    | (((with_reducible refine go_stop (⟨i + 1, by omega⟩ : {i : Nat // i ≤ M}) ?_ ?_ ?_ ?_); (· exact Nat.lt_of_lt_of_eq (show M - (i + 1) < M - i from by omega) (Eq.symm (by assumption))); (· (refine le_mk ?_ ?_ ?_ ?_ <;> (cbv; (try simp only [true_and, and_true]); (try ((repeat' apply And.intro) <;> (first | trivial | rfl | exact RowLe.rfl' _ | (rw [wrap_nat har _ (by omega)]))))))); (· (cbv; try rfl)); (· simp)))
    | (((with_reducible apply go_need); (· exact Int.natCast_nonneg _); (· exact Int.ofNat_lt.2 (by assumption))))
    | (fail)
    )
  all_goals (try rfl)
  all_goals
    exfalso
    have hiM : i < M := hlt
    by_cases g : pS ≤ an i
    · have q : cm .geq (.ofNat (an i)) (.ofNat pS) = true := by rw [hcm]; exact decide_eq_true (show (pS : Int) ≤ (an i : Int) by omega)
      have e := hsh1 i hiM g
      have e2 : ar .add .i64 (.ofNat (an i)) 1 = .ofNat (an i + 1) := wrap_nat har _ (by have := han9 i hiM; omega)
      first
        | (rw [e, e2, hnd] at h; simp at h; done)
        | (have q' : cm .geq (.ofNat (an i)) (.ofNat pS) = false := by assumption
           rw [q] at q'; cases q')
    · have q : cm .geq (.ofNat (an i)) (.ofNat pS) = false := by rw [hcm]; exact decide_eq_false (show ¬ (pS : Int) ≤ (an i : Int) by omega)
      have e := hsh2 i hiM g
      first
        | (have q' : cm .geq (.ofNat (an i)) (.ofNat pS) = true := by assumption
           rw [q] at q'; cases q')
        | (rw [e, hnd] at h; simp at h; done)

end Go.Proofs.Ytbimggeapaaliaa

/- ConstrainBlocks: with a print more at the end of a block the constraints are the same, for every function and block. No condition. -/
namespace Go.Proofs.Ytbimggeapaaliaa
open Go.ChangeShapes Go.WideShapes Go.ChangeAt Go.RowKit
set_option linter.unusedVariables false
set_option linter.unusedSimpArgs false

set_option maxRecDepth 100000 in
theorem constrainBlocks_lifted (os : Os) (started : os.Started) (H : Type) (enc : TypeId × Value → H) :
    ReturnsInHanded {} Try.checked os 5 .any (Rows.constrainBlocksSpec.pre6 enc Try.prog Try.f5 Rows.constrainBlocksRow.domain false) (Rows.constrainBlocksSpec.post enc Try.prog Try.f5 false true false false) := by
  refine returnsInHanded_of_change (C := Try.checked) Try.own started (by kernel_rfl) Try.func5
    (ChangeSpec.witness6 (enc := enc) (C := Try.checked) false ⟨#[], #[.agg #[.int .i64 0, .bool false, .slice none 0 0, .slice none 0 0], .int .i64 0], []⟩ 8 (by kernel_rfl) (by kernel_rfl) (by kernel_rfl) (by kernel_rfl)) ?_
  intro W base args ds gs before hval0 hW _ _
  have hval : ∀ (j : Nat) t v, Try.f5.params[j]? = some t → args[j]? = some v → Value.okWide Try.prog W .any base t v := hval0
  have hW' := hW
  obtain ⟨p, q, hA0, hV, rfl, hfz, hnd⟩ := hW
  have hA : DataW.TrodAll enc Try.prog W 0 (fun _ => true) true Try.f5.params.toList args.toList ds p := hA0
  rw [Try.params5] at hA hval
  obtain ⟨v0, v1, d0, d1, p0, p1, rfl, rfl, rfl, h0, h1⟩ := trodAll_two hA
  obtain ⟨F0, rfl, hF0, hK0⟩ := open_func h0 (hval 0 25 v0 rfl rfl)
  obtain ⟨n1, rfl, b11, b12⟩ := open_num h1 (hval 1 3 v1 rfl rfl)
  refine (blocksC F0 W hF0 hK0 n1).mono fun e W' ⟨he, hb⟩ => ⟨_, he, law_post Try.laidOut rfl hW' ?_ rfl hb rfl Try.boolRow⟩
  intro T hT
  rw [Try.params5] at hT
  simp only [List.mem_cons, List.not_mem_nil, or_false] at hT
  rcases hT with rfl | rfl
  all_goals exact ⟨by kernel_rfl, of_decide_eq_true (by kernel_rfl)⟩

theorem constrainBlocks_holds : Rows.ConstrainBlocksSaid :=
  OpenClaim.holds_of_wide 5 Try.f5 rfl rfl rfl rfl rfl rfl rfl ⟨rfl, rfl, rfl, rfl, rfl⟩ rfl rfl rfl rfl rfl (by kernel_rfl) Try.func5 (by kernel_rfl)
    (of_decide_eq_true (by kernel_rfl)) (by unfold Func.isWrapper; rw [if_neg (by decide +kernel)]; exact ⟨rfl, rfl⟩)
    (fun os started H enc _ => constrainBlocks_lifted os started H enc)

end Go.Proofs.Ytbimggeapaaliaa
