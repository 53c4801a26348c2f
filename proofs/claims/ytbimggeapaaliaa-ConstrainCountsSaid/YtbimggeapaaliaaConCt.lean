/- ConstrainCounts: how many constraints each point has, for every function. No condition. -/
import Derived.Test.YtbimggeapaaliaaSvD
import Derived.Test.YtbimggeapaaliaaSvE
import Derived.Test.YtbimggeapaaliaaOpenF
/- Layer 19: which functions the laws consider. No condition. -/
namespace Go.Proofs.Ytbimggeapaaliaa
open Go.RowKit
set_option linter.unusedVariables false
set_option linter.unusedSimpArgs false

def fitB (F : GFun) : Bool := !greatB F && (!gfB F && decide (rchkV F = 0))
theorem fit_ok {F : GFun} (h : fitB F = true) : F.Ok := by
  simp only [fitB, Bool.and_eq_true, decide_eq_true_eq] at h
  exact (rchk_eq F).symm.trans h.2.2
set_option maxRecDepth 100000 in
set_option maxHeartbeats 4000000 in
theorem fitC (F : GFun) (w : World) (hF : F.At w) (hK : F.Ty8) :
    Calls Try.prog 7 #[F.val] w (Ret w (.bool (fitB F))) := by
  have h1 (wc : World) (hk : KB ⟨w, []⟩ wc) := greatC F wc (hF.later hk)
  have h2 (wc : World) (hk : KB ⟨w, []⟩ wc) := gfC F wc (hF.later hk)
  have h3 (wc : World) (hk : KB ⟨w, []⟩ wc) := rFnChk F wc (hF.later hk) hK
  unfold fitB
  obtain ⟨q1, hq1⟩ : ∃ b, b = greatB F := ⟨_, rfl⟩
  obtain ⟨q2, hq2⟩ : ∃ b, b = gfB F := ⟨_, rfl⟩
  obtain ⟨q3, hq3⟩ : ∃ b, b = rchkV F := ⟨_, rfl⟩
  rw [← hq1] at h1 ⊢
  rw [← hq2] at h2 ⊢
  rw [← hq3] at h3 ⊢
  clear hq1 hq2 hq3 hK
  obtain ⟨pa, un, lA, ln, lc, lk, lt, bA, bn, bc, sA, sn, sc, s, jA, jn, jc, ja, jk, jo, jf, jx, je, jd⟩ := F
  obtain ⟨hX, hl, hb, hs, hj⟩ := hF
  simp only at hl hb hs hj
  refine go_start (args := [.pt (.agg (GFun.dat _))]) (c := (funX _)) Try.func7 rfl hX rfl rfl ?_
  obtain ⟨nd, hnd⟩ : ∃ f : Bool → Bool → Bool, f = and := ⟨_, rfl⟩
  obtain ⟨nt, hnt⟩ : ∃ f : Bool → Bool, f = not := ⟨_, rfl⟩
  obtain ⟨ar, har⟩ : ∃ f : BinOp → IntKind → Int → Int → Int, f = rAr := ⟨_, rfl⟩
  obtain ⟨cm, hcm⟩ : ∃ f : BinOp → Int → Int → Bool, f = rCm := ⟨_, rfl⟩
  obtain ⟨mx, hmx⟩ : ∃ f : Int → Int → Int, f = rMx := ⟨_, rfl⟩
  obtain ⟨mn, hmn⟩ : ∃ f : Int → Int → Int, f = rMn := ⟨_, rfl⟩
  have ar01 : ar .add .i64 0 1 = 1 := by rw [har]; decide
  have ar12 : ar .add .i64 1 1 = 2 := by rw [har]; decide
  obtain ⟨zpl, hzpl⟩ : ∃ f : Nat → Nat → Nat, f = fun x y => x + y := ⟨_, rfl⟩
  obtain ⟨zjn, hzjn⟩ : ∃ f : Nat → (Nat → List SC) → (Nat → List SC) → Nat → List SC, f = rJn := ⟨_, rfl⟩
  obtain ⟨zup, hzup⟩ : ∃ f : (Nat → List SC) → Nat → Nat → List SC → Nat → List SC, f = rUp := ⟨_, rfl⟩
  obtain ⟨zmi, hzmi⟩ : ∃ f : Nat → Nat → Nat, f = fun x y => x - y := ⟨_, rfl⟩
  obtain ⟨zdp, hzdp⟩ : ∃ f : Nat → (Nat → List SC) → Nat → List SC, f = rDp := ⟨_, rfl⟩
  have hT := T0_ok hnd hnt har hcm hmx hmn hzpl hzjn hzup hzmi hzdp
  repeat' (first
    | ((with_reducible apply go_ev hT 400); (· (cbv; try rfl)); (fail_if_success with_reducible apply stuck_id))
    | ((with_reducible refine go_brt ?_ ?_); (· first | rfl | assumption | (rw [hcm]; decide)))
    | ((with_reducible refine go_brf ?_ ?_); (· first | rfl | assumption | (rw [hcm]; decide)))
    | ((with_reducible refine go_brnt hnt ?_ ?_); (· first | rfl | assumption))
    | ((with_reducible refine go_brnf hnt ?_ ?_); (· first | rfl | assumption))
    | (with_reducible refine go_brn hnt (fun h => ?_) (fun h => ?_))
    | (with_reducible refine go_brl hcm (fun hlt => ?_) (fun hge => ?_))
    | (with_reducible refine go_br (fun h => ?_) (fun h => ?_))
    | ((with_reducible apply go_ret_val hT); (· (cbv; try rfl)); (· (cbv; try rfl)))
    | ((with_reducible apply go_fin_val hT); (· (cbv; try rfl)); (· (cbv; try rfl)))
    | ((with_reducible apply go_draw); (· rfl); (· kernel_rfl); (· kernel_rfl))
    | ((with_reducible apply go_drawE); (· kernel_rfl))
    | (with_reducible refine go_fork ?_)
    | (with_reducible refine fork_cons ?_ ?_)
    | (with_reducible exact fork_nil)
    | ((with_reducible refine go_need ?_ ?_ ?_); (· first | omega | (simp only [Int.ofNat_eq_natCast]; omega)); (· first | omega | (simp only [Int.ofNat_eq_natCast]; omega)))
    | ((with_reducible refine go_ob ?_ ?_); (· first | trivial | (refine ⟨trivial, ?_⟩; omega) | (rw [hzpl]; refine ⟨trivial, ?_⟩; show _ + _ ≤ 1073741824; omega) | (rw [hzpl]; show _ + _ ≤ 1073741824; omega)))
    | ((with_reducible apply go_ret_rows hT); (· (cbv; try rfl)); (· (cbv; try rfl)); (· (cbv; (try simp only [true_and, and_true]); (try ((repeat' apply And.intro) <;> (first | trivial | rfl | decide ))))); (· (cbv; (try simp only [true_and, and_true]); (try ((repeat' apply And.intro) <;> (first | trivial | rfl | exact RowLe.rfl' _ ))))); (· rfl))
    | ((with_reducible apply go_fin_rows hT); (· (cbv; try rfl)); (· (cbv; try rfl)); (· (cbv; (try simp only [true_and, and_true]); (try ((repeat' apply And.intro) <;> (first | trivial | rfl | decide ))))); (· (cbv; (try simp only [true_and, and_true]); (try ((repeat' apply And.intro) <;> (first | trivial | rfl | exact RowLe.rfl' _ ))))); (· rfl))
    | ((with_reducible apply go_call_bool (f := 20) (hf := Try.call20)); (· (cbv; try rfl)); (· intro wc hbc hxc; exact h1 wc hbc); intro z hz)
    | ((with_reducible apply go_callq_bool (f := 20) (hf := Try.call20)); (· (cbv; try rfl)); (· intro wc hbc hxc; exact h1 wc hbc); intro z hz)
    | ((with_reducible apply go_call_bool (f := 21) (hf := Try.call21)); (· (cbv; try rfl)); (· intro wc hbc hxc; exact h2 wc hbc); intro z hz)
    | ((with_reducible apply go_callq_bool (f := 21) (hf := Try.call21)); (· (cbv; try rfl)); (· intro wc hbc hxc; exact h2 wc hbc); intro z hz)
    | ((with_reducible apply go_call_int (f := 14) (hf := Try.call14)); (· (cbv; try rfl)); (· intro wc hbc hxc; exact h3 wc hbc); intro z hz)
    | ((with_reducible apply go_callq_int (f := 14) (hf := Try.call14)); (· (cbv; try rfl)); (· intro wc hbc hxc; exact h3 wc hbc); intro z hz)
    )
  all_goals (refine bool_eq ?_; clear hX hT h1 h2 h3; subst hnd hnt; subst_vars; simp_all)

set_option maxRecDepth 100000 in
theorem localC (n : Int) (w : World) :
    Calls Try.prog 12 #[.int .i64 n] w (Ret w (.agg #[.int .i64 n, .bool false, .int .u8 0])) := by
  refine go_start (args := [.pt (.one (.int .i64 n))]) (c := NoRows) Try.func12 rfl (noRows_ok _) rfl rfl ?_
  obtain ⟨nd, hnd⟩ : ∃ f : Bool → Bool → Bool, f = and := ⟨_, rfl⟩
  obtain ⟨nt, hnt⟩ : ∃ f : Bool → Bool, f = not := ⟨_, rfl⟩
  obtain ⟨ar, har⟩ : ∃ f : BinOp → IntKind → Int → Int → Int, f = rAr := ⟨_, rfl⟩
  obtain ⟨cm, hcm⟩ : ∃ f : BinOp → Int → Int → Bool, f = rCm := ⟨_, rfl⟩
  obtain ⟨mx, hmx⟩ : ∃ f : Int → Int → Int, f = rMx := ⟨_, rfl⟩
  obtain ⟨mn, hmn⟩ : ∃ f : Int → Int → Int, f = rMn := ⟨_, rfl⟩
  have ar01 : ar .add .i64 0 1 = 1 := by rw [har]; decide
  have ar12 : ar .add .i64 1 1 = 2 := by rw [har]; decide
  obtain ⟨zpl, hzpl⟩ : ∃ f : Nat → Nat → Nat, f = fun x y => x + y := ⟨_, rfl⟩
  obtain ⟨zjn, hzjn⟩ : ∃ f : Nat → (Nat → List SC) → (Nat → List SC) → Nat → List SC, f = rJn := ⟨_, rfl⟩
  obtain ⟨zup, hzup⟩ : ∃ f : (Nat → List SC) → Nat → Nat → List SC → Nat → List SC, f = rUp := ⟨_, rfl⟩
  obtain ⟨zmi, hzmi⟩ : ∃ f : Nat → Nat → Nat, f = fun x y => x - y := ⟨_, rfl⟩
  obtain ⟨zdp, hzdp⟩ : ∃ f : Nat → (Nat → List SC) → Nat → List SC, f = rDp := ⟨_, rfl⟩
  have hT := T0_ok hnd hnt har hcm hmx hmn hzpl hzjn hzup hzmi hzdp
  repeat' (first
    | ((with_reducible apply go_ev hT 400); (· (cbv; try rfl)); (fail_if_success with_reducible apply stuck_id))
    | ((with_reducible refine go_brt ?_ ?_); (· first | rfl | assumption | (rw [hcm]; decide)))
    | ((with_reducible refine go_brf ?_ ?_); (· first | rfl | assumption | (rw [hcm]; decide)))
    | ((with_reducible refine go_brnt hnt ?_ ?_); (· first | rfl | assumption))
    | ((with_reducible refine go_brnf hnt ?_ ?_); (· first | rfl | assumption))
    | (with_reducible refine go_brn hnt (fun h => ?_) (fun h => ?_))
    | (with_reducible refine go_brl hcm (fun hlt => ?_) (fun hge => ?_))
    | (with_reducible refine go_br (fun h => ?_) (fun h => ?_))
    | ((with_reducible apply go_ret_val hT); (· (cbv; try rfl)); (· (cbv; try rfl)))
    | ((with_reducible apply go_fin_val hT); (· (cbv; try rfl)); (· (cbv; try rfl)))
    | ((with_reducible apply go_draw); (· rfl); (· kernel_rfl); (· kernel_rfl))
    | ((with_reducible apply go_drawE); (· kernel_rfl))
    | (with_reducible refine go_fork ?_)
    | (with_reducible refine fork_cons ?_ ?_)
    | (with_reducible exact fork_nil)
    | ((with_reducible refine go_need ?_ ?_ ?_); (· first | omega | (simp only [Int.ofNat_eq_natCast]; omega)); (· first | omega | (simp only [Int.ofNat_eq_natCast]; omega)))
    | ((with_reducible refine go_ob ?_ ?_); (· first | trivial | (refine ⟨trivial, ?_⟩; omega) | (rw [hzpl]; refine ⟨trivial, ?_⟩; show _ + _ ≤ 1073741824; omega) | (rw [hzpl]; show _ + _ ≤ 1073741824; omega)))
    | ((with_reducible apply go_ret_rows hT); (· (cbv; try rfl)); (· (cbv; try rfl)); (· (cbv; (try simp only [true_and, and_true]); (try ((repeat' apply And.intro) <;> (first | trivial | rfl | decide ))))); (· (cbv; (try simp only [true_and, and_true]); (try ((repeat' apply And.intro) <;> (first | trivial | rfl | exact RowLe.rfl' _ ))))); (· rfl))
    | ((with_reducible apply go_fin_rows hT); (· (cbv; try rfl)); (· (cbv; try rfl)); (· (cbv; (try simp only [true_and, and_true]); (try ((repeat' apply And.intro) <;> (first | trivial | rfl | decide ))))); (· (cbv; (try simp only [true_and, and_true]); (try ((repeat' apply And.intro) <;> (first | trivial | rfl | exact RowLe.rfl' _ ))))); (· rfl))
    )
  all_goals rfl

end Go.Proofs.Ytbimggeapaaliaa

/- Layer 19: how many constraints a point has. No condition. -/
namespace Go.Proofs.Ytbimggeapaaliaa
open Go.RowKit
set_option linter.unusedVariables false
set_option linter.unusedSimpArgs false

theorem conTo_mono (F : GFun) {a b : Nat} (h : a ≤ b) : (conTo F a).length ≤ (conTo F b).length := by
  induction b with
  | zero => obtain rfl : a = 0 := by omega
            exact Nat.le_refl _
  | succ b ih =>
    rcases Nat.lt_or_eq_of_le h with h | rfl
    · have := ih (by omega); simp only [conTo, List.length_append]; omega
    · exact Nat.le_refl _
theorem conTo_lt {F : GFun} : ∀ {N n j a : Nat}, n ≤ N → j < (conTo F N).length → ((conTo F N).getD j .zero).at_ = .ofNat a → (j < (conTo F n).length ↔ a < n)
  | 0, n, j, a, _, hj, _ => by simp [conTo] at hj
  | N + 1, n, j, a, hn, hj, ha => by
    simp only [conTo] at ha
    by_cases g : j < (conTo F N).length
    · rw [getD_app _ _ _ g] at ha
      rcases Nat.lt_or_eq_of_le hn with h | rfl
      · exact conTo_lt (by omega) g ha
      · have h1 := (conTo_lt (Nat.le_refl N) g ha).1 g
        exact ⟨fun _ => by omega, fun _ => hj⟩
    · obtain ⟨i, rfl⟩ : ∃ i, j = (conTo F N).length + i := ⟨j - (conTo F N).length, by omega⟩
      have hj' := hj
      simp only [conTo, List.length_append] at hj'
      rw [getD_app2] at ha
      have := (conN_ok _ (getD_mem (d := .zero) (show i < (conN F N).length by omega))).at_
      rw [this] at ha
      have ha : N = a := Int.ofNat.inj ha
      subst ha
      rcases Nat.lt_or_eq_of_le hn with h | rfl
      · have h2 := conTo_mono F (show n ≤ N by omega)
        exact ⟨fun g => by omega, fun g => by omega⟩
      · exact ⟨fun _ => by omega, fun _ => hj⟩
/-- How many a point has. -/
def cntN (F : GFun) (n : Nat) : Nat :=
  if isAt F n && ((stAt F n).k == 1 && (stAt F n).p.whole) then
    if (stAt F n).r.k == 4 then (if (stAt F n).r.p.d && isRefK (F.lk (stAt F n).r.p.l.toNat) then 2 else 1)
    else if (stAt F n).r.k == 1 && (stAt F n).r.a.k != 1 && (stAt F n).r.a.p.whole && isRefK (F.lk (stAt F n).r.a.p.l.toNat) && isRefK (F.lk (stAt F n).p.l.toNat) then 1 else 0
  else 0
theorem cntN_eq (F : GFun) (n : Nat) : (conN F n).length = cntN F n := by
  unfold conN cntN ofL
  by_cases h : isAt F n = true ∧ (stAt F n).k = 1
  · rw [if_pos h]
    simp only [h.1, h.2, Bool.true_and, beq_self_eq_true]
    repeat' split
    all_goals first | rfl | simp_all
  · rw [if_neg h]
    split
    · rename_i g
      simp only [Bool.and_eq_true, beq_iff_eq] at g
      exact absurd ⟨g.1, g.2.1⟩ h
    · rfl
theorem cntTo_succ (F : GFun) (n : Nat) : (conTo F (n + 1)).length = (conTo F n).length + cntN F n := by
  simp only [conTo, List.length_append, cntN_eq]

set_option maxRecDepth 100000 in
set_option maxHeartbeats 8000000 in
theorem countsC (F : GFun) (w : World) (hF : F.At w) (hK : F.Ty8) :
    Calls Try.prog 4 #[F.val] w (Ret w (.bool true)) := by
  have h1 (wc : World) (hk : KB ⟨w, []⟩ wc) := fitC F wc (hF.later hk) hK
  by_cases hO : fitB F = true
  case neg =>
    have e : fitB F = false := by simpa using hO
    rw [e] at h1
    clear hK hO e
    obtain ⟨pa, un, lA, ln, lc, lk, lt, bA, bn, bc, sA, sn, sc, s, jA, jn, jc, ja, jk, jo, jf, jx, je, jd⟩ := F
    obtain ⟨hX, hl, hb, hs, hj⟩ := hF
    simp only at hl hb hs hj
    refine go_start (args := [.pt (.agg (GFun.dat _))]) (c := (funX _)) Try.func4 rfl hX rfl rfl ?_
    obtain ⟨nd, hnd⟩ : ∃ f : Bool → Bool → Bool, f = and := ⟨_, rfl⟩
    obtain ⟨nt, hnt⟩ : ∃ f : Bool → Bool, f = not := ⟨_, rfl⟩
    obtain ⟨ar, har⟩ : ∃ f : BinOp → IntKind → Int → Int → Int, f = rAr := ⟨_, rfl⟩
    obtain ⟨cm, hcm⟩ : ∃ f : BinOp → Int → Int → Bool, f = rCm := ⟨_, rfl⟩
    obtain ⟨mx, hmx⟩ : ∃ f : Int → Int → Int, f = rMx := ⟨_, rfl⟩
    obtain ⟨mn, hmn⟩ : ∃ f : Int → Int → Int, f = rMn := ⟨_, rfl⟩
    have ar01 : ar .add .i64 0 1 = 1 := by rw [har]; decide
    have ar12 : ar .add .i64 1 1 = 2 := by rw [har]; decide
    obtain ⟨zpl, hzpl⟩ : ∃ f : Nat → Nat → Nat, f = fun x y => x + y := ⟨_, rfl⟩
    obtain ⟨zjn, hzjn⟩ : ∃ f : Nat → (Nat → List SC) → (Nat → List SC) → Nat → List SC, f = rJn := ⟨_, rfl⟩
    obtain ⟨zup, hzup⟩ : ∃ f : (Nat → List SC) → Nat → Nat → List SC → Nat → List SC, f = rUp := ⟨_, rfl⟩
    obtain ⟨zmi, hzmi⟩ : ∃ f : Nat → Nat → Nat, f = fun x y => x - y := ⟨_, rfl⟩
    obtain ⟨zdp, hzdp⟩ : ∃ f : Nat → (Nat → List SC) → Nat → List SC, f = rDp := ⟨_, rfl⟩
    have hT := T0_ok hnd hnt har hcm hmx hmn hzpl hzjn hzup hzmi hzdp
    repeat' (first
      | ((with_reducible apply go_ev hT 400); (· (cbv; try rfl)); (fail_if_success with_reducible apply stuck_id))
      | ((with_reducible refine go_brt ?_ ?_); (· first | rfl | assumption | (rw [hcm]; decide)))
      | ((with_reducible refine go_brf ?_ ?_); (· first | rfl | assumption | (rw [hcm]; decide)))
      | ((with_reducible refine go_brnt hnt ?_ ?_); (· first | rfl | assumption))
      | ((with_reducible refine go_brnf hnt ?_ ?_); (· first | rfl | assumption))
      | (with_reducible refine go_brn hnt (fun h => ?_) (fun h => ?_))
      | (with_reducible refine go_brl hcm (fun hlt => ?_) (fun hge => ?_))
      | (with_reducible refine go_br (fun h => ?_) (fun h => ?_))
      | ((with_reducible apply go_ret_val hT); (· (cbv; try rfl)); (· (cbv; try rfl)))
      | ((with_reducible apply go_fin_val hT); (· (cbv; try rfl)); (· (cbv; try rfl)))
      | ((with_reducible apply go_draw); (· rfl); (· kernel_rfl); (· kernel_rfl))
      | ((with_reducible apply go_drawE); (· kernel_rfl))
      | (with_reducible refine go_fork ?_)
      | (with_reducible refine fork_cons ?_ ?_)
      | (with_reducible exact fork_nil)
      | ((with_reducible refine go_need ?_ ?_ ?_); (· first | omega | (simp only [Int.ofNat_eq_natCast]; omega)); (· first | omega | (simp only [Int.ofNat_eq_natCast]; omega)))
      | ((with_reducible refine go_ob ?_ ?_); (· first | trivial | (refine ⟨trivial, ?_⟩; omega) | (rw [hzpl]; refine ⟨trivial, ?_⟩; show _ + _ ≤ 1073741824; omega) | (rw [hzpl]; show _ + _ ≤ 1073741824; omega)))
      | ((with_reducible apply go_ret_rows hT); (· (cbv; try rfl)); (· (cbv; try rfl)); (· (cbv; (try simp only [true_and, and_true]); (try ((repeat' apply And.intro) <;> (first | trivial | rfl | decide ))))); (· (cbv; (try simp only [true_and, and_true]); (try ((repeat' apply And.intro) <;> (first | trivial | rfl | exact RowLe.rfl' _ ))))); (· rfl))
      | ((with_reducible apply go_fin_rows hT); (· (cbv; try rfl)); (· (cbv; try rfl)); (· (cbv; (try simp only [true_and, and_true]); (try ((repeat' apply And.intro) <;> (first | trivial | rfl | decide ))))); (· (cbv; (try simp only [true_and, and_true]); (try ((repeat' apply And.intro) <;> (first | trivial | rfl | exact RowLe.rfl' _ ))))); (· rfl))
      | ((with_reducible apply go_call (f := 6) (hf := Try.call6)); (· (cbv; try rfl)); (· intro wc hbc hxc; exact aliveC wc))
      | ((with_reducible apply go_callq (f := 6) (hf := Try.call6)); (· (cbv; try rfl)); (· intro wc hbc hxc; exact aliveC wc))
      | ((with_reducible apply go_call (f := 7) (hf := Try.call7)); (· (cbv; try rfl)); (· intro wc hbc hxc; exact h1 wc hbc))
      | ((with_reducible apply go_callq (f := 7) (hf := Try.call7)); (· (cbv; try rfl)); (· intro wc hbc hxc; exact h1 wc hbc))
      )
    all_goals rfl
  rw [hO] at h1
  have hO := fit_ok hO
  have h2 (wc : World) (hk : KB ⟨w, []⟩ wc) := allConC F wc (hF.later hk) hO.small hO.nearS hO.chk
  have h4 (wc : World) (hk : KB ⟨w, []⟩ wc) := sizeC F wc (hF.later hk) hO.small
  have h5 (wc : World) (hk : KB ⟨w, []⟩ wc) := stmtN F wc (hF.later hk) hO.small
  have hM := hO.cons
  have hN9 := hO.pts
  have hq := fun n => hO.nearAt (n := n)
  rw [allCon_to] at h2 hM
  obtain ⟨N, hN⟩ : ∃ N, N = stN F.sn F.bn := ⟨_, rfl⟩
  obtain ⟨M, hMM⟩ : ∃ M, M = (conTo F (stN F.sn F.bn)).length := ⟨_, rfl⟩
  obtain ⟨L, hLL⟩ : ∃ L, L = conTo F (stN F.sn F.bn) := ⟨_, rfl⟩
  obtain ⟨fr, hfr⟩ : ∃ f : Nat → Int, f = fun j => (L.getD j .zero).fr := ⟨_, rfl⟩
  obtain ⟨tn, htn⟩ : ∃ f : Nat → Int, f = fun j => (L.getD j .zero).to := ⟨_, rfl⟩
  obtain ⟨an, han⟩ : ∃ f : Nat → Nat, f = fun j => (L.getD j .zero).at_.toNat := ⟨_, rfl⟩
  obtain ⟨wy, hwy⟩ : ∃ f : Nat → Int, f = fun j => (L.getD j .zero).why := ⟨_, rfl⟩
  obtain ⟨ia, hia⟩ : ∃ f : Nat → Bool, f = isAt F := ⟨_, rfl⟩
  obtain ⟨sa, hsa⟩ : ∃ f : Nat → GStmt, f = stAt F := ⟨_, rfl⟩
  obtain ⟨cl, hcl⟩ : ∃ f : Nat → Nat, f = fun n => (conTo F n).length := ⟨_, rfl⟩
  obtain ⟨cw, hcw⟩ : ∃ f : Nat → Nat, f = cntN F := ⟨_, rfl⟩
  obtain ⟨ad, had⟩ : ∃ f : Nat → Nat → Nat, f = fun n i => cl n + i := ⟨_, rfl⟩
  obtain ⟨wa, hwa⟩ : ∃ f : Nat → Nat → Nat, f = fun n i => cw n - i := ⟨_, rfl⟩
  have key : ∀ i, i < M → (L.getD i .zero).at_ = .ofNat (an i) := fun i hi => by
    obtain ⟨a, ha⟩ := @conTo_at F (n := stN F.sn F.bn) i (by omega)
    rw [← hLL] at ha
    have e : an i = a := by rw [han]; simp only [ha.ok.at_]; rfl
    rw [e]; exact ha.ok.at_
  have hCR : conR L = ⟨M, 4, fun j => [.int .i64 (fr j), .int .i64 (tn j), .int .i64 (.ofNat (an j)), .int .u8 (wy j)]⟩ := by
    rw [conR, hMM, hLL]
    congr 1
    funext j
    by_cases hj : j < M
    · have ha := key j hj
      rw [← hLL, hfr, hwy, htn, ← ha]; rfl
    · have hz : L.getD j .zero = .zero := by
        rw [hLL]; simp [List.getD, List.getElem?_eq_none (show (conTo F (stN F.sn F.bn)).length ≤ j by omega)]
      rw [← hLL, hz, hfr, hwy, htn, han]
      simp only [hz]; rfl
  rw [← hLL, hCR] at h2
  have c0 : cl 0 = 0 := by rw [hcl]; rfl
  have c1 : ∀ n, cl (n + 1) = cl n + cw n := fun n => by rw [hcl, hcw]; exact cntTo_succ F n
  have cN : cl N = M := by rw [hcl, hMM, hN]
  have cM : ∀ n, n ≤ N → cl n ≤ M := fun n h => by rw [← cN, hcl]; exact conTo_mono F h
  have k1 : ∀ n j, n ≤ N → j < M → (j < cl n ↔ an j < n) := fun n j hn hj => by
    rw [hcl]; exact conTo_lt (N := stN F.sn F.bn) (by omega) (by omega) (by rw [← hLL]; exact key j hj)
  have hin : ∀ n i, n < N → i ≤ cw n → ad n i < M → an (ad n i) = n → i < cw n := fun n i hn hi hj ha => by
    have := (k1 (n + 1) _ (by omega) hj).2 (by omega)
    rw [had, c1] at this; simp only at this; omega
  have hout : ∀ n i, n < N → i ≤ cw n → (M ≤ ad n i ∨ an (ad n i) ≠ n) → i = cw n := fun n i hn hi ha => by
    rcases Nat.lt_or_eq_of_le hi with g | g
    · exfalso
      have e1 := cM (n + 1) (by omega)
      rw [c1] at e1
      have e2 : ad n i = cl n + i := by rw [had]
      rcases ha with ha | ha
      · omega
      · have e3 := (k1 (n + 1) (ad n i) (by omega) (by omega)).1 (by rw [c1]; omega)
        have e4 := (k1 n (ad n i) (by omega) (by omega)).2
        have e5 : ¬ an (ad n i) < n := fun h => by have := e4 h; omega
        omega
    · exact g
  have cv : ∀ n, cw n = cntN F n := fun n => by rw [hcw]
  have cw2 : ∀ n, cw n ≤ 2 := fun n => by rw [cv, ← cntN_eq]; exact conN_len F n
  unfold cntN at cv
  have hM1 : M ≤ 1152 := by rw [hMM]; exact hM
  rw [← hN] at h4 hN9
  simp only [← hN, ← hia, ← hsa] at h5
  have hq : ∀ n, n < N → ia n = true → (sa n).k = 1 → (0 ≤ (sa n).p.l ∧ (sa n).p.l < F.ln) ∧ (0 ≤ (sa n).r.p.l ∧ (sa n).r.p.l < F.ln) ∧ (0 ≤ (sa n).r.a.p.l ∧ (sa n).r.a.p.l < F.ln) := fun n h => by rw [hia, hsa]; exact hq n (hN ▸ h)
  simp only [← hia, ← hsa] at cv
  have ad0 : ∀ n, ad n 0 = cl n := fun n => by rw [had]; rfl
  have wa0 : ∀ n, wa n 0 = cw n := fun n => by rw [hwa]; rfl
  have ad1 : ∀ n i, ad n (i + 1) = ad n i + 1 := fun n i => by rw [had]; rfl
  have wa1 : ∀ n i, wa n (i + 1) = wa n i - 1 := fun n i => by rw [hwa]; rfl
  have wap : ∀ n i, i < cw n → 0 < wa n i ∧ wa n i ≤ 2 := fun n i h => by have := cw2 n; rw [hwa]; show 0 < cw n - i ∧ cw n - i ≤ 2; omega
  have wae : ∀ n, wa n (cw n) = 0 := fun n => by rw [hwa]; exact Nat.sub_self _
  have ade : ∀ n, ad n (cw n) = cl (n + 1) := fun n => by rw [had, c1]
  clear key hCR hM hMM hLL hfr htn han hwy hia hsa hN hO hK hcl hcw k1 had hwa c1
  obtain ⟨pa, un, lA, ln, lc, lk, lt, bA, bn, bc, sA, sn, sc, s, jA, jn, jc, ja, jk, jo, jf, jx, je, jd⟩ := F
  obtain ⟨hX, hl, hb, hs, hj⟩ := hF
  simp only at hl hb hs hj
  simp only [Int.toNat] at cv
  simp only [] at hq cv h1 h2 h4 h5
  refine go_start (args := [.pt (.agg (GFun.dat _))]) (c := (funX _)) Try.func4 rfl hX rfl rfl ?_
  obtain ⟨nd, hnd⟩ : ∃ f : Bool → Bool → Bool, f = and := ⟨_, rfl⟩
  obtain ⟨nt, hnt⟩ : ∃ f : Bool → Bool, f = not := ⟨_, rfl⟩
  obtain ⟨ar, har⟩ : ∃ f : BinOp → IntKind → Int → Int → Int, f = rAr := ⟨_, rfl⟩
  obtain ⟨cm, hcm⟩ : ∃ f : BinOp → Int → Int → Bool, f = rCm := ⟨_, rfl⟩
  obtain ⟨mx, hmx⟩ : ∃ f : Int → Int → Int, f = rMx := ⟨_, rfl⟩
  obtain ⟨mn, hmn⟩ : ∃ f : Int → Int → Int, f = rMn := ⟨_, rfl⟩
  have ar01 : ar .add .i64 0 1 = 1 := by rw [har]; decide
  have ar12 : ar .add .i64 1 1 = 2 := by rw [har]; decide
  obtain ⟨zpl, hzpl⟩ : ∃ f : Nat → Nat → Nat, f = fun x y => x + y := ⟨_, rfl⟩
  obtain ⟨zjn, hzjn⟩ : ∃ f : Nat → (Nat → List SC) → (Nat → List SC) → Nat → List SC, f = rJn := ⟨_, rfl⟩
  obtain ⟨zup, hzup⟩ : ∃ f : (Nat → List SC) → Nat → Nat → List SC → Nat → List SC, f = rUp := ⟨_, rfl⟩
  obtain ⟨zmi, hzmi⟩ : ∃ f : Nat → Nat → Nat, f = fun x y => x - y := ⟨_, rfl⟩
  obtain ⟨zdp, hzdp⟩ : ∃ f : Nat → (Nat → List SC) → Nat → List SC, f = rDp := ⟨_, rfl⟩
  have hT := T0_ok hnd hnt har hcm hmx hmn hzpl hzjn hzup hzmi hzdp
  repeat' (first
    | ((with_reducible apply go_ev hT 400); (· (cbv; try rfl)); (fail_if_success with_reducible apply stuck_id))
    | ((with_reducible refine go_brt ?_ ?_); (· first | rfl | assumption | (rw [hcm]; decide)))
    | ((with_reducible refine go_brf ?_ ?_); (· first | rfl | assumption | (rw [hcm]; decide)))
    | ((with_reducible refine go_brnt hnt ?_ ?_); (· first | rfl | assumption))
    | ((with_reducible refine go_brnf hnt ?_ ?_); (· first | rfl | assumption))
    | (with_reducible refine go_brn hnt (fun h => ?_) (fun h => ?_))
    | (with_reducible refine go_brl hcm (fun hlt => ?_) (fun hge => ?_))
    | (with_reducible refine go_br (fun h => ?_) (fun h => ?_))
    | ((with_reducible apply go_ret_val hT); (· (cbv; try rfl)); (· (cbv; try rfl)))
    | ((with_reducible apply go_fin_val hT); (· (cbv; try rfl)); (· (cbv; try rfl)))
    | ((with_reducible apply go_draw); (· rfl); (· kernel_rfl); (· kernel_rfl))
    | ((with_reducible apply go_drawE); (· kernel_rfl))
    | (with_reducible refine go_fork ?_)
    | (with_reducible refine fork_cons ?_ ?_)
    | (with_reducible exact fork_nil)
    | ((with_reducible refine go_need ?_ ?_ ?_); (· first | omega | (simp only [Int.ofNat_eq_natCast]; omega)); (· first | omega | (simp only [Int.ofNat_eq_natCast]; omega)))
    | ((with_reducible refine go_ob ?_ ?_); (· first | trivial | (refine ⟨trivial, ?_⟩; omega) | (rw [hzpl]; refine ⟨trivial, ?_⟩; show _ + _ ≤ 1073741824; omega) | (rw [hzpl]; show _ + _ ≤ 1073741824; omega)))
    | ((with_reducible apply go_ret_rows hT); (· (cbv; try rfl)); (· (cbv; try rfl)); (· (cbv; (try simp only [true_and, and_true]); (try ((repeat' apply And.intro) <;> (first | trivial | rfl | decide  | ((rw [c0]; rfl))))))); (· (cbv; (try simp only [true_and, and_true]); (try ((repeat' apply And.intro) <;> (first | trivial | rfl | exact RowLe.rfl' _  | ((rw [c0]; rfl))))))); (· rfl))
    | ((with_reducible apply go_fin_rows hT); (· (cbv; try rfl)); (· (cbv; try rfl)); (· (cbv; (try simp only [true_and, and_true]); (try ((repeat' apply And.intro) <;> (first | trivial | rfl | decide  | ((rw [c0]; rfl))))))); (· (cbv; (try simp only [true_and, and_true]); (try ((repeat' apply And.intro) <;> (first | trivial | rfl | exact RowLe.rfl' _  | ((rw [c0]; rfl))))))); (· rfl))
    | ((with_reducible apply go_call (f := 6) (hf := Try.call6)); (· (cbv; try rfl)); (· intro wc hbc hxc; exact aliveC wc))
    | ((with_reducible apply go_callq (f := 6) (hf := Try.call6)); (· (cbv; try rfl)); (· intro wc hbc hxc; exact aliveC wc))
    | ((with_reducible apply go_call (f := 7) (hf := Try.call7)); (· (cbv; try rfl)); (· intro wc hbc hxc; exact h1 wc hbc))
    | ((with_reducible apply go_callq (f := 7) (hf := Try.call7)); (· (cbv; try rfl)); (· intro wc hbc hxc; exact h1 wc hbc))
    | ((with_reducible apply go_callR (f := 8) (hf := Try.call8)); (· intro S; cbv; try rfl); (· intro wc S hbc hxc hrc; exact h2 wc hbc); (· rfl))
    | ((with_reducible apply go_call (f := 10) (hf := Try.call10)); (· (cbv; try rfl)); (· intro wc hbc hxc; exact h4 wc hbc))
    | ((with_reducible apply go_callq (f := 10) (hf := Try.call10)); (· (cbv; try rfl)); (· intro wc hbc hxc; exact h4 wc hbc))
    | ((with_reducible apply go_call (f := 11) (hf := Try.call11)); (· (cbv; try rfl)); (· intro wc hbc hxc; exact h5 wc hbc n (by assumption)))
    | ((with_reducible apply go_callq (f := 11) (hf := Try.call11)); (· (cbv; try rfl)); (· intro wc hbc hxc; exact h5 wc hbc n (by assumption)))
    | ((with_reducible apply go_call (f := 12) (hf := Try.call12)); (· (cbv; try rfl)); (· intro wc hbc hxc; exact localC _ wc))
    | ((with_reducible apply go_callq (f := 12) (hf := Try.call12)); (· (cbv; try rfl)); (· intro wc hbc hxc; exact localC _ wc))
    | ((with_reducible apply go_call_bool (f := 13) (hf := Try.call13)); (· (cbv; try rfl)); (· intro wc hbc hxc; exact rReference _ _ wc); intro z hz)
    | ((with_reducible apply go_callq_bool (f := 13) (hf := Try.call13)); (· (cbv; try rfl)); (· intro wc hbc hxc; exact rReference _ _ wc); intro z hz)
    | (((with_reducible apply go_need); (· first | exact (hq n (by assumption) (by assumption) (of_decide_eq_true (by assumption))).1.1 | exact (hq n (by assumption) (by assumption) (of_decide_eq_true (by assumption))).2.1.1 | exact (hq n (by assumption) (by assumption) (of_decide_eq_true (by assumption))).2.2.1); (· first | exact (hq n (by assumption) (by assumption) (of_decide_eq_true (by assumption))).1.2 | exact (hq n (by assumption) (by assumption) (of_decide_eq_true (by assumption))).2.1.2 | exact (hq n (by assumption) (by assumption) (of_decide_eq_true (by assumption))).2.2.2)))
    | ((with_reducible refine go_loopk (σ := {n : Nat // n ≤ N}) [2, 8, 9, 10, 27, 28, 29, 30, 31, 32, 33, 34, 35, 36, 37, 38, 39, 40, 41, 42, 43, 44, 45, 46, 47, 48, 49, 50, 51, 52, 53, 54, 55, 56, 57, 58, 59, 60, 61, 62, 63, 64, 65, 66, 67, 68, 69, 70, 71, 72, 73, 74, 75, 76, 77, 78, 79, 80, 81, 82, 83, 84, 85, 86, 87, 88, 89, 90, 91, 92, 93, 94, 95, 96, 97, 98, 99, 100, 101, 102, 103, 104, 105, 106, 107, 108, 109, 110, 111, 112, 113, 114, 115, 116, 117, 118, 119, 120, 121, 122, 123, 124, 125, 126, 127, 128, 129, 130, 131, 132, 133, 134, 135, 136, 137, 138, 139, 140, 141, 142, 143, 144, 145, 146] (fun x => [(7, .pt (.one (.int .i64 (.ofNat x.1)))), (6, .pt (.one (.int .i64 (.ofNat (cl x.1)))))]) (fun x => []) (fun x => []) (fun x => N - x.1) ⟨0, by omega⟩ ?_ ?_ ?_ ?_); (· (refine le_mk ?_ ?_ ?_ ?_ <;> (cbv; (try simp only [true_and, and_true]); (try ((repeat' apply And.intro) <;> (first | trivial | rfl | exact RowLe.rfl' _ | (rw [wrap_nat har _ (by omega)]) | ((rw [c0]; rfl)))))))); (· (cbv; try rfl)); (· simp); (rintro ⟨n, hn⟩ mm hmm))
    | ((with_reducible refine go_stop ⟨n + 1, by omega⟩ ?_ ?_ ?_ ?_); (· exact Nat.lt_of_lt_of_eq (show N - (n + 1) < N - n from by omega) (Eq.symm (by assumption))); (· (refine le_mk ?_ ?_ ?_ ?_ <;> (cbv; (try simp only [true_and, and_true]); (try ((repeat' apply And.intro) <;> (first | trivial | rfl | exact RowLe.rfl' _ | (rw [wrap_nat har _ (by omega)]) | ((rw [c0]; rfl)))))))); (· (cbv; try rfl)); (· simp))
    )
  all_goals (try (refine congrArg Value.bool ?_; have hnN : n = N := (by omega); subst hnN; simp only [cN, decide_true]; done))
  all_goals as_aux_lemma =>
    have hwv : (2 : Int) = .ofNat (wa n 0) ∨ (1 : Int) = .ofNat (wa n 0) ∨ (0 : Int) = .ofNat (wa n 0) := by have := cw2 n; rw [wa0]; simp only [Int.ofNat_eq_natCast]; omega
    first
      | (have hw0 : (2 : Int) = .ofNat (wa n 0) := by
          rw [wa0, cv n]; clear hX hT h1 h2 h4 h5 hq hin hout c0 cN cM hl hb hs hj hwv ad0 ad1 wa0 wa1 wap wae ade cv cw2 ar01 ar12; subst hnd hnt hcm; simp_all [GPlace.whole, isRef, isRefK] <;> grind)
      | (have hw0 : (1 : Int) = .ofNat (wa n 0) := by
          rw [wa0, cv n]; clear hX hT h1 h2 h4 h5 hq hin hout c0 cN cM hl hb hs hj hwv ad0 ad1 wa0 wa1 wap wae ade cv cw2 ar01 ar12; subst hnd hnt hcm; simp_all [GPlace.whole, isRef, isRefK] <;> grind)
      | (have hw0 : (0 : Int) = .ofNat (wa n 0) := by
          rw [wa0, cv n]; clear hX hT h1 h2 h4 h5 hq hin hout c0 cN cM hl hb hs hj hwv ad0 ad1 wa0 wa1 wap wae ade cv cw2 ar01 ar12; subst hnd hnt hcm; simp_all [GPlace.whole, isRef, isRefK] <;> grind)
    have hsz : ∀ i, i < cw n → ar .sub .i64 (.ofNat (wa n i)) 1 = .ofNat (wa n (i + 1)) := fun i hi => by
      have := wap n i hi
      rw [wa1]; exact sub_nat har (n := 1) (by omega) (by omega)
    have hdz : ∀ i, ad n i < M → ar .add .i64 (.ofNat (ad n i)) 1 = .ofNat (ad n (i + 1)) := fun i hi => by
      rw [ad1]; exact wrap_nat har _ (by omega)
    have hd0 : Int.ofNat (cl n) = .ofNat (ad n 0) := by rw [ad0]
    have hex : ∀ i, i ≤ cw n → (M ≤ ad n i ∨ decide (Int.ofNat (an (ad n i)) = .ofNat n) = false) → i = cw n := fun i hi h => hout n i hlt hi (h.imp_right fun h e => by rw [e] at h; exact absurd rfl (of_decide_eq_false h))
    have hgo : ∀ i, i ≤ cw n → ad n i < M → decide (Int.ofNat (an (ad n i)) = .ofNat n) = true → i < cw n := fun i hi h1 h2 => hin n i hlt hi h1 (Int.ofNat.inj (of_decide_eq_true h2))
    clear hwv hin hout cv cw2 hq h1 h2 h4 h5
    repeat' (first
      | ((with_reducible apply go_ev hT 400); (· (cbv; try rfl)); (fail_if_success with_reducible apply stuck_id))
      | ((with_reducible refine go_brt ?_ ?_); (· first | rfl | assumption | (rw [hcm]; decide)))
      | ((with_reducible refine go_brf ?_ ?_); (· first | rfl | assumption | (rw [hcm]; decide)))
      | ((with_reducible refine go_brnt hnt ?_ ?_); (· first | rfl | assumption))
      | ((with_reducible refine go_brnf hnt ?_ ?_); (· first | rfl | assumption))
      | (with_reducible refine go_brn hnt (fun h => ?_) (fun h => ?_))
      | (with_reducible refine go_brl hcm (fun hlt => ?_) (fun hge => ?_))
      | (with_reducible refine go_br (fun h => ?_) (fun h => ?_))
      | ((with_reducible apply go_ret_val hT); (· (cbv; try rfl)); (· (cbv; try rfl)))
      | ((with_reducible apply go_fin_val hT); (· (cbv; try rfl)); (· (cbv; try rfl)))
      | ((with_reducible apply go_draw); (· rfl); (· kernel_rfl); (· kernel_rfl))
      | ((with_reducible apply go_drawE); (· kernel_rfl))
      | (with_reducible refine go_fork ?_)
      | (with_reducible refine fork_cons ?_ ?_)
      | (with_reducible exact fork_nil)
      | ((with_reducible refine go_need ?_ ?_ ?_); (· first | omega | (simp only [Int.ofNat_eq_natCast]; omega)); (· first | omega | (simp only [Int.ofNat_eq_natCast]; omega)))
      | ((with_reducible refine go_ob ?_ ?_); (· first | trivial | (refine ⟨trivial, ?_⟩; omega) | (rw [hzpl]; refine ⟨trivial, ?_⟩; show _ + _ ≤ 1073741824; omega) | (rw [hzpl]; show _ + _ ≤ 1073741824; omega)))
      | ((with_reducible apply go_ret_rows hT); (· (cbv; try rfl)); (· (cbv; try rfl)); (· (cbv; (try simp only [true_and, and_true]); (try ((repeat' apply And.intro) <;> (first | trivial | rfl | decide  | ((exact hw0)) | ((exact hd0)) | ((rw [hex i hi (.inl (by assumption)), ade]; done)) | ((rw [hex i hi (.inr (by assumption)), ade]; done))))))); (· (cbv; (try simp only [true_and, and_true]); (try ((repeat' apply And.intro) <;> (first | trivial | rfl | exact RowLe.rfl' _  | ((exact hw0)) | ((exact hd0)) | ((rw [hex i hi (.inl (by assumption)), ade]; done)) | ((rw [hex i hi (.inr (by assumption)), ade]; done))))))); (· rfl))
      | ((with_reducible apply go_fin_rows hT); (· (cbv; try rfl)); (· (cbv; try rfl)); (· (cbv; (try simp only [true_and, and_true]); (try ((repeat' apply And.intro) <;> (first | trivial | rfl | decide  | ((exact hw0)) | ((exact hd0)) | ((rw [hex i hi (.inl (by assumption)), ade]; done)) | ((rw [hex i hi (.inr (by assumption)), ade]; done))))))); (· (cbv; (try simp only [true_and, and_true]); (try ((repeat' apply And.intro) <;> (first | trivial | rfl | exact RowLe.rfl' _  | ((exact hw0)) | ((exact hd0)) | ((rw [hex i hi (.inl (by assumption)), ade]; done)) | ((rw [hex i hi (.inr (by assumption)), ade]; done))))))); (· rfl))
      | (((with_reducible apply go_need); (· exact Int.natCast_nonneg _); (· exact Int.ofNat_lt.2 (by assumption))))
      | ((with_reducible refine go_stop (⟨n + 1, by omega⟩ : {n : Nat // n ≤ N}) ?_ ?_ ?_ ?_); (· exact Nat.lt_of_lt_of_eq (show N - (n + 1) < N - n from by omega) (Eq.symm (by assumption))); (· (refine le_mk ?_ ?_ ?_ ?_ <;> (cbv; (try simp only [true_and, and_true]); (try ((repeat' apply And.intro) <;> (first | trivial | rfl | exact RowLe.rfl' _ | (rw [wrap_nat har _ (by omega)]) | ((exact hw0)) | ((exact hd0)) | ((rw [hex i hi (.inl (by assumption)), ade]; done)) | ((rw [hex i hi (.inr (by assumption)), ade]; done)))))))); (· (cbv; try rfl)); (· simp))
      | ((with_reducible refine go_loopk (σ := {i : Nat // i ≤ cw n}) [128, 129, 130, 131, 132, 133, 134, 135, 136, 137, 138, 139, 140, 141, 142, 143, 144] (fun x => [(6, .pt (.one (.int .i64 (.ofNat (ad n x.1))))), (8, .pt (.one (.int .i64 (.ofNat (wa n x.1)))))]) (fun x => []) (fun x => []) (fun x => cw n - x.1) ⟨0, by omega⟩ ?_ ?_ ?_ ?_); (· (refine le_mk ?_ ?_ ?_ ?_ <;> (cbv; (try simp only [true_and, and_true]); (try ((repeat' apply And.intro) <;> (first | trivial | rfl | exact RowLe.rfl' _ | (rw [wrap_nat har _ (by omega)]) | ((exact hw0)) | ((exact hd0)) | ((rw [hex i hi (.inl (by assumption)), ade]; done)) | ((rw [hex i hi (.inr (by assumption)), ade]; done)))))))); (· (cbv; try rfl)); (· simp); (rintro ⟨i, hi⟩ mm hmm))
      | ((have hadM : ad n i < M := (by assumption); have hic : i < cw n := hgo i hi hadM (by assumption); (with_reducible refine go_stop (⟨i + 1, Nat.succ_le_of_lt hic⟩ : {i : Nat // i ≤ cw n}) ?_ ?_ ?_ ?_); (· exact Nat.lt_of_lt_of_eq (show cw n - (i + 1) < cw n - i from by omega) (Eq.symm (by assumption))); (· (refine le_mk ?_ ?_ ?_ ?_ <;> (cbv; (try simp only [true_and, and_true]); (try ((repeat' apply And.intro) <;> (first | trivial | rfl | exact hdz i hadM | exact hsz i hic | exact RowLe.rfl' _)))))); (· (cbv; try rfl)); (· simp)))
      | (fail)
      )
    all_goals (try (exfalso; have hie : i = cw n := (by first | exact hex i hi (.inl (by assumption)) | exact hex i hi (.inr (by assumption))); have e0 : wa n i = 0 := (by rw [hie, wae]); exact (of_decide_eq_false (by assumption : decide (Int.ofNat (wa n i) = 0) = false)) (congrArg Int.ofNat e0)))
    all_goals trace_state

end Go.Proofs.Ytbimggeapaaliaa

/- ConstrainCounts: how many constraints each point has, for every function. No condition. -/
namespace Go.Proofs.Ytbimggeapaaliaa
open Go.ChangeShapes Go.WideShapes Go.ChangeAt Go.RowKit
set_option linter.unusedVariables false
set_option linter.unusedSimpArgs false

set_option maxRecDepth 100000 in
theorem constrainCounts_lifted (os : Os) (started : os.Started) (H : Type) (enc : TypeId × Value → H) :
    ReturnsInHanded {} Try.checked os 4 .any (Rows.constrainCountsSpec.pre6 enc Try.prog Try.f4 Rows.constrainCountsRow.domain false) (Rows.constrainCountsSpec.post enc Try.prog Try.f4 false true false false) := by
  refine returnsInHanded_of_change (C := Try.checked) Try.own started (by kernel_rfl) Try.func4
    (ChangeSpec.witness6 (enc := enc) (C := Try.checked) false ⟨#[], #[.agg #[.int .i64 0, .bool false, .slice none 0 0, .slice none 0 0]], []⟩ 8 (by kernel_rfl) (by kernel_rfl) (by kernel_rfl) (by kernel_rfl)) ?_
  intro W base args ds gs before hval0 hW _ _
  have hval : ∀ (j : Nat) t v, Try.f4.params[j]? = some t → args[j]? = some v → Value.okWide Try.prog W .any base t v := hval0
  have hW' := hW
  obtain ⟨p, q, hA0, hV, rfl, hfz, hnd⟩ := hW
  have hA : DataW.TrodAll enc Try.prog W 0 (fun _ => true) true Try.f4.params.toList args.toList ds p := hA0
  rw [Try.params4] at hA hval
  obtain ⟨v0, d0, rfl, rfl, h0⟩ := trodAll_one hA
  obtain ⟨F0, rfl, hF0, hK0⟩ := open_func h0 (hval 0 25 v0 rfl rfl)
  refine (countsC F0 W hF0 hK0).mono fun e W' ⟨he, hb⟩ => ⟨_, he, law_post Try.laidOut rfl hW' ?_ rfl hb rfl Try.boolRow⟩
  intro T hT
  rw [Try.params4] at hT
  simp only [List.mem_cons, List.not_mem_nil, or_false] at hT
  subst hT
  exact ⟨by kernel_rfl, of_decide_eq_true (by kernel_rfl)⟩

theorem constrainCounts_holds : Rows.ConstrainCountsSaid :=
  OpenClaim.holds_of_wide 4 Try.f4 rfl rfl rfl rfl rfl rfl rfl ⟨rfl, rfl, rfl, rfl, rfl⟩ rfl rfl rfl rfl rfl (by kernel_rfl) Try.func4 (by kernel_rfl)
    (of_decide_eq_true (by kernel_rfl)) (by unfold Func.isWrapper; rw [if_neg (by decide +kernel)]; exact ⟨rfl, rfl⟩)
    (fun os started H enc _ => constrainCounts_lifted os started H enc)

end Go.Proofs.Ytbimggeapaaliaa
