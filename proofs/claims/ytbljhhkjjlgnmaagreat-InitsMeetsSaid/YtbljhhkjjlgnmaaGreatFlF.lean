/- InitsMeets, the walk. No condition. -/
import Derived.Test.YtbljhhkjjlgnmaaGreatFlE
namespace Go.Proofs.YtbljhhkjjlgnmaaGreat
open Go.RowKit
set_option linter.unusedVariables false
set_option linter.unusedSimpArgs false

set_option maxRecDepth 100000 in
set_option maxHeartbeats 8000000 in
theorem meetsL (F : GFun) (w : World) (hF : F.At w) (hK : F.Ty8) :
    Calls Tryz.prog 6 #[F.val] w (Ret w (.bool true)) := by
  have h1 (wc : World) (hk : KB ⟨w, []⟩ wc) := greatC F wc (hF.later hk)
  have h2 (wc : World) (hk : KB ⟨w, []⟩ wc) := gfC F wc (hF.later hk)
  have h3 (wc : World) (hk : KB ⟨w, []⟩ wc) := rFnChk F wc (hF.later hk) hK
  generalize greatB F = q1 at h1
  generalize gfB F = q2 at h2
  by_cases hO : rchkV F = 0
  case neg =>
    generalize rchkV F = z at h3 hO
    have hq : decide (z = 0) = false := decide_eq_false hO
    clear hK hO
    obtain ⟨pa, un, lA, ln, lc, lk, lt, bA, bn, bc, sA, sn, sc, s, jA, jn, jc, ja, jk, jo, jf, jx, je, jd⟩ := F
    obtain ⟨hX, hl, hb, hs, hj⟩ := hF
    simp only at hl hb hs hj
    refine go_start (args := [.pt (.agg (GFun.dat _))]) (c := (funX _)) Tryz.func6 rfl hX rfl rfl ?_
    obtain ⟨nd, hnd⟩ : ∃ f : Bool → Bool → Bool, f = and := ⟨_, rfl⟩
    obtain ⟨nt, hnt⟩ : ∃ f : Bool → Bool, f = not := ⟨_, rfl⟩
    obtain ⟨ar, har⟩ : ∃ f : BinOp → IntKind → Int → Int → Int, f = rAr := ⟨_, rfl⟩
    obtain ⟨cm, hcm⟩ : ∃ f : BinOp → Int → Int → Bool, f = rCm := ⟨_, rfl⟩
    obtain ⟨mx, hmx⟩ : ∃ f : Int → Int → Int, f = rMx := ⟨_, rfl⟩
    obtain ⟨mn, hmn⟩ : ∃ f : Int → Int → Int, f = rMn := ⟨_, rfl⟩
    have ar01 : ar .add .i64 0 1 = 1 := by rw [har]; decide
    have ar12 : ar .add .i64 1 1 = 2 := by rw [har]; decide
    obtain ⟨zpl, hzpl⟩ : ∃ f : Nat → Nat → Nat, f = fun x y => x + y := ⟨_, rfl⟩
    obtain ⟨zjn, hzjn⟩ : ∃ f : Nat → (Nat → List SC) → (Nat → List SC) → Nat → List SC, f = rJn := ⟨_, rfl⟩
    obtain ⟨zup, hzup⟩ : ∃ f : (Nat → List SC) → Nat → Nat → List SC → Nat → List SC, f = rUp := ⟨_, rfl⟩
    obtain ⟨zmi, hzmi⟩ : ∃ f : Nat → Nat → Nat, f = fun x y => x - y := ⟨_, rfl⟩
    obtain ⟨zdp, hzdp⟩ : ∃ f : Nat → (Nat → List SC) → Nat → List SC, f = rDp := ⟨_, rfl⟩
    have hT := T0_ok hnd hnt har hcm hmx hmn hzpl hzjn hzup hzmi hzdp
    repeat' (first
      | ((with_reducible apply go_ev hT 400); (· (cbv; try rfl)); (fail_if_success with_reducible apply stuck_id))
      | ((with_reducible refine go_brt ?_ ?_); (· first | rfl | assumption | (rw [hcm]; decide)))
      | ((with_reducible refine go_brf ?_ ?_); (· first | rfl | assumption | (rw [hcm]; decide)))
      | ((with_reducible refine go_brnt hnt ?_ ?_); (· first | rfl | assumption))
      | ((with_reducible refine go_brnf hnt ?_ ?_); (· first | rfl | assumption))
      | (with_reducible refine go_brn hnt (fun h => ?_) (fun h => ?_))
      | (with_reducible refine go_brl hcm (fun hlt => ?_) (fun hge => ?_))
      | (with_reducible refine go_br (fun h => ?_) (fun h => ?_))
      | ((with_reducible apply go_ret_val hT); (· (cbv; try rfl)); (· (cbv; try rfl)))
      | ((with_reducible apply go_fin_val hT); (· (cbv; try rfl)); (· (cbv; try rfl)))
      | ((with_reducible apply go_draw); (· rfl); (· kernel_rfl); (· kernel_rfl))
      | ((with_reducible apply go_drawE); (· kernel_rfl))
      | (with_reducible refine go_fork ?_)
      | (with_reducible refine fork_cons ?_ ?_)
      | (with_reducible exact fork_nil)
      | ((with_reducible refine go_need ?_ ?_ ?_); (· first | omega | (simp only [Int.ofNat_eq_natCast]; omega)); (· first | omega | (simp only [Int.ofNat_eq_natCast]; omega)))
      | ((with_reducible refine go_ob ?_ ?_); (· first | trivial | (refine ⟨trivial, ?_⟩; omega) | (rw [hzpl]; refine ⟨trivial, ?_⟩; show _ + _ ≤ 1073741824; omega) | (rw [hzpl]; show _ + _ ≤ 1073741824; omega)))
      | ((with_reducible apply go_ret_rows hT); (· (cbv; try rfl)); (· (cbv; try rfl)); (· (cbv; (try simp only [true_and, and_true]); (try ((repeat' apply And.intro) <;> (first | trivial | rfl | decide ))))); (· (cbv; (try simp only [true_and, and_true]); (try ((repeat' apply And.intro) <;> (first | trivial | rfl | exact RowLe.rfl' _ ))))); (· rfl))
      | ((with_reducible apply go_fin_rows hT); (· (cbv; try rfl)); (· (cbv; try rfl)); (· (cbv; (try simp only [true_and, and_true]); (try ((repeat' apply And.intro) <;> (first | trivial | rfl | decide ))))); (· (cbv; (try simp only [true_and, and_true]); (try ((repeat' apply And.intro) <;> (first | trivial | rfl | exact RowLe.rfl' _ ))))); (· rfl))
      | ((with_reducible apply go_call (f := 22) (hf := Tryz.call22)); (· (cbv; try rfl)); (· intro wc hbc hxc; exact alive15C wc))
      | ((with_reducible apply go_callq (f := 22) (hf := Tryz.call22)); (· (cbv; try rfl)); (· intro wc hbc hxc; exact alive15C wc))
      | ((with_reducible apply go_call_bool (f := 13) (hf := Tryz.call13)); (· (cbv; try rfl)); (· intro wc hbc hxc; exact h1 wc hbc); intro z hz)
      | ((with_reducible apply go_callq_bool (f := 13) (hf := Tryz.call13)); (· (cbv; try rfl)); (· intro wc hbc hxc; exact h1 wc hbc); intro z hz)
      | ((with_reducible apply go_call_bool (f := 14) (hf := Tryz.call14)); (· (cbv; try rfl)); (· intro wc hbc hxc; exact h2 wc hbc); intro z hz)
      | ((with_reducible apply go_callq_bool (f := 14) (hf := Tryz.call14)); (· (cbv; try rfl)); (· intro wc hbc hxc; exact h2 wc hbc); intro z hz)
      | ((with_reducible apply go_call (f := 23) (hf := Tryz.call23)); (· (cbv; try rfl)); (· intro wc hbc hxc; exact h3 wc hbc))
      | ((with_reducible apply go_callq (f := 23) (hf := Tryz.call23)); (· (cbv; try rfl)); (· intro wc hbc hxc; exact h3 wc hbc))
      )
    all_goals rfl
  rw [hO] at h3
  have hO : F.Ok := (rchk_eq F).symm.trans hO
  have h4 (wc : World) (hk : KB ⟨w, []⟩ wc) := setC F wc (hF.later hk) hO
  have h50 (wc : World) (hk : KB ⟨w, []⟩ wc) := reachedC F wc (hF.later hk) hO
  have h60 (wc : World) (hk : KB ⟨w, []⟩ wc) (n : Nat) (hn : n < stN F.sn F.bn) := behL F wc (hF.later hk) hO n hn (setM F n)
  have h7 (wc : World) (hk : KB ⟨w, []⟩ wc) := sizeC F wc (hF.later hk) hO.small
  have h80 (wc : World) (hk : KB ⟨w, []⟩ wc) (n : Nat) (hn : n < stN F.sn F.bn) := rNextC F wc (hF.later hk) hO n hn
  have hN9 := hO.pts
  have hN0 := pts_pos hO
  have hl16 := hO.ln16
  have hpa := ok_pa hO
  obtain ⟨N, hN⟩ : ∃ N, N = stN F.sn F.bn := ⟨_, rfl⟩
  obtain ⟨al, hal⟩ : ∃ n, n = 2 ^ F.ln - 1 := ⟨_, rfl⟩
  obtain ⟨G, hG⟩ : ∃ G, G = flowF F := ⟨_, rfl⟩
  have gi : ∀ l, G.i0 l = (decide (1 ≤ l) && decide (Int.ofNat l ≤ F.pa)) := fun l => by rw [hG]; rfl
  obtain ⟨rb, hrb⟩ : ∃ f : Nat → Bool, f = fun j => reachB F (pbN F j) := ⟨_, rfl⟩
  obtain ⟨rm, hrm⟩ : ∃ f : Nat → Nat, f = fun j => mk (setM F j) F.ln := ⟨_, rfl⟩
  obtain ⟨bm, hbm⟩ : ∃ f : Nat → Nat, f = fun j => mk (G.be j (setM F j)) F.ln := ⟨_, rfl⟩
  obtain ⟨dn, hdn⟩ : ∃ f : Nat → Nat, f = fun n => (rsucc F n).length := ⟨_, rfl⟩
  obtain ⟨ld, hld⟩ : ∃ f : Nat → Nat → Nat, f = fun n j => (rsucc F n).getD j 0 := ⟨_, rfl⟩
  obtain ⟨W, hW⟩ : ∃ f : Nat → Nat → Nat → Bool, f = meW G rb (rsucc F) (setM F) := ⟨_, rfl⟩
  obtain ⟨P, hP⟩ : ∃ f : Nat → Nat → Nat → Nat → Bool, f = fun n k => ((rsucc F n).take k).foldl (mPut (G.be n (setM F n))) (W n) := ⟨_, rfl⟩
  obtain ⟨mW, hmW⟩ : ∃ f : Nat → Nat → Nat, f = fun n j => mk (W n j) F.ln := ⟨_, rfl⟩
  obtain ⟨mP, hmP⟩ : ∃ f : Nat → Nat → Nat → Nat, f = fun n k j => mk (P n k j) F.ln := ⟨_, rfl⟩
  obtain ⟨lm, hlm⟩ : ∃ f : Nat → Nat → Nat, f = fun n k => mk (fun l => P n k (ld n k) l && G.be n (setM F n) l) F.ln := ⟨_, rfl⟩
  have hRM : (⟨stN F.sn F.bn, 1, fun j => [SC.int .u32 (.ofNat (mk (setM F j) F.ln))]⟩ : ORow) = ⟨N, 1, fun j => [SC.int .u32 (.ofNat (rm j))]⟩ := by rw [hrm, hN]
  rw [hRM] at h4
  have hRR : reachR F (stN F.sn F.bn) = ⟨N, 1, fun j => [SC.bool (rb j)]⟩ := by rw [hrb, hN]; rfl
  rw [hRR] at h50
  have h6 (wc : World) (hk : KB ⟨w, []⟩ wc) (n : Nat) (hn : n < N) : Calls Tryz.prog 26 #[F.val, .int .i64 (.ofNat n), .int .u32 (.ofNat (rm n))] wc (Ret wc (.int .u32 (.ofNat (bm n)))) := by
    rw [hrm, hbm, hG]; exact h60 wc hk n (hN ▸ hn)
  have h8 (wc : World) (hk : KB ⟨w, []⟩ wc) (n : Nat) (hn : n < N) : Calls Tryz.prog 32 #[F.val, .int .i64 (.ofNat n)] wc (RetR wc (funX F) (.pt (.one (.rs 0))) [⟨dn n, 1, fun j => [.int .i64 (.ofNat (ld n j))]⟩]) := by
    have := h80 wc hk n (hN ▸ hn)
    rw [hdn, hld]; exact this
  have hlb : ∀ {n k}, n < N → k < dn n → ld n k < N := fun {n k} hn hk => by
    rw [hdn] at hk; rw [hN] at hn ⊢; rw [hld]
    simp only [List.getD, List.getElem?_eq_getElem hk, Option.getD_some]
    exact rsucc_lt hO hn _ (List.getElem_mem hk)
  have dnb : ∀ n, dn n ≤ 2 := fun n => by rw [hdn]; exact rsucc_len F n
  have p0 : ∀ {n}, mP n 0 = mW n := fun {n} => by rw [hmP, hmW, hP]; simp
  have ps : ∀ {n k}, k < dn n → ∀ j, mP n (k + 1) j = if j = ld n k then lm n k else mP n k j := fun {n k} hk j => by
    rw [hdn] at hk
    have e : P n (k + 1) = mPut (G.be n (setM F n)) (P n k) (ld n k) := by
      rw [hP, hld]
      simp only [List.take_add_one, List.getElem?_eq_getElem hk, Option.toList_some, List.foldl_append, List.foldl_cons, List.foldl_nil, List.getD, Option.getD_some]
    rw [hmP, hlm]
    simp only [e]
    by_cases g : j = ld n k
    · rw [if_pos g, g]; exact mk_ext fun l _ => by simp [mPut]
    · rw [if_neg g]; exact mk_ext fun l _ => by simp [mPut, g]
  have pe : ∀ {n}, rb n = true → mP n (dn n) = mW (n + 1) := fun {n} h => by
    rw [hmP, hmW, hP, hdn, hW]
    simp only [meW, if_pos h, List.take_length]
  have pf : ∀ {n}, rb n = false → mW n = mW (n + 1) := fun {n} h => by
    rw [hmW, hW]
    simp only [meW, h, Bool.false_eq_true, if_false]
  have we : ∀ j, j < N → rm j = mW N j := fun j _ => by
    rw [hrm, hmW, hW, hN, hG, hrb]
    exact mk_ext fun l _ => (meW_end hO).symm
  have hi0 : mk G.i0 F.ln = 2 ^ (F.pa.toNat + 1) - 2 := by
    refine Nat.eq_of_testBit_eq fun l => ?_
    have e : 2 ^ (F.pa.toNat + 1) - 2 = 2 * (2 ^ F.pa.toNat - 1) := by rw [Nat.pow_succ]; omega
    rw [mk_bit, gi, e]
    cases l with
    | zero => simp [Nat.testBit_zero]
    | succ l =>
      rw [Nat.testBit_succ, Nat.mul_div_cancel_left _ (by decide : 0 < 2), Nat.testBit_two_pow_sub_one]
      rw [Bool.eq_iff_iff]
      simp only [Bool.and_eq_true, decide_eq_true_eq, Int.ofNat_eq_natCast]
      omega
  have i1 : ∀ j, mW 0 j = if j = 0 then 2 ^ (F.pa.toNat + 1) - 2 else al := fun j => by
    rw [hmW, hW, hal, mk_all, ← hi0]
    by_cases g : j = 0
    · rw [if_pos g]; exact mk_ext fun l _ => by simp [meW, g]
    · rw [if_neg g]; exact mk_ext fun l _ => by simp [meW, g]
  have hlm2 : ∀ {ar : BinOp → IntKind → Int → Int → Int}, ar = rAr → ∀ n k, ar .and .u32 (.ofNat (mP n k (ld n k))) (.ofNat (bm n)) = .ofNat (lm n k) := fun {ar} har n k => by
    rw [hmP, hbm, hlm]; exact mk_and har (by omega) _ _
  have x1 : ∀ {n k}, k ≤ dn n → dn n ≤ k → (k = 0 ∨ rb n = true) → mP n k = mW (n + 1) := fun {n k} a b c => by
    have e : k = dn n := Nat.le_antisymm a b
    by_cases g : rb n = true
    · rw [e]; exact pe g
    · have hk : k = 0 := c.resolve_right g
      rw [hk, p0]; exact pf (by simpa using g)
  have x2 : ∀ {n k}, (k = 0 ∨ rb n = true) → rb n = false → mP n k = mW (n + 1) := fun {n k} c g => by
    have hk : k = 0 := c.resolve_right (by rw [g]; exact Bool.noConfusion)
    rw [hk, p0]; exact pf g
  have h9 (wc : World) (n : Nat) (a : n ≤ N) (b : N ≤ n) (c : Nat → Nat → Row) (v v' : Value) := sameMskC N rm (mW n) (fun j hj => by rw [Nat.le_antisymm a b]; exact we j hj) (by omega) c c wc v v'
  have hpa2 : 0 ≤ F.pa ∧ F.pa.toNat ≤ 15 := by omega
  rw [← hN] at h7 hN9 hN0
  clear hRM hRR hrb hrm hbm hdn hld hW hP hmW hmP hlm gi hG hi0 h60 h80 hN hO hK hpa pe pf we
  obtain ⟨pa, un, lA, ln, lc, lk, lt, bA, bn, bc, sA, sn, sc, s, jA, jn, jc, ja, jk, jo, jf, jx, je, jd⟩ := F
  obtain ⟨hX, hl, hb, hs, hj⟩ := hF
  simp only at hl hb hs hj
  try simp only at h4 h50 h6 h7 h8 hl16 hpa2 hal i1
  refine go_start (args := [.pt (.agg (GFun.dat ⟨pa, un, lA, ln, lc, lk, lt, bA, bn, bc, sA, sn, sc, s, jA, jn, jc, ja, jk, jo, jf, jx, je, jd⟩))]) (c := (funX ⟨pa, un, lA, ln, lc, lk, lt, bA, bn, bc, sA, sn, sc, s, jA, jn, jc, ja, jk, jo, jf, jx, je, jd⟩)) Tryz.func6 rfl hX rfl rfl ?_
  obtain ⟨nd, hnd⟩ : ∃ f : Bool → Bool → Bool, f = and := ⟨_, rfl⟩
  obtain ⟨nt, hnt⟩ : ∃ f : Bool → Bool, f = not := ⟨_, rfl⟩
  obtain ⟨ar, har⟩ : ∃ f : BinOp → IntKind → Int → Int → Int, f = rAr := ⟨_, rfl⟩
  obtain ⟨cm, hcm⟩ : ∃ f : BinOp → Int → Int → Bool, f = rCm := ⟨_, rfl⟩
  obtain ⟨mx, hmx⟩ : ∃ f : Int → Int → Int, f = rMx := ⟨_, rfl⟩
  obtain ⟨mn, hmn⟩ : ∃ f : Int → Int → Int, f = rMn := ⟨_, rfl⟩
  have ar01 : ar .add .i64 0 1 = 1 := by rw [har]; decide
  have ar12 : ar .add .i64 1 1 = 2 := by rw [har]; decide
  obtain ⟨zpl, hzpl⟩ : ∃ f : Nat → Nat → Nat, f = fun x y => x + y := ⟨_, rfl⟩
  obtain ⟨zjn, hzjn⟩ : ∃ f : Nat → (Nat → List SC) → (Nat → List SC) → Nat → List SC, f = rJn := ⟨_, rfl⟩
  obtain ⟨zup, hzup⟩ : ∃ f : (Nat → List SC) → Nat → Nat → List SC → Nat → List SC, f = rUp := ⟨_, rfl⟩
  obtain ⟨zmi, hzmi⟩ : ∃ f : Nat → Nat → Nat, f = fun x y => x - y := ⟨_, rfl⟩
  obtain ⟨zdp, hzdp⟩ : ∃ f : Nat → (Nat → List SC) → Nat → List SC, f = rDp := ⟨_, rfl⟩
  have hT := T0_ok hnd hnt har hcm hmx hmn hzpl hzjn hzup hzmi hzdp
  have hlm2 := @hlm2 ar har
  have c1 : cm .lss (.ofNat N) 0 = false := by rw [hcm]; exact decide_eq_false (Int.not_lt.2 (Int.natCast_nonneg N))
  have qz : ar .quo .u64 (.ofNat ln) 0 = .ofNat ln := quo_u64 har (x := Int.ofNat ln) (Int.natCast_nonneg ln) (by simp only [Int.ofNat_eq_natCast]; omega)
  have qp : ar .quo .u64 pa 0 = pa := (quo_u64 har (x := pa) hpa2.1 (by omega)).trans (by simp only [Int.ofNat_eq_natCast]; omega)
  have hal1 : ar .sub .u32 (ar .shl .u32 1 (ar .quo .u64 (.ofNat ln) 0)) 1 = .ofNat al := by
    rw [qz, u32_shl har (by omega), hal]
    exact u32_sub har (a := 2 ^ ln) (b := 1) Nat.one_le_two_pow (Nat.pow_lt_pow_right (by decide) (by omega))
  have hpa1 : ar .shl .u32 (ar .sub .u32 (ar .shl .u32 1 (ar .quo .u64 pa 0)) 1) 1 = .ofNat (2 ^ (pa.toNat + 1) - 2) := by
    rw [qp]
    have e : pa = .ofNat pa.toNat := by simp only [Int.ofNat_eq_natCast]; omega
    have e1 := u32_shl har (b := pa.toNat) (by omega)
    rw [← e] at e1
    have e2 := u32_sub har (a := 2 ^ pa.toNat) (b := 1) Nat.one_le_two_pow (Nat.pow_lt_pow_right (by decide) (by omega))
    have hle := Nat.pow_le_pow_right (n := 2) (by decide) hpa2.2
    have e3 := u32_shlN har (a := 2 ^ pa.toNat - 1) (b := 1) (by decide) (by omega)
    rw [e1]
    refine (congrArg (fun z => ar .shl .u32 z 1) e2).trans (e3.trans ?_)
    rw [Nat.pow_succ]
    exact congrArg Int.ofNat (by omega)
  obtain ⟨fl, hfl⟩ : ∃ f : Nat → Nat → Int, f = fun k j => if j < k then Int.ofNat al else 0 := ⟨_, rfl⟩
  have f0 : RowLe ⟨N, 1, fun x => [SC.int .u32 0]⟩ ⟨N, 1, fun j => [SC.int .u32 (fl 0 j)]⟩ := rowLe_of rfl fun j hj => ⟨⟨rfl, by rw [hfl]; simp⟩, trivial⟩
  have f1 : ∀ k, RowLe ⟨N, 1, zup (fun j => [SC.int .u32 (fl k j)]) k 0 [SC.int .u32 (.ofNat al)]⟩ ⟨N, 1, fun j => [SC.int .u32 (fl (k + 1) j)]⟩ := fun k => by
    refine rowLe_up hzup rfl (fun j hj h => ⟨⟨rfl, ?_⟩, trivial⟩) (fun _ => ⟨⟨rfl, ?_⟩, trivial⟩)
    · rw [hfl]; simp only
      by_cases g : j < k
      · rw [if_pos g, if_pos (by omega)]
      · rw [if_neg g, if_neg (by omega)]
    · rw [hfl]; simp only; rw [if_pos (by omega)]
  have f2 : ∀ k, N ≤ k → k ≤ N → RowLe ⟨N, 1, zup (fun j => [SC.int .u32 (fl k j)]) 0 0 [SC.int .u32 (.ofNat (2 ^ (pa.toNat + 1) - 2))]⟩ ⟨N, 1, fun j => [SC.int .u32 (.ofNat (mW 0 j))]⟩ := fun k hk _ => by
    refine rowLe_up hzup rfl (fun j hj h => ⟨⟨rfl, ?_⟩, trivial⟩) (fun _ => ⟨⟨rfl, ?_⟩, trivial⟩)
    · rw [hfl, i1]; simp only; rw [if_pos (by omega), if_neg h]
    · rw [i1]; simp only [if_true]
  have r1 : ∀ {n}, RowLe ⟨N, 1, fun j => [SC.int .u32 (.ofNat (mW n j))]⟩ ⟨N, 1, fun j => [SC.int .u32 (.ofNat (mP n 0 j))]⟩ := fun {n} => by rw [p0]; exact RowLe.rfl' _
  have r2 : ∀ {n k}, k < dn n → RowLe ⟨N, 1, zup (fun j => [SC.int .u32 (.ofNat (mP n k j))]) (ld n k) 0 [SC.int .u32 (ar .and .u32 (.ofNat (mP n k (ld n k))) (.ofNat (bm n)))]⟩ ⟨N, 1, fun j => [SC.int .u32 (.ofNat (mP n (k + 1) j))]⟩ := fun {n k} hk => by
    refine rowLe_up hzup rfl (fun j hj h => ⟨⟨rfl, ?_⟩, trivial⟩) (fun _ => ⟨⟨rfl, ?_⟩, trivial⟩)
    · rw [ps hk, if_neg h]
    · rw [ps hk, if_pos rfl, hlm2]
  have r3 : ∀ {n k}, k ≤ dn n → dn n ≤ k → (k = 0 ∨ rb n = true) → RowLe ⟨N, 1, fun j => [SC.int .u32 (.ofNat (mP n k j))]⟩ ⟨N, 1, fun j => [SC.int .u32 (.ofNat (mW (n + 1) j))]⟩ := fun {n k} a b c => by rw [x1 a b c]; exact RowLe.rfl' _
  have r4 : ∀ {n k}, (k = 0 ∨ rb n = true) → rb n = false → RowLe ⟨N, 1, fun j => [SC.int .u32 (.ofNat (mP n k j))]⟩ ⟨N, 1, fun j => [SC.int .u32 (.ofNat (mW (n + 1) j))]⟩ := fun {n k} a b => by rw [x2 a b]; exact RowLe.rfl' _
  have pk : ∀ {n k}, (k = 0 ∨ rb n = true) → rb n = true → (k + 1 = 0 ∨ rb n = true) := fun {n k} _ b => .inr b
  clear hfl i1 hal p0 ps x1 x2 hlm2
  repeat' (first
    | ((with_reducible apply go_ev hT 400); (· (cbv; try rfl)); (fail_if_success with_reducible apply stuck_id))
    | ((with_reducible refine go_brt ?_ ?_); (· first | rfl | assumption | (rw [hcm]; decide)))
    | ((with_reducible refine go_brf ?_ ?_); (· first | rfl | assumption | (rw [hcm]; decide)))
    | ((with_reducible refine go_brnt hnt ?_ ?_); (· first | rfl | assumption))
    | ((with_reducible refine go_brnf hnt ?_ ?_); (· first | rfl | assumption))
    | (with_reducible refine go_brn hnt (fun h => ?_) (fun h => ?_))
    | (with_reducible refine go_brl hcm (fun hlt => ?_) (fun hge => ?_))
    | (with_reducible refine go_br (fun h => ?_) (fun h => ?_))
    | ((with_reducible apply go_ret_val hT); (· (cbv; try rfl)); (· (cbv; try rfl)))
    | ((with_reducible apply go_fin_val hT); (· (cbv; try rfl)); (· (cbv; try rfl)))
    | ((with_reducible apply go_draw); (· rfl); (· kernel_rfl); (· kernel_rfl))
    | ((with_reducible apply go_drawE); (· kernel_rfl))
    | (with_reducible refine go_fork ?_)
    | (with_reducible refine fork_cons ?_ ?_)
    | (with_reducible exact fork_nil)
    | ((with_reducible refine go_need ?_ ?_ ?_); (· first | omega | (simp only [Int.ofNat_eq_natCast]; omega)); (· first | omega | (simp only [Int.ofNat_eq_natCast]; omega)))
    | ((with_reducible refine go_ob ?_ ?_); (· first | trivial | (refine ⟨trivial, ?_⟩; omega) | (rw [hzpl]; refine ⟨trivial, ?_⟩; show _ + _ ≤ 1073741824; omega) | (rw [hzpl]; show _ + _ ≤ 1073741824; omega) | ((exact ⟨Int.natCast_nonneg N, (show (N : Int) ≤ 1073741824 by omega)⟩))))
    | ((with_reducible apply go_ret_rows hT); (· (cbv; try rfl)); (· (cbv; try rfl)); (· (cbv; (try simp only [true_and, and_true]); (try ((repeat' apply And.intro) <;> (first | trivial | rfl | decide  | ((rw [wrap_nat har _ (by have := dnb n; have h9 : k < dn n := (by assumption); omega)])) | ((exact f0)) | ((exact f1 _)) | ((exact f2 k0 (by omega) (by omega))) | ((exact r1)) | ((exact r2 (by assumption))) | ((exact r3 hk (by assumption) hk2)) | ((exact r4 hk2 (by assumption)))))))); (· (cbv; (try simp only [true_and, and_true]); (try ((repeat' apply And.intro) <;> (first | trivial | rfl | exact RowLe.rfl' _  | ((rw [wrap_nat har _ (by have := dnb n; have h9 : k < dn n := (by assumption); omega)])) | ((exact f0)) | ((exact f1 _)) | ((exact f2 k0 (by omega) (by omega))) | ((exact r1)) | ((exact r2 (by assumption))) | ((exact r3 hk (by assumption) hk2)) | ((exact r4 hk2 (by assumption)))))))); (· rfl))
    | ((with_reducible apply go_fin_rows hT); (· (cbv; try rfl)); (· (cbv; try rfl)); (· (cbv; (try simp only [true_and, and_true]); (try ((repeat' apply And.intro) <;> (first | trivial | rfl | decide  | ((rw [wrap_nat har _ (by have := dnb n; have h9 : k < dn n := (by assumption); omega)])) | ((exact f0)) | ((exact f1 _)) | ((exact f2 k0 (by omega) (by omega))) | ((exact r1)) | ((exact r2 (by assumption))) | ((exact r3 hk (by assumption) hk2)) | ((exact r4 hk2 (by assumption)))))))); (· (cbv; (try simp only [true_and, and_true]); (try ((repeat' apply And.intro) <;> (first | trivial | rfl | exact RowLe.rfl' _  | ((rw [wrap_nat har _ (by have := dnb n; have h9 : k < dn n := (by assumption); omega)])) | ((exact f0)) | ((exact f1 _)) | ((exact f2 k0 (by omega) (by omega))) | ((exact r1)) | ((exact r2 (by assumption))) | ((exact r3 hk (by assumption) hk2)) | ((exact r4 hk2 (by assumption)))))))); (· rfl))
    | ((with_reducible apply go_call (f := 22) (hf := Tryz.call22)); (· (cbv; try rfl)); (· intro wc hbc hxc; exact alive15C wc))
    | ((with_reducible apply go_callq (f := 22) (hf := Tryz.call22)); (· (cbv; try rfl)); (· intro wc hbc hxc; exact alive15C wc))
    | ((with_reducible apply go_call_bool (f := 13) (hf := Tryz.call13)); (· (cbv; try rfl)); (· intro wc hbc hxc; exact h1 wc hbc); intro z hz)
    | ((with_reducible apply go_callq_bool (f := 13) (hf := Tryz.call13)); (· (cbv; try rfl)); (· intro wc hbc hxc; exact h1 wc hbc); intro z hz)
    | ((with_reducible apply go_call_bool (f := 14) (hf := Tryz.call14)); (· (cbv; try rfl)); (· intro wc hbc hxc; exact h2 wc hbc); intro z hz)
    | ((with_reducible apply go_callq_bool (f := 14) (hf := Tryz.call14)); (· (cbv; try rfl)); (· intro wc hbc hxc; exact h2 wc hbc); intro z hz)
    | ((with_reducible apply go_call (f := 23) (hf := Tryz.call23)); (· (cbv; try rfl)); (· intro wc hbc hxc; exact h3 wc hbc))
    | ((with_reducible apply go_callq (f := 23) (hf := Tryz.call23)); (· (cbv; try rfl)); (· intro wc hbc hxc; exact h3 wc hbc))
    | ((with_reducible apply go_callR (f := 15) (hf := Tryz.call15)); (· intro S; cbv; try rfl); (· intro wc S hbc hxc hrc; exact h4 wc hbc); (· rfl))
    | ((with_reducible apply go_callR (f := 31) (hf := Tryz.call31)); (· intro S; cbv; try rfl); (· intro wc S hbc hxc hrc; exact h50 wc hbc); (· rfl))
    | ((with_reducible apply go_call (f := 24) (hf := Tryz.call24)); (· (cbv; try rfl)); (· intro wc hbc hxc; exact h7 wc hbc))
    | ((with_reducible apply go_callq (f := 24) (hf := Tryz.call24)); (· (cbv; try rfl)); (· intro wc hbc hxc; exact h7 wc hbc))
    | ((with_reducible apply go_callR (f := 32) (hf := Tryz.call32)); (· intro S; cbv; try rfl); (· intro wc S hbc hxc hrc; exact h8 wc hbc n (by assumption)); (· rfl))
    | ((with_reducible apply go_call (f := 26) (hf := Tryz.call26)); (· (cbv; try rfl)); (· intro wc hbc hxc; exact h6 wc hbc n (by assumption)))
    | ((with_reducible apply go_callq (f := 26) (hf := Tryz.call26)); (· (cbv; try rfl)); (· intro wc hbc hxc; exact h6 wc hbc n (by assumption)))
    | ((with_reducible apply go_callRv (f := 19) (hf := Tryz.call19)); (· intro S; cbv; try rfl); (· intro wc S hbc hxc hrc; exact h9 wc n hn (by assumption) _ _ _ (hrc 0 _ rfl) (hrc 2 _ rfl)))
    | ((with_reducible apply go_callqRv (f := 19) (hf := Tryz.call19)); (· intro S; cbv; try rfl); (· intro wc S hbc hxc hrc; exact h9 wc n hn (by assumption) _ _ _ (hrc 0 _ rfl) (hrc 2 _ rfl)))
    | ((rw [hal1]))
    | ((rw [hpa1]))
    | ((with_reducible refine go_loopk (σ := {k : Nat // k ≤ N}) [68, 69, 70, 71, 72, 73, 74, 75, 76, 77] (fun x => [(10, .pt (.one (.int .i64 (.ofNat x.1))))]) (fun x => []) (fun x => [(2, ⟨N, 1, fun j => [.int .u32 (fl x.1 j)]⟩)]) (fun x => N - x.1) ⟨0, by omega⟩ ?_ ?_ ?_ ?_); (· (refine le_mk ?_ ?_ ?_ ?_ <;> (cbv; (try simp only [true_and, and_true]); (try ((repeat' apply And.intro) <;> (first | trivial | rfl | exact RowLe.rfl' _ | (rw [wrap_nat har _ (by omega)]) | ((rw [wrap_nat har _ (by have := dnb n; have h9 : k < dn n := (by assumption); omega)])) | ((exact f0)) | ((exact f1 _)) | ((exact f2 k0 (by omega) (by omega))) | ((exact r1)) | ((exact r2 (by assumption))) | ((exact r3 hk (by assumption) hk2)) | ((exact r4 hk2 (by assumption))))))))); (· (cbv; try rfl)); (· simp); (rintro ⟨k0, hk0⟩ mm hmm))
    | ((with_reducible refine go_loopk (σ := {n : Nat // n ≤ N}) [12, 13, 86, 87, 88, 89, 90, 91, 92, 93, 94, 95, 96, 97, 98, 99, 100, 101, 102, 103, 104, 105, 106, 107, 108, 109, 110, 111, 112, 113, 114, 115, 116, 117, 118, 119, 120, 121, 122] (fun x => [(11, .pt (.one (.int .i64 (.ofNat x.1))))]) (fun x => []) (fun x => [(2, ⟨N, 1, fun j => [.int .u32 (.ofNat (mW x.1 j))]⟩)]) (fun x => N - x.1) ⟨0, by omega⟩ ?_ ?_ ?_ ?_); (· (refine le_mk ?_ ?_ ?_ ?_ <;> (cbv; (try simp only [true_and, and_true]); (try ((repeat' apply And.intro) <;> (first | trivial | rfl | exact RowLe.rfl' _ | (rw [wrap_nat har _ (by omega)]) | ((rw [wrap_nat har _ (by have := dnb n; have h9 : k < dn n := (by assumption); omega)])) | ((exact f0)) | ((exact f1 _)) | ((exact f2 k0 (by omega) (by omega))) | ((exact r1)) | ((exact r2 (by assumption))) | ((exact r3 hk (by assumption) hk2)) | ((exact r4 hk2 (by assumption))))))))); (· (cbv; try rfl)); (· simp); (rintro ⟨n, hn⟩ mm hmm))
    | ((with_reducible refine go_loopk (σ := {k : Nat // k ≤ dn n ∧ (k = 0 ∨ rb n = true)}) [95, 96, 97, 98, 99, 100, 101, 102, 103, 104, 105, 106, 107, 108, 109, 110, 111, 112, 113, 114, 115, 116, 117, 118, 119, 120, 121, 122] (fun x => [(13, .pt (.one (.int .i64 (.ofNat x.1))))]) (fun x => []) (fun x => [(2, ⟨N, 1, fun j => [.int .u32 (.ofNat (mP n x.1 j))]⟩)]) (fun x => dn n - x.1) ⟨0, by omega, .inl rfl⟩ ?_ ?_ ?_ ?_); (· (refine le_mk ?_ ?_ ?_ ?_ <;> (cbv; (try simp only [true_and, and_true]); (try ((repeat' apply And.intro) <;> (first | trivial | rfl | exact RowLe.rfl' _ | (rw [wrap_nat har _ (by omega)]) | ((rw [wrap_nat har _ (by have := dnb n; have h9 : k < dn n := (by assumption); omega)])) | ((exact f0)) | ((exact f1 _)) | ((exact f2 k0 (by omega) (by omega))) | ((exact r1)) | ((exact r2 (by assumption))) | ((exact r3 hk (by assumption) hk2)) | ((exact r4 hk2 (by assumption))))))))); (· (cbv; try rfl)); (· simp); (rintro ⟨k, hk, hk2⟩ mm hmm))
    | (((with_reducible apply go_need); (· rw [qz]; exact Int.natCast_nonneg _); (· rw [qz]; exact (show ((ln : Nat) : Int) < ((ln + 1 : Nat) : Int) by omega))))
    | (((with_reducible apply go_need); (· rw [qp]; exact hpa2.1); (· rw [qp]; exact (show pa < ((pa.toNat + 1 : Nat) : Int) by omega))))
    | (((with_reducible apply go_need); (· exact Int.le_refl 0); (· exact Int.natCast_pos.2 hN0)))
    | (((with_reducible apply go_need); (· exact Int.natCast_nonneg _); (· exact Int.ofNat_lt.2 (by assumption))))
    | (((with_reducible apply go_need); (· exact Int.natCast_nonneg _); (· exact Int.ofNat_lt.2 (hlb (by assumption) (by assumption)))))
    | ((with_reducible refine go_stop (⟨k0 + 1, by omega⟩ : {k : Nat // k ≤ N}) ?_ ?_ ?_ ?_); (· exact Nat.lt_of_lt_of_eq (show N - (k0 + 1) < N - k0 from by omega) (Eq.symm (by assumption))); (· (refine le_mk ?_ ?_ ?_ ?_ <;> (cbv; (try simp only [true_and, and_true]); (try ((repeat' apply And.intro) <;> (first | trivial | rfl | exact RowLe.rfl' _ | (rw [wrap_nat har _ (by omega)]) | ((rw [wrap_nat har _ (by have := dnb n; have h9 : k < dn n := (by assumption); omega)])) | ((exact f0)) | ((exact f1 _)) | ((exact f2 k0 (by omega) (by omega))) | ((exact r1)) | ((exact r2 (by assumption))) | ((exact r3 hk (by assumption) hk2)) | ((exact r4 hk2 (by assumption))))))))); (· (cbv; try rfl)); (· simp))
    | ((with_reducible refine go_stop (⟨n + 1, by omega⟩ : {n : Nat // n ≤ N}) ?_ ?_ ?_ ?_); (· exact Nat.lt_of_lt_of_eq (show N - (n + 1) < N - n from by omega) (Eq.symm (by assumption))); (· (refine le_mk ?_ ?_ ?_ ?_ <;> (cbv; (try simp only [true_and, and_true]); (try ((repeat' apply And.intro) <;> (first | trivial | rfl | exact RowLe.rfl' _ | (rw [wrap_nat har _ (by omega)]) | ((rw [wrap_nat har _ (by have := dnb n; have h9 : k < dn n := (by assumption); omega)])) | ((exact f0)) | ((exact f1 _)) | ((exact f2 k0 (by omega) (by omega))) | ((exact r1)) | ((exact r2 (by assumption))) | ((exact r3 hk (by assumption) hk2)) | ((exact r4 hk2 (by assumption))))))))); (· (cbv; try rfl)); (· simp))
    | ((with_reducible refine go_stop (⟨k + 1, Nat.succ_le_of_lt (by assumption), pk hk2 (by assumption)⟩ : {k : Nat // k ≤ dn n ∧ (k = 0 ∨ rb n = true)}) ?_ ?_ ?_ ?_); (· subst hmm; (have hlt2 : k < dn n := (by assumption); show dn n - (k + 1) < dn n - k; omega)); (· (refine le_mk ?_ ?_ ?_ ?_ <;> (cbv; (try simp only [true_and, and_true]); (try ((repeat' apply And.intro) <;> (first | trivial | rfl | exact RowLe.rfl' _ | (rw [wrap_nat har _ (by omega)]) | ((rw [wrap_nat har _ (by have := dnb n; have h9 : k < dn n := (by assumption); omega)])) | ((exact f0)) | ((exact f1 _)) | ((exact f2 k0 (by omega) (by omega))) | ((exact r1)) | ((exact r2 (by assumption))) | ((exact r3 hk (by assumption) hk2)) | ((exact r4 hk2 (by assumption))))))))); (· (cbv; try rfl)); (· simp))
    | (fail)
    )
  all_goals first | rfl | trace_state

end Go.Proofs.YtbljhhkjjlgnmaaGreat
