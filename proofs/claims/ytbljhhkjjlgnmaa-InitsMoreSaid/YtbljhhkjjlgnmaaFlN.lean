/- InitsMore, the walk. No condition. -/
import Derived.Test.YtbljhhkjjlgnmaaFlC
import Derived.Test.YtbljhhkjjlgnmaaFlM
namespace Go.Proofs.Ytbljhhkjjlgnmaa
open Go.RowKit
set_option linter.unusedVariables false
set_option linter.unusedSimpArgs false

set_option maxRecDepth 100000 in
set_option maxHeartbeats 8000000 in
theorem moreL (F : GFun) (w : World) (hF : F.At w) (hK : F.Ty8) (p : Int) :
    Calls Try.prog 4 #[F.val, .int .i64 p] w (Ret w (.bool true)) := by
  have hFp : ∀ {wc} q, F.At wc → (F.par q).At wc := fun q h => ⟨h.ok, h.l, h.b, h.s, h.j⟩
  have hKp : ∀ q, (F.par q).Ty8 := fun q => hK
  have e0 : F.par F.pa = F := by cases F; rfl
  have h1 (wc : World) (hk : KB ⟨w, []⟩ wc) := greatC F wc (hF.later hk)
  have h2 (wc : World) (hk : KB ⟨w, []⟩ wc) := gfC F wc (hF.later hk)
  obtain ⟨zc, hzc⟩ : ∃ f : Int → Int, f = fun q => rchkV (F.par q) := ⟨_, rfl⟩
  have h3 (wc : World) (hk : KB ⟨w, []⟩ wc) (q : Int) : Calls Try.prog 14 #[(F.par q).val] wc (Ret wc (.int .i64 (zc q))) := by
    rw [hzc]; exact rFnChk (F.par q) wc (hFp q (hF.later hk)) (hKp q)
  have hok : ∀ q, zc q = 0 → (F.par q).Ok := fun q h => (rchk_eq _).symm.trans (by rw [hzc] at h; exact h)
  generalize greatB F = q1 at h1
  generalize gfB F = q2 at h2
  by_cases hO : zc F.pa = 0
  case neg =>
    have hq : decide (zc F.pa = 0) = false := decide_eq_false hO
    clear hK hO hKp hFp e0 hok hzc
    obtain ⟨pa, un, lA, ln, lc, lk, lt, bA, bn, bc, sA, sn, sc, s, jA, jn, jc, ja, jk, jo, jf, jx, je, jd⟩ := F
    obtain ⟨hX, hl, hb, hs, hj⟩ := hF
    simp only at hl hb hs hj
    simp only [GFun.par, GFun.val] at h3 hq
    refine go_start (args := [.pt (.agg (GFun.dat _)), .pt (.one (.int .i64 p))]) (c := (funX _)) Try.func4 rfl hX rfl rfl ?_
    obtain ⟨nd, hnd, nt, hnt, ar, har, cm, hcm, mx, hmx, mn, hmn, ar01, ar12, zpl, hzpl, zjn, hzjn, zup, hzup, zmi, hzmi, zdp, hzdp, hT⟩ := t0_all
    repeat' (first
      | ((with_reducible apply go_ev hT 400); (· (cbv; try rfl)); (fail_if_success with_reducible apply stuck_id))
      | ((with_reducible refine go_brt ?_ ?_); (· first | rfl | assumption | (rw [hcm]; decide)))
      | ((with_reducible refine go_brf ?_ ?_); (· first | rfl | assumption | (rw [hcm]; decide)))
      | ((with_reducible refine go_brnt hnt ?_ ?_); (· first | rfl | assumption))
      | ((with_reducible refine go_brnf hnt ?_ ?_); (· first | rfl | assumption))
      | (with_reducible refine go_brn hnt (fun h => ?_) (fun h => ?_))
      | (with_reducible refine go_brl hcm (fun hlt => ?_) (fun hge => ?_))
      | (with_reducible refine go_br (fun h => ?_) (fun h => ?_))
      | ((with_reducible apply go_ret_val hT); (· (cbv; try rfl)); (· (cbv; try rfl)))
      | ((with_reducible apply go_fin_val hT); (· (cbv; try rfl)); (· (cbv; try rfl)))
      | ((with_reducible apply go_draw); (· rfl); (· kernel_rfl); (· kernel_rfl))
      | ((with_reducible apply go_drawE); (· kernel_rfl))
      | (with_reducible refine go_fork ?_)
      | (with_reducible refine fork_cons ?_ ?_)
      | (with_reducible exact fork_nil)
      | ((with_reducible refine go_need ?_ ?_ ?_); (· first | omega | (simp only [Int.ofNat_eq_natCast]; omega)); (· first | omega | (simp only [Int.ofNat_eq_natCast]; omega)))
      | ((with_reducible refine go_ob ?_ ?_); (· first | trivial | (refine ⟨trivial, ?_⟩; omega) | (rw [hzpl]; refine ⟨trivial, ?_⟩; show _ + _ ≤ 1073741824; omega) | (rw [hzpl]; show _ + _ ≤ 1073741824; omega)))
      | ((with_reducible apply go_ret_rows hT); (· (cbv; try rfl)); (· (cbv; try rfl)); (· (cbv; (try simp only [true_and, and_true]); (try ((repeat' apply And.intro) <;> (first | trivial | rfl | decide ))))); (· (cbv; (try simp only [true_and, and_true]); (try ((repeat' apply And.intro) <;> (first | trivial | rfl | exact RowLe.rfl' _ ))))); (· rfl))
      | ((with_reducible apply go_fin_rows hT); (· (cbv; try rfl)); (· (cbv; try rfl)); (· (cbv; (try simp only [true_and, and_true]); (try ((repeat' apply And.intro) <;> (first | trivial | rfl | decide ))))); (· (cbv; (try simp only [true_and, and_true]); (try ((repeat' apply And.intro) <;> (first | trivial | rfl | exact RowLe.rfl' _ ))))); (· rfl))
      | ((with_reducible apply go_call (f := 12) (hf := Try.call12)); (· (cbv; try rfl)); (· intro wc hbc hxc; exact alive15C wc))
      | ((with_reducible apply go_callq (f := 12) (hf := Try.call12)); (· (cbv; try rfl)); (· intro wc hbc hxc; exact alive15C wc))
      | ((with_reducible apply go_call_bool (f := 15) (hf := Try.call15)); (· (cbv; try rfl)); (· intro wc hbc hxc; exact h1 wc hbc); intro z hz)
      | ((with_reducible apply go_callq_bool (f := 15) (hf := Try.call15)); (· (cbv; try rfl)); (· intro wc hbc hxc; exact h1 wc hbc); intro z hz)
      | ((with_reducible apply go_call_bool (f := 16) (hf := Try.call16)); (· (cbv; try rfl)); (· intro wc hbc hxc; exact h2 wc hbc); intro z hz)
      | ((with_reducible apply go_callq_bool (f := 16) (hf := Try.call16)); (· (cbv; try rfl)); (· intro wc hbc hxc; exact h2 wc hbc); intro z hz)
      | ((with_reducible apply go_call (f := 14) (hf := Try.call14)); (· (cbv; try rfl)); (· intro wc hbc hxc; exact h3 wc hbc _))
      | ((with_reducible apply go_callq (f := 14) (hf := Try.call14)); (· (cbv; try rfl)); (· intro wc hbc hxc; exact h3 wc hbc _))
      )
    all_goals rfl
  by_cases hP : zc p = 0
  case neg =>
    have hq : decide (zc p = 0) = false := decide_eq_false hP
    have hq2 : decide (zc F.pa = 0) = true := decide_eq_true hO
    clear hK hO hP hKp hFp e0 hok hzc
    obtain ⟨pa, un, lA, ln, lc, lk, lt, bA, bn, bc, sA, sn, sc, s, jA, jn, jc, ja, jk, jo, jf, jx, je, jd⟩ := F
    obtain ⟨hX, hl, hb, hs, hj⟩ := hF
    simp only at hl hb hs hj
    simp only [GFun.par, GFun.val] at h3 hq2
    refine go_start (args := [.pt (.agg (GFun.dat _)), .pt (.one (.int .i64 p))]) (c := (funX _)) Try.func4 rfl hX rfl rfl ?_
    obtain ⟨nd, hnd, nt, hnt, ar, har, cm, hcm, mx, hmx, mn, hmn, ar01, ar12, zpl, hzpl, zjn, hzjn, zup, hzup, zmi, hzmi, zdp, hzdp, hT⟩ := t0_all
    repeat' (first
      | ((with_reducible apply go_ev hT 400); (· (cbv; try rfl)); (fail_if_success with_reducible apply stuck_id))
      | ((with_reducible refine go_brt ?_ ?_); (· first | rfl | assumption | (rw [hcm]; decide)))
      | ((with_reducible refine go_brf ?_ ?_); (· first | rfl | assumption | (rw [hcm]; decide)))
      | ((with_reducible refine go_brnt hnt ?_ ?_); (· first | rfl | assumption))
      | ((with_reducible refine go_brnf hnt ?_ ?_); (· first | rfl | assumption))
      | (with_reducible refine go_brn hnt (fun h => ?_) (fun h => ?_))
      | (with_reducible refine go_brl hcm (fun hlt => ?_) (fun hge => ?_))
      | (with_reducible refine go_br (fun h => ?_) (fun h => ?_))
      | ((with_reducible apply go_ret_val hT); (· (cbv; try rfl)); (· (cbv; try rfl)))
      | ((with_reducible apply go_fin_val hT); (· (cbv; try rfl)); (· (cbv; try rfl)))
      | ((with_reducible apply go_draw); (· rfl); (· kernel_rfl); (· kernel_rfl))
      | ((with_reducible apply go_drawE); (· kernel_rfl))
      | (with_reducible refine go_fork ?_)
      | (with_reducible refine fork_cons ?_ ?_)
      | (with_reducible exact fork_nil)
      | ((with_reducible refine go_need ?_ ?_ ?_); (· first | omega | (simp only [Int.ofNat_eq_natCast]; omega)); (· first | omega | (simp only [Int.ofNat_eq_natCast]; omega)))
      | ((with_reducible refine go_ob ?_ ?_); (· first | trivial | (refine ⟨trivial, ?_⟩; omega) | (rw [hzpl]; refine ⟨trivial, ?_⟩; show _ + _ ≤ 1073741824; omega) | (rw [hzpl]; show _ + _ ≤ 1073741824; omega)))
      | ((with_reducible apply go_ret_rows hT); (· (cbv; try rfl)); (· (cbv; try rfl)); (· (cbv; (try simp only [true_and, and_true]); (try ((repeat' apply And.intro) <;> (first | trivial | rfl | decide ))))); (· (cbv; (try simp only [true_and, and_true]); (try ((repeat' apply And.intro) <;> (first | trivial | rfl | exact RowLe.rfl' _ ))))); (· rfl))
      | ((with_reducible apply go_fin_rows hT); (· (cbv; try rfl)); (· (cbv; try rfl)); (· (cbv; (try simp only [true_and, and_true]); (try ((repeat' apply And.intro) <;> (first | trivial | rfl | decide ))))); (· (cbv; (try simp only [true_and, and_true]); (try ((repeat' apply And.intro) <;> (first | trivial | rfl | exact RowLe.rfl' _ ))))); (· rfl))
      | ((with_reducible apply go_call (f := 12) (hf := Try.call12)); (· (cbv; try rfl)); (· intro wc hbc hxc; exact alive15C wc))
      | ((with_reducible apply go_callq (f := 12) (hf := Try.call12)); (· (cbv; try rfl)); (· intro wc hbc hxc; exact alive15C wc))
      | ((with_reducible apply go_call_bool (f := 15) (hf := Try.call15)); (· (cbv; try rfl)); (· intro wc hbc hxc; exact h1 wc hbc); intro z hz)
      | ((with_reducible apply go_callq_bool (f := 15) (hf := Try.call15)); (· (cbv; try rfl)); (· intro wc hbc hxc; exact h1 wc hbc); intro z hz)
      | ((with_reducible apply go_call_bool (f := 16) (hf := Try.call16)); (· (cbv; try rfl)); (· intro wc hbc hxc; exact h2 wc hbc); intro z hz)
      | ((with_reducible apply go_callq_bool (f := 16) (hf := Try.call16)); (· (cbv; try rfl)); (· intro wc hbc hxc; exact h2 wc hbc); intro z hz)
      | ((with_reducible apply go_call (f := 14) (hf := Try.call14)); (· (cbv; try rfl)); (· intro wc hbc hxc; exact h3 wc hbc _))
      | ((with_reducible apply go_callq (f := 14) (hf := Try.call14)); (· (cbv; try rfl)); (· intro wc hbc hxc; exact h3 wc hbc _))
      )
    all_goals rfl
  have hqa : decide (zc F.pa = 0) = true := decide_eq_true hO
  have hqp : decide (zc p = 0) = true := decide_eq_true hP
  by_cases hp : p < F.pa
  case pos =>
    clear hK hO hP hKp hFp e0 hok hzc
    obtain ⟨pa, un, lA, ln, lc, lk, lt, bA, bn, bc, sA, sn, sc, s, jA, jn, jc, ja, jk, jo, jf, jx, je, jd⟩ := F
    obtain ⟨hX, hl, hb, hs, hj⟩ := hF
    simp only at hl hb hs hj
    simp only [GFun.par, GFun.val] at h3 hqa
    have hp : p < pa := hp
    refine go_start (args := [.pt (.agg (GFun.dat _)), .pt (.one (.int .i64 p))]) (c := (funX _)) Try.func4 rfl hX rfl rfl ?_
    obtain ⟨nd, hnd, nt, hnt, ar, har, cm, hcm, mx, hmx, mn, hmn, ar01, ar12, zpl, hzpl, zjn, hzjn, zup, hzup, zmi, hzmi, zdp, hzdp, hT⟩ := t0_all
    have c1 : cm .lss p pa = true := by rw [hcm]; exact decide_eq_true hp
    repeat' (first
      | ((with_reducible apply go_ev hT 400); (· (cbv; try rfl)); (fail_if_success with_reducible apply stuck_id))
      | ((with_reducible refine go_brt ?_ ?_); (· first | rfl | assumption | (rw [hcm]; decide)))
      | ((with_reducible refine go_brf ?_ ?_); (· first | rfl | assumption | (rw [hcm]; decide)))
      | ((with_reducible refine go_brnt hnt ?_ ?_); (· first | rfl | assumption))
      | ((with_reducible refine go_brnf hnt ?_ ?_); (· first | rfl | assumption))
      | (with_reducible refine go_brn hnt (fun h => ?_) (fun h => ?_))
      | (with_reducible refine go_brl hcm (fun hlt => ?_) (fun hge => ?_))
      | (with_reducible refine go_br (fun h => ?_) (fun h => ?_))
      | ((with_reducible apply go_ret_val hT); (· (cbv; try rfl)); (· (cbv; try rfl)))
      | ((with_reducible apply go_fin_val hT); (· (cbv; try rfl)); (· (cbv; try rfl)))
      | ((with_reducible apply go_draw); (· rfl); (· kernel_rfl); (· kernel_rfl))
      | ((with_reducible apply go_drawE); (· kernel_rfl))
      | (with_reducible refine go_fork ?_)
      | (with_reducible refine fork_cons ?_ ?_)
      | (with_reducible exact fork_nil)
      | ((with_reducible refine go_need ?_ ?_ ?_); (· first | omega | (simp only [Int.ofNat_eq_natCast]; omega)); (· first | omega | (simp only [Int.ofNat_eq_natCast]; omega)))
      | ((with_reducible refine go_ob ?_ ?_); (· first | trivial | (refine ⟨trivial, ?_⟩; omega) | (rw [hzpl]; refine ⟨trivial, ?_⟩; show _ + _ ≤ 1073741824; omega) | (rw [hzpl]; show _ + _ ≤ 1073741824; omega)))
      | ((with_reducible apply go_ret_rows hT); (· (cbv; try rfl)); (· (cbv; try rfl)); (· (cbv; (try simp only [true_and, and_true]); (try ((repeat' apply And.intro) <;> (first | trivial | rfl | decide ))))); (· (cbv; (try simp only [true_and, and_true]); (try ((repeat' apply And.intro) <;> (first | trivial | rfl | exact RowLe.rfl' _ ))))); (· rfl))
      | ((with_reducible apply go_fin_rows hT); (· (cbv; try rfl)); (· (cbv; try rfl)); (· (cbv; (try simp only [true_and, and_true]); (try ((repeat' apply And.intro) <;> (first | trivial | rfl | decide ))))); (· (cbv; (try simp only [true_and, and_true]); (try ((repeat' apply And.intro) <;> (first | trivial | rfl | exact RowLe.rfl' _ ))))); (· rfl))
      | ((with_reducible apply go_call (f := 12) (hf := Try.call12)); (· (cbv; try rfl)); (· intro wc hbc hxc; exact alive15C wc))
      | ((with_reducible apply go_callq (f := 12) (hf := Try.call12)); (· (cbv; try rfl)); (· intro wc hbc hxc; exact alive15C wc))
      | ((with_reducible apply go_call_bool (f := 15) (hf := Try.call15)); (· (cbv; try rfl)); (· intro wc hbc hxc; exact h1 wc hbc); intro z hz)
      | ((with_reducible apply go_callq_bool (f := 15) (hf := Try.call15)); (· (cbv; try rfl)); (· intro wc hbc hxc; exact h1 wc hbc); intro z hz)
      | ((with_reducible apply go_call_bool (f := 16) (hf := Try.call16)); (· (cbv; try rfl)); (· intro wc hbc hxc; exact h2 wc hbc); intro z hz)
      | ((with_reducible apply go_callq_bool (f := 16) (hf := Try.call16)); (· (cbv; try rfl)); (· intro wc hbc hxc; exact h2 wc hbc); intro z hz)
      | ((with_reducible apply go_call (f := 14) (hf := Try.call14)); (· (cbv; try rfl)); (· intro wc hbc hxc; exact h3 wc hbc _))
      | ((with_reducible apply go_callq (f := 14) (hf := Try.call14)); (· (cbv; try rfl)); (· intro wc hbc hxc; exact h3 wc hbc _))
      )
    all_goals rfl
  have hOk : F.Ok := by rw [← e0]; exact hok _ hO
  have hPk := hok p hP
  have hN9 := hOk.pts
  have hl16 := hOk.ln16
  have hii := par_init (p := p) hOk (by omega)
  obtain ⟨N, hN⟩ : ∃ N, N = stN F.sn F.bn := ⟨_, rfl⟩
  obtain ⟨rr, hrr⟩ : ∃ f : Int → Nat → Nat, f = fun q j => mk (setM (F.par q) j) F.ln := ⟨_, rfl⟩
  obtain ⟨uu, huu⟩ : ∃ f : Int → Int, f = fun q => initI (F.par q) := ⟨_, rfl⟩
  have h4 (wc : World) (hk : KB ⟨w, []⟩ wc) (q : Int) (hq : zc q = 0) : Calls Try.prog 11 #[(F.par q).val] wc (RetR wc (funX F) (.tup [.one (.rs 0), .one (.int .i64 0)]) [⟨N, 1, fun j => [.int .u32 (.ofNat (rr q j))]⟩]) := by
    rw [hrr, hN]; exact setC (F.par q) wc (hFp q (hF.later hk)) (hok q hq)
  have h5 (wc : World) (hk : KB ⟨w, []⟩ wc) (q : Int) (hq : zc q = 0) : Calls Try.prog 7 #[(F.par q).val] wc (Ret wc (.int .i64 (uu q))) := by
    rw [huu]; exact initsC (F.par q) wc (hFp q (hF.later hk)) (hok q hq)
  have hz : ∀ {ar : BinOp → IntKind → Int → Int → Int}, ar = rAr → ∀ n, ar .andNot .u32 (.ofNat (rr F.pa n)) (.ofNat (rr p n)) = 0 := fun {ar} har n => by
    rw [hrr]
    simp only [e0]
    rw [mk_andNot har (by omega)]
    have : mk (fun l => setM F n l && !setM (F.par p) n l) F.ln = 0 := by
      refine Eq.trans (mk_ext (T := fun _ => false) fun l _ => ?_) mk_none.symm
      cases e : setM F n l
      · rfl
      · rw [par_set (by omega) e]; rfl
    rw [this]; rfl
  have hiu : initI F = uu F.pa := by rw [huu]; simp only [e0]
  have hiv : initI (F.par p) = uu p := by rw [huu]
  rw [hiu, hiv] at hii
  rw [← hN] at hN9
  clear hrr huu hN hPk hOk hK hKp hFp hok hzc e0 hiu hiv
  obtain ⟨pa, un, lA, ln, lc, lk, lt, bA, bn, bc, sA, sn, sc, s, jA, jn, jc, ja, jk, jo, jf, jx, je, jd⟩ := F
  obtain ⟨hX, hl, hb, hs, hj⟩ := hF
  simp only at hl hb hs hj
  simp only [GFun.par, GFun.val] at h3 h4 h5 hqa hz hii hO
  have hp : ¬ p < pa := hp
  refine go_start (args := [.pt (.agg (GFun.dat _)), .pt (.one (.int .i64 p))]) (c := (funX _)) Try.func4 rfl hX rfl rfl ?_
  obtain ⟨nd, hnd, nt, hnt, ar, har, cm, hcm, mx, hmx, mn, hmn, ar01, ar12, zpl, hzpl, zjn, hzjn, zup, hzup, zmi, hzmi, zdp, hzdp, hT⟩ := t0_all
  have c1 : cm .lss p pa = false := by rw [hcm]; exact decide_eq_false hp
  have hzz := @hz ar har
  repeat' (first
    | ((with_reducible apply go_ev hT 400); (· (cbv; try rfl)); (fail_if_success with_reducible apply stuck_id))
    | ((with_reducible refine go_brt ?_ ?_); (· first | rfl | assumption | (rw [hcm]; decide)))
    | ((with_reducible refine go_brf ?_ ?_); (· first | rfl | assumption | (rw [hcm]; decide)))
    | ((with_reducible refine go_brnt hnt ?_ ?_); (· first | rfl | assumption))
    | ((with_reducible refine go_brnf hnt ?_ ?_); (· first | rfl | assumption))
    | (with_reducible refine go_brn hnt (fun h => ?_) (fun h => ?_))
    | (with_reducible refine go_brl hcm (fun hlt => ?_) (fun hge => ?_))
    | (with_reducible refine go_br (fun h => ?_) (fun h => ?_))
    | ((with_reducible apply go_ret_val hT); (· (cbv; try rfl)); (· (cbv; try rfl)))
    | ((with_reducible apply go_fin_val hT); (· (cbv; try rfl)); (· (cbv; try rfl)))
    | ((with_reducible apply go_draw); (· rfl); (· kernel_rfl); (· kernel_rfl))
    | ((with_reducible apply go_drawE); (· kernel_rfl))
    | (with_reducible refine go_fork ?_)
    | (with_reducible refine fork_cons ?_ ?_)
    | (with_reducible exact fork_nil)
    | ((with_reducible refine go_need ?_ ?_ ?_); (· first | omega | (simp only [Int.ofNat_eq_natCast]; omega)); (· first | omega | (simp only [Int.ofNat_eq_natCast]; omega)))
    | ((with_reducible refine go_ob ?_ ?_); (· first | trivial | (refine ⟨trivial, ?_⟩; omega) | (rw [hzpl]; refine ⟨trivial, ?_⟩; show _ + _ ≤ 1073741824; omega) | (rw [hzpl]; show _ + _ ≤ 1073741824; omega)))
    | ((with_reducible apply go_ret_rows hT); (· (cbv; try rfl)); (· (cbv; try rfl)); (· (cbv; (try simp only [true_and, and_true]); (try ((repeat' apply And.intro) <;> (first | trivial | rfl | decide ))))); (· (cbv; (try simp only [true_and, and_true]); (try ((repeat' apply And.intro) <;> (first | trivial | rfl | exact RowLe.rfl' _ ))))); (· rfl))
    | ((with_reducible apply go_fin_rows hT); (· (cbv; try rfl)); (· (cbv; try rfl)); (· (cbv; (try simp only [true_and, and_true]); (try ((repeat' apply And.intro) <;> (first | trivial | rfl | decide ))))); (· (cbv; (try simp only [true_and, and_true]); (try ((repeat' apply And.intro) <;> (first | trivial | rfl | exact RowLe.rfl' _ ))))); (· rfl))
    | ((with_reducible apply go_call (f := 12) (hf := Try.call12)); (· (cbv; try rfl)); (· intro wc hbc hxc; exact alive15C wc))
    | ((with_reducible apply go_callq (f := 12) (hf := Try.call12)); (· (cbv; try rfl)); (· intro wc hbc hxc; exact alive15C wc))
    | ((with_reducible apply go_call_bool (f := 15) (hf := Try.call15)); (· (cbv; try rfl)); (· intro wc hbc hxc; exact h1 wc hbc); intro z hz)
    | ((with_reducible apply go_callq_bool (f := 15) (hf := Try.call15)); (· (cbv; try rfl)); (· intro wc hbc hxc; exact h1 wc hbc); intro z hz)
    | ((with_reducible apply go_call_bool (f := 16) (hf := Try.call16)); (· (cbv; try rfl)); (· intro wc hbc hxc; exact h2 wc hbc); intro z hz)
    | ((with_reducible apply go_callq_bool (f := 16) (hf := Try.call16)); (· (cbv; try rfl)); (· intro wc hbc hxc; exact h2 wc hbc); intro z hz)
    | ((with_reducible apply go_call (f := 14) (hf := Try.call14)); (· (cbv; try rfl)); (· intro wc hbc hxc; exact h3 wc hbc _))
    | ((with_reducible apply go_callq (f := 14) (hf := Try.call14)); (· (cbv; try rfl)); (· intro wc hbc hxc; exact h3 wc hbc _))
    | ((with_reducible apply go_callR (f := 11) (hf := Try.call11)); (· intro S; cbv; try rfl); (· intro wc S hbc hxc hrc; exact h4 wc hbc _ (by first | exact hO | exact hP)); (· rfl))
    | ((with_reducible apply go_call (f := 7) (hf := Try.call7)); (· (cbv; try rfl)); (· intro wc hbc hxc; exact h5 wc hbc _ (by first | exact hO | exact hP)))
    | ((with_reducible apply go_callq (f := 7) (hf := Try.call7)); (· (cbv; try rfl)); (· intro wc hbc hxc; exact h5 wc hbc _ (by first | exact hO | exact hP)))
    | ((rw [hzz]))
    | ((with_reducible refine go_loopk (σ := {n : Nat // n ≤ N}) [66, 67, 68, 69, 70, 71, 72, 73, 74, 75, 76, 77, 78, 79, 80, 81] (fun x => [(11, .pt (.one (.int .i64 (.ofNat x.1))))]) (fun x => []) (fun x => []) (fun x => N - x.1) ⟨0, by omega⟩ ?_ ?_ ?_ ?_); (· (refine le_mk ?_ ?_ ?_ ?_ <;> (cbv; (try simp only [true_and, and_true]); (try ((repeat' apply And.intro) <;> (first | trivial | rfl | exact RowLe.rfl' _ | (rw [wrap_nat har _ (by omega)]))))))); (· (cbv; try rfl)); (· simp); (rintro ⟨n, hn⟩ mm hmm))
    | ((with_reducible refine go_stop (⟨n + 1, by omega⟩ : {n : Nat // n ≤ N}) ?_ ?_ ?_ ?_); (· exact Nat.lt_of_lt_of_eq (show N - (n + 1) < N - n from by omega) (Eq.symm (by assumption))); (· (refine le_mk ?_ ?_ ?_ ?_ <;> (cbv; (try simp only [true_and, and_true]); (try ((repeat' apply And.intro) <;> (first | trivial | rfl | exact RowLe.rfl' _ | (rw [wrap_nat har _ (by omega)]))))))); (· (cbv; try rfl)); (· simp))
    | (((with_reducible apply go_need); (· exact Int.natCast_nonneg _); (· exact Int.ofNat_lt.2 (by assumption))))
    )
  all_goals
    first
      | rfl
      | (exfalso; exact absurd (hzz n) (of_decide_eq_false (by assumption)))
      | (rw [decide_eq_true (hii (of_decide_eq_true (by assumption)))]; done)
      | trace_state

end Go.Proofs.Ytbljhhkjjlgnmaa
