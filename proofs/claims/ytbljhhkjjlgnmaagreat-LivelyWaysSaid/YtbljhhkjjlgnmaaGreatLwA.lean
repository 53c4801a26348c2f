/- LivelyWays: what is used is live on all ways back to where it was set. No condition. -/
import Derived.Test.YtbljhhkjjlgnmaaGreatLvP
import Derived.Test.YtbljhhkjjlgnmaaGreatFuC
namespace Go.Proofs.YtbljhhkjjlgnmaaGreat
open Go.RowKit
set_option linter.unusedVariables false
set_option linter.unusedSimpArgs false

theorem sort2_nil {L : List Int} (h : (sort2 L).length = 0) : L = [] := by
  unfold sort2 at h
  split at h
  · split at h <;> simp at h
  · exact List.eq_nil_of_length_eq_zero h
theorem li_us {F : GFun} (hO : F.Ok) {a l : Nat} (ha : a < stN F.sn F.bn) : (liveG F).liB l a = (((succN F a).any fun q => (liveG F).liB l q) && !decide (Int.ofNat l = smN F a) || uB F (pbN F a) (piN F a) l) :=
  LiveG.li_eq (G := liveG F) (fun n hn q hq => succN_lt hO hn q hq) ha
theorem ways_end {F : GFun} (hO : F.Ok) {a : Nat} (ha : a < stN F.sn F.bn) (h : (nextP F (pbN F a) (piN F a)).length = 0) : liM F a = umN F a ∧ umN F a ≤ 1 := by
  have hs : succN F a = [] := List.eq_nil_of_length_eq_zero (by rw [succN_len]; exact h)
  refine ⟨?_, ?_⟩
  · unfold liM umN
    exact mk_ext fun l _ => by rw [li_us hO ha, hs]; simp
  · have hi : ¬ piN F a < F.sn (pbN F a) := fun hi => by unfold nextP at h; rw [if_pos hi] at h; simp at h
    have hl : (F.jump (pbN F a)).leads = [] := by
      unfold nextP at h; rw [if_neg hi, List.length_map] at h
      exact sort2_nil h
    have hk : F.jk (pbN F a) = 1 ∨ F.jk (pbN F a) = 3 ∨ F.jk (pbN F a) = 5 := by
      refine .inr (Classical.byContradiction fun hk => ?_)
      unfold GJump.leads GFun.jump at hl
      simp only at hl
      rw [if_neg (by simpa using hk)] at hl
      split at hl <;> simp at hl
    have := (um_jump hO ha hi hk).1
    rw [this]; split <;> omega
theorem ways_step {F : GFun} (hO : F.Ok) {a k l : Nat} (ha : a < stN F.sn F.bn) (hk : k < (nextP F (pbN F a) (piN F a)).length) (h : (liveG F).liB l (nmN F a k) = true) (hs : ¬ Int.ofNat l = smN F a) : (liveG F).liB l a = true := by
  rw [li_us hO ha, decide_eq_false hs]
  have hm : nmN F a k ∈ succN F a := by
    rw [← succN_at hk]
    have hk' : k < (succN F a).length := by rw [succN_len]; exact hk
    simp only [List.getD, List.getElem?_eq_getElem hk', Option.getD_some]
    exact List.getElem_mem hk'
  have : ((succN F a).any fun q => (liveG F).liB l q) = true := List.any_eq_true.2 ⟨_, hm, h⟩
  rw [this]; simp

set_option maxRecDepth 100000 in
set_option maxHeartbeats 8000000 in
theorem lwaysL (F : GFun) (w : World) (hF : F.At w) (hK : F.Ty8) (hD : F.Fd) (a : Option Addr) (n cap : Nat) (f : Nat → Int) (hn0 : n ≤ maxLen) (hA : RowAt w a n 1 (fun i => [.int .i64 (f i)])) :
    Calls Tryz.prog 11 #[F.val, .slice a n cap] w (Ret w (.bool true)) := by
  have hXC := funC_ok (cap := cap) hF hA
  have hn1 : n ≤ 9223372036854775807 := Nat.le_trans hn0 (by decide)
  have h1 (wc : World) (hk : KB ⟨w, []⟩ wc) := fit16C F wc (hF.later hk) hK
  by_cases hO : fitB F = true
  case neg =>
    have hq : fitB F = false := by simpa using hO
    rw [hq] at h1
    clear hK hO hq hD hA
    obtain ⟨pa, un, lA, ln, lc, lk, lt, bA, bn, bc, sA, sn, sc, s, jA, jn, jc, ja, jk, jo, jf, jx, je, jd⟩ := F
    obtain ⟨hX, hl, hb, hs, hj⟩ := hF
    simp only at hl hb hs hj
    refine go_start (args := [.pt (.agg (GFun.dat _)), .pt (.one (.xs 4 0))]) (c := (funC _ a n cap f)) Tryz.func11 rfl hXC rfl rfl ?_
    obtain ⟨nd, hnd, nt, hnt, ar, har, cm, hcm, mx, hmx, mn, hmn, ar01, ar12, zpl, hzpl, zjn, hzjn, zup, hzup, zmi, hzmi, zdp, hzdp, hT⟩ := t0_all
    repeat' (first
      | ((with_reducible apply go_ev hT 400); (· (cbv; try rfl)); (fail_if_success with_reducible apply stuck_id))
      | ((with_reducible refine go_brt ?_ ?_); (· first | rfl | assumption | (rw [hcm]; decide)))
      | ((with_reducible refine go_brf ?_ ?_); (· first | rfl | assumption | (rw [hcm]; decide)))
      | ((with_reducible refine go_brnt hnt ?_ ?_); (· first | rfl | assumption))
      | ((with_reducible refine go_brnf hnt ?_ ?_); (· first | rfl | assumption))
      | (with_reducible refine go_brn hnt (fun h => ?_) (fun h => ?_))
      | (with_reducible refine go_brl hcm (fun hlt => ?_) (fun hge => ?_))
      | (with_reducible refine go_br (fun h => ?_) (fun h => ?_))
      | ((with_reducible apply go_ret_val hT); (· (cbv; try rfl)); (· (cbv; try rfl)))
      | ((with_reducible apply go_fin_val hT); (· (cbv; try rfl)); (· (cbv; try rfl)))
      | ((with_reducible apply go_draw); (· rfl); (· kernel_rfl); (· kernel_rfl))
      | ((with_reducible apply go_drawE); (· kernel_rfl))
      | (with_reducible refine go_fork ?_)
      | (with_reducible refine fork_cons ?_ ?_)
      | (with_reducible exact fork_nil)
      | ((with_reducible refine go_need ?_ ?_ ?_); (· first | omega | (simp only [Int.ofNat_eq_natCast]; omega)); (· first | omega | (simp only [Int.ofNat_eq_natCast]; omega)))
      | ((with_reducible refine go_ob ?_ ?_); (· first | trivial | (refine ⟨trivial, ?_⟩; omega) | (rw [hzpl]; refine ⟨trivial, ?_⟩; show _ + _ ≤ 1073741824; omega) | (rw [hzpl]; show _ + _ ≤ 1073741824; omega)))
      | ((with_reducible apply go_ret_rows hT); (· (cbv; try rfl)); (· (cbv; try rfl)); (· (cbv; (try simp only [true_and, and_true]); (try ((repeat' apply And.intro) <;> (first | trivial | rfl | decide ))))); (· (cbv; (try simp only [true_and, and_true]); (try ((repeat' apply And.intro) <;> (first | trivial | rfl | exact RowLe.rfl' _ ))))); (· rfl))
      | ((with_reducible apply go_fin_rows hT); (· (cbv; try rfl)); (· (cbv; try rfl)); (· (cbv; (try simp only [true_and, and_true]); (try ((repeat' apply And.intro) <;> (first | trivial | rfl | decide ))))); (· (cbv; (try simp only [true_and, and_true]); (try ((repeat' apply And.intro) <;> (first | trivial | rfl | exact RowLe.rfl' _ ))))); (· rfl))
      | ((with_reducible apply go_call (f := 33) (hf := Tryz.call33)); (· (cbv; try rfl)); (· intro wc hbc hxc; exact alive16C wc))
      | ((with_reducible apply go_callq (f := 33) (hf := Tryz.call33)); (· (cbv; try rfl)); (· intro wc hbc hxc; exact alive16C wc))
      | ((with_reducible apply go_call (f := 34) (hf := Tryz.call34)); (· (cbv; try rfl)); (· intro wc hbc hxc; exact h1 wc hbc))
      | ((with_reducible apply go_callq (f := 34) (hf := Tryz.call34)); (· (cbv; try rfl)); (· intro wc hbc hxc; exact h1 wc hbc))
      )
    all_goals rfl
  rw [hO] at h1
  have hO : F.Ok := fit_ok hO
  by_cases hg : 200 < n
  case pos =>
    clear hK hO hA hD
    obtain ⟨pa, un, lA, ln, lc, lk, lt, bA, bn, bc, sA, sn, sc, s, jA, jn, jc, ja, jk, jo, jf, jx, je, jd⟩ := F
    obtain ⟨hX, hl, hb, hs, hj⟩ := hF
    simp only at hl hb hs hj
    refine go_start (args := [.pt (.agg (GFun.dat _)), .pt (.one (.xs 4 0))]) (c := (funC _ a n cap f)) Tryz.func11 rfl hXC rfl rfl ?_
    obtain ⟨nd, hnd, nt, hnt, ar, har, cm, hcm, mx, hmx, mn, hmn, ar01, ar12, zpl, hzpl, zjn, hzjn, zup, hzup, zmi, hzmi, zdp, hzdp, hT⟩ := t0_all
    have c1 : cm .gtr (.ofNat n) 200 = true := by rw [hcm]; exact decide_eq_true (show (200 : Int) < (n : Int) by omega)
    repeat' (first
      | ((with_reducible apply go_ev hT 400); (· (cbv; try rfl)); (fail_if_success with_reducible apply stuck_id))
      | ((with_reducible refine go_brt ?_ ?_); (· first | rfl | assumption | (rw [hcm]; decide)))
      | ((with_reducible refine go_brf ?_ ?_); (· first | rfl | assumption | (rw [hcm]; decide)))
      | ((with_reducible refine go_brnt hnt ?_ ?_); (· first | rfl | assumption))
      | ((with_reducible refine go_brnf hnt ?_ ?_); (· first | rfl | assumption))
      | (with_reducible refine go_brn hnt (fun h => ?_) (fun h => ?_))
      | (with_reducible refine go_brl hcm (fun hlt => ?_) (fun hge => ?_))
      | (with_reducible refine go_br (fun h => ?_) (fun h => ?_))
      | ((with_reducible apply go_ret_val hT); (· (cbv; try rfl)); (· (cbv; try rfl)))
      | ((with_reducible apply go_fin_val hT); (· (cbv; try rfl)); (· (cbv; try rfl)))
      | ((with_reducible apply go_draw); (· rfl); (· kernel_rfl); (· kernel_rfl))
      | ((with_reducible apply go_drawE); (· kernel_rfl))
      | (with_reducible refine go_fork ?_)
      | (with_reducible refine fork_cons ?_ ?_)
      | (with_reducible exact fork_nil)
      | ((with_reducible refine go_need ?_ ?_ ?_); (· first | omega | (simp only [Int.ofNat_eq_natCast]; omega)); (· first | omega | (simp only [Int.ofNat_eq_natCast]; omega)))
      | ((with_reducible refine go_ob ?_ ?_); (· first | trivial | (refine ⟨trivial, ?_⟩; omega) | (rw [hzpl]; refine ⟨trivial, ?_⟩; show _ + _ ≤ 1073741824; omega) | (rw [hzpl]; show _ + _ ≤ 1073741824; omega)))
      | ((with_reducible apply go_ret_rows hT); (· (cbv; try rfl)); (· (cbv; try rfl)); (· (cbv; (try simp only [true_and, and_true]); (try ((repeat' apply And.intro) <;> (first | trivial | rfl | decide ))))); (· (cbv; (try simp only [true_and, and_true]); (try ((repeat' apply And.intro) <;> (first | trivial | rfl | exact RowLe.rfl' _ ))))); (· rfl))
      | ((with_reducible apply go_fin_rows hT); (· (cbv; try rfl)); (· (cbv; try rfl)); (· (cbv; (try simp only [true_and, and_true]); (try ((repeat' apply And.intro) <;> (first | trivial | rfl | decide ))))); (· (cbv; (try simp only [true_and, and_true]); (try ((repeat' apply And.intro) <;> (first | trivial | rfl | exact RowLe.rfl' _ ))))); (· rfl))
      | ((with_reducible apply go_call (f := 33) (hf := Tryz.call33)); (· (cbv; try rfl)); (· intro wc hbc hxc; exact alive16C wc))
      | ((with_reducible apply go_callq (f := 33) (hf := Tryz.call33)); (· (cbv; try rfl)); (· intro wc hbc hxc; exact alive16C wc))
      | ((with_reducible apply go_call (f := 34) (hf := Tryz.call34)); (· (cbv; try rfl)); (· intro wc hbc hxc; exact h1 wc hbc))
      | ((with_reducible apply go_callq (f := 34) (hf := Tryz.call34)); (· (cbv; try rfl)); (· intro wc hbc hxc; exact h1 wc hbc))
      )
    all_goals rfl
  have h40 (wc : World) (hk : KB ⟨w, []⟩ wc) := livesC F wc (hF.later hk) hO hD
  have h60 (wc : World) (hk : KB ⟨w, []⟩ wc) (x : Nat) (hx : x < stN F.sn F.bn) := lusesC F wc (hF.later hk) hO hD x hx
  have h7 (wc : World) (hk : KB ⟨w, []⟩ wc) := sizeC F wc (hF.later hk) hO.small
  have h80 (wc : World) (hk : KB ⟨w, []⟩ wc) (a : Nat) (ha : a < stN F.sn F.bn) := nextPC F wc (hF.later hk) hO (pbN F a) (piN F a) (num_pt ha).1 (num_pt ha).2.1
  have h100 (wc : World) (hk : KB ⟨w, []⟩ wc) (b i : Nat) (hb : b < F.bn) (hi : i ≤ F.sn b) := numberC F wc (hF.later hk) hO b i hb hi
  have h110 (wc : World) (hk : KB ⟨w, []⟩ wc) (a : Nat) (ha : a < stN F.sn F.bn) := pointNC F wc (hF.later hk) hO.small a ha
  have hN9 := hO.pts
  have hN0 := pts_pos hO
  have hl16 := hO.ln16
  obtain ⟨N, hN⟩ : ∃ N, N = stN F.sn F.bn := ⟨_, rfl⟩
  obtain ⟨pb, hpb⟩ : ∃ f : Nat → Nat, f = pbN F := ⟨_, rfl⟩
  obtain ⟨pi, hpi⟩ : ∃ f : Nat → Nat, f = piN F := ⟨_, rfl⟩
  obtain ⟨rm, hrm⟩ : ∃ f : Nat → Nat, f = liM F := ⟨_, rfl⟩
  obtain ⟨um, hum⟩ : ∃ f : Nat → Nat, f = umN F := ⟨_, rfl⟩
  obtain ⟨sm, hsm⟩ : ∃ f : Nat → Int, f = smN F := ⟨_, rfl⟩
  obtain ⟨nl, hnl⟩ : ∃ f : Nat → Nat, f = fun a => (nextP F (pbN F a) (piN F a)).length := ⟨_, rfl⟩
  obtain ⟨q1', hq1⟩ : ∃ f : Nat → Nat → Nat, f = fun a k => ((nextP F (pbN F a) (piN F a)).getD k (0, 0)).1 := ⟨_, rfl⟩
  obtain ⟨q2', hq2⟩ : ∃ f : Nat → Nat → Nat, f = fun a k => ((nextP F (pbN F a) (piN F a)).getD k (0, 0)).2 := ⟨_, rfl⟩
  obtain ⟨nm, hnm⟩ : ∃ f : Nat → Nat → Nat, f = nmN F := ⟨_, rfl⟩
  have h4 {c : Nat → Nat → Row} (wc : World) (hk : KB ⟨w, []⟩ wc) : Calls Tryz.prog 35 #[F.val] wc (RetR wc c (.tup [.one (.rs 0), .one (.int .i64 0)]) [⟨N, 1, fun j => [.int .u32 (.ofNat (rm j))]⟩]) := by
    rw [hrm, hN]; exact Calls.to ⟨fun _ _ => rfl, trivial⟩ rfl (h40 wc hk)
  have h6 (wc : World) (hk : KB ⟨w, []⟩ wc) (x : Nat) (hx : x < N) : Calls Tryz.prog 38 #[F.val, .int .i64 (.ofNat x)] wc (Ret wc (.tuple #[.int .u32 (.ofNat (um x)), .int .i64 (sm x), .int .i64 0])) := by
    rw [hum, hsm]; exact h60 wc hk x (hN ▸ hx)
  have h8 {c : Nat → Nat → Row} (wc : World) (hk : KB ⟨w, []⟩ wc) (x : Nat) (hx : x < N) : Calls Tryz.prog 27 #[F.val, .agg #[.int .i64 (.ofNat (pb x)), .int .i64 (.ofNat (pi x))]] wc (RetR wc c (.tup [.one (.rs 0), .one (.int .i64 0)]) [⟨nl x, 2, fun j => [.int .i64 (.ofNat (q1' x j)), .int .i64 (.ofNat (q2' x j))]⟩]) := by
    rw [hpb, hpi, hnl, hq1, hq2]; exact Calls.to ⟨fun _ _ => rfl, trivial⟩ rfl (h80 wc hk x (hN ▸ hx))
  have h11 (wc : World) (hk : KB ⟨w, []⟩ wc) (a : Nat) (ha : a < N) : Calls Tryz.prog 28 #[F.val, .int .i64 (.ofNat a)] wc (Ret wc (.agg #[.int .i64 (.ofNat (pb a)), .int .i64 (.ofNat (pi a))])) := by
    rw [hpb, hpi]; exact h110 wc hk a (hN ▸ ha)
  have h10 (wc : World) (hk : KB ⟨w, []⟩ wc) (a k : Nat) (ha : a < N) (hk2 : k < nl a) : Calls Tryz.prog 29 #[F.val, .agg #[.int .i64 (.ofNat (q1' a k)), .int .i64 (.ofNat (q2' a k))]] wc (Ret wc (.tuple #[.int .i64 (.ofNat (nm a k)), .int .i64 0])) := by
    rw [hnl] at hk2
    have q := nmN_ok hO (hN ▸ ha) hk2
    rw [hq1, hq2, hnm]; exact h100 wc hk _ _ q.1 q.2.1
  have nl2 : ∀ a, nl a ≤ 2 := fun a => by rw [hnl]; exact nextP_len
  have nmL : ∀ a k, a < N → k < nl a → nm a k < N := fun a k ha hk => by
    rw [hnl] at hk; rw [hnm, hN]; exact (nmN_ok hO (hN ▸ ha) hk).2.2.1
  have smL : ∀ a, a < N → sm a < 1000 := fun a ha => by
    have : smN F a < F.ln := sI_lt hO (num_pt (hN ▸ ha)).1
    rw [hsm]; omega
  have f1 : ∀ {ar : BinOp → IntKind → Int → Int → Int}, ar = rAr → ∀ a, a < N → ar .andNot .u32 (.ofNat (um a)) (.ofNat (rm a)) = 0 := fun {ar} har a ha => by
    rw [hum, hrm]
    unfold umN liM
    rw [mk_andNot har (by omega)]
    have : mk (fun l => uB F (pbN F a) (piN F a) l && !(liveG F).liB l a) F.ln = 0 := by
      refine Eq.trans (mk_ext (T := fun _ => false) fun l _ => ?_) mk_none.symm
      rw [li_us hO (hN ▸ ha)]
      cases uB F (pbN F a) (piN F a) l <;> simp
    rw [this]; rfl
  have f2 : ∀ a, a < N → nl a = 0 → rm a = um a ∧ rm a ≤ 1 := fun a ha h => by
    rw [hnl] at h
    have := ways_end hO (hN ▸ ha) h
    rw [hrm, hum]; exact ⟨this.1, by rw [this.1]; exact this.2⟩
  have f3 : ∀ {ar : BinOp → IntKind → Int → Int → Int}, ar = rAr → ∀ a k, a < N → k < nl a → (0 ≤ sm a → ar .andNot .u32 (ar .andNot .u32 (.ofNat (rm (nm a k))) (ar .shl .u32 1 (ar .quo .u64 (sm a) 0))) (.ofNat (rm a)) = 0) ∧ (¬ 0 ≤ sm a → ar .andNot .u32 (.ofNat (rm (nm a k))) (.ofNat (rm a)) = 0) := by
    intro ar har a k ha hk
    rw [hnl] at hk
    have hst := fun l => ways_step hO (l := l) (hN ▸ ha) hk
    have hsl : smN F a < F.ln := sI_lt hO (num_pt (hN ▸ ha)).1
    rw [hrm, hnm, hsm]
    unfold liM
    refine ⟨fun h0 => ?_, fun h0 => ?_⟩
    · rw [quo_u64L har h0 (by omega), u32_shl har (by omega), mk_one (show (smN F a).toNat < F.ln by omega), mk_andNot har (by omega), mk_andNot har (by omega)]
      refine congrArg Int.ofNat (Eq.trans (mk_ext (T := fun _ => false) fun l _ => ?_) mk_none.symm)
      cases e : (liveG F).liB l (nmN F a k)
      · rfl
      · by_cases g : l = (smN F a).toNat
        · rw [decide_eq_true g]; rfl
        · rw [hst l e (by simp only [Int.ofNat_eq_natCast]; omega)]; simp
    · rw [mk_andNot har (by omega)]
      refine congrArg Int.ofNat (Eq.trans (mk_ext (T := fun _ => false) fun l _ => ?_) mk_none.symm)
      cases e : (liveG F).liB l (nmN F a k)
      · rfl
      · rw [hst l e (by simp only [Int.ofNat_eq_natCast]; omega)]; rfl
  rw [← hN] at h7 hN9 hN0
  clear hrm hum hsm hnl hq1 hq2 hnm hpb hpi h40 h60 h80 h100 h110 hN hO hK hA hD
  obtain ⟨pa, un, lA, ln, lc, lk, lt, bA, bn, bc, sA, sn, sc, s, jA, jn, jc, ja, jk, jo, jf, jx, je, jd⟩ := F
  obtain ⟨hX, hl, hb, hs, hj⟩ := hF
  simp only at hl hb hs hj
  try simp only at h4 h6 h7 h8 h10 h11 hl16
  refine go_start (args := [.pt (.agg (GFun.dat ⟨pa, un, lA, ln, lc, lk, lt, bA, bn, bc, sA, sn, sc, s, jA, jn, jc, ja, jk, jo, jf, jx, je, jd⟩)), .pt (.one (.xs 4 0))]) (c := (funC _ a n cap f)) Tryz.func11 rfl hXC rfl rfl ?_
  obtain ⟨nd, hnd, nt, hnt, ar, har, cm, hcm, mx, hmx, mn, hmn, ar01, ar12, zpl, hzpl, zjn, hzjn, zup, hzup, zmi, hzmi, zdp, hzdp, hT⟩ := t0_all
  refine go_fam 5 rfl rfl trivial (funC_qb _ a n cap f) ?_
  have f1 := @f1 ar har
  have f3 := @f3 ar har
  have c0 : cm .gtr (.ofNat n) 200 = false := by rw [hcm]; exact decide_eq_false (show ¬ (200 : Int) < (n : Int) by omega)
  have hnz : ∀ {x}, decide (Int.ofNat (nl x) = 0) = false → 0 < nl x := fun {x} g => by
    have := of_decide_eq_false g
    rcases Nat.eq_zero_or_pos (nl x) with h | h
    · exact absurd (congrArg Int.ofNat h) this
    · exact h
  have hz0 : ∀ {x}, decide (Int.ofNat (nl x) = 0) = true → nl x = 0 := fun {x} g => Int.ofNat.inj (of_decide_eq_true g)
  obtain ⟨zr, hzr⟩ : ∃ g : Int → Nat → Nat, g = fun m d => m.toNat % d := ⟨_, rfl⟩
  have hzl : ∀ m {x}, decide (Int.ofNat (nl x) = 0) = false → zr m (nl x) < nl x := fun m {x} g => by
    rw [hzr]; exact Nat.mod_lt _ (hnz g)
  have hfi : ∀ {i}, cm .lss (f i) 0 = false → 0 ≤ f i := fun {i} h => by
    rw [hcm] at h
    exact Int.not_lt.1 (of_decide_eq_false h)
  have hgN : ∀ {x} m, x < N → decide (Int.ofNat (nl x) = 0) = false → cm .geq (.ofNat (nm x (zr m (nl x)))) (.ofNat N) = false := fun {x} m h g => by
    rw [hcm]; exact decide_eq_false (Int.not_le.2 (Int.ofNat_lt.2 (nmL _ _ h (hzl m g))))
  have hg0 : ∀ k : Nat, cm .lss (.ofNat k) 0 = false := fun k => by rw [hcm]; exact decide_eq_false (Int.not_lt.2 (Int.natCast_nonneg k))
  have hsg : ∀ {x}, cm .geq (sm x) 0 = true → 0 ≤ sm x := fun {x} h => by rw [hcm] at h; exact of_decide_eq_true h
  have hsg2 : ∀ {x}, cm .geq (sm x) 0 = false → ¬ 0 ≤ sm x := fun {x} h => by rw [hcm] at h; exact of_decide_eq_false h
  have n2 : ∀ {x}, x < N → cm .geq (sm x) 0 = true → 0 ≤ ar .quo .u64 (sm x) 0 := fun {x} hx h => by rw [quo_u64L har (hsg h) (smL x hx)]; exact Int.natCast_nonneg _
  have hnn : ∀ X : Int, 0 ≤ X → X < X.toNat + 1 := fun X h => by omega
  repeat' (first
    | ((with_reducible apply go_ev hT 400); (· (cbv; try rfl)); (fail_if_success with_reducible apply stuck_id))
    | (((with_reducible apply go_takeR 0 (zr (f i) (nl x)) (m := f i)); (· rfl); (· kernel_rfl); (· rfl); (· rfl); (· kernel_rfl); (· kernel_rfl); (· kernel_rfl); (· (cbv; try rfl)); (· (cbv; try rfl)); (· (cbv; try rfl)); (· exact hfi (by assumption)); (· exact hnz (by assumption)); (· rw [hzr])))
    | (((with_reducible apply go_takeR 1 (zr (f i) (nl x)) (m := f i)); (· rfl); (· kernel_rfl); (· rfl); (· rfl); (· kernel_rfl); (· kernel_rfl); (· kernel_rfl); (· (cbv; try rfl)); (· (cbv; try rfl)); (· (cbv; try rfl)); (· exact hfi (by assumption)); (· exact hnz (by assumption)); (· rw [hzr])))
    | (((with_reducible apply go_takeR 0 (zr (0) (nl x)) (m := 0)); (· rfl); (· kernel_rfl); (· rfl); (· rfl); (· kernel_rfl); (· kernel_rfl); (· kernel_rfl); (· (cbv; try rfl)); (· (cbv; try rfl)); (· (cbv; try rfl)); (· exact Int.le_refl 0); (· exact hnz (by assumption)); (· rw [hzr])))
    | (((with_reducible apply go_takeR 1 (zr (0) (nl x)) (m := 0)); (· rfl); (· kernel_rfl); (· rfl); (· rfl); (· kernel_rfl); (· kernel_rfl); (· kernel_rfl); (· (cbv; try rfl)); (· (cbv; try rfl)); (· (cbv; try rfl)); (· exact Int.le_refl 0); (· exact hnz (by assumption)); (· rw [hzr])))
    | ((with_reducible refine go_brt ?_ ?_); (· first | rfl | assumption | (rw [hcm]; decide)))
    | ((with_reducible refine go_brf ?_ ?_); (· first | rfl | assumption | (rw [hcm]; decide)))
    | ((with_reducible refine go_brnt hnt ?_ ?_); (· first | rfl | assumption))
    | ((with_reducible refine go_brnf hnt ?_ ?_); (· first | rfl | assumption))
    | (with_reducible refine go_brn hnt (fun h => ?_) (fun h => ?_))
    | (with_reducible refine go_brl hcm (fun hlt => ?_) (fun hge => ?_))
    | (with_reducible refine go_br (fun h => ?_) (fun h => ?_))
    | ((with_reducible apply go_ret_val hT); (· (cbv; try rfl)); (· (cbv; try rfl)))
    | ((with_reducible apply go_fin_val hT); (· (cbv; try rfl)); (· (cbv; try rfl)))
    | ((with_reducible apply go_drawQ [27, 29]); (· rfl); (· rfl); (· kernel_rfl); (· kernel_rfl))
    | ((with_reducible apply go_drawE); (· kernel_rfl))
    | (with_reducible refine go_fork ?_)
    | (with_reducible refine fork_cons ?_ ?_)
    | (with_reducible exact fork_nil)
    | ((with_reducible refine go_need ?_ ?_ ?_); (· first | omega | (simp only [Int.ofNat_eq_natCast]; omega)); (· first | omega | (simp only [Int.ofNat_eq_natCast]; omega)))
    | ((with_reducible refine go_ob ?_ ?_); (· first | trivial | (refine ⟨trivial, ?_⟩; omega) | (rw [hzpl]; refine ⟨trivial, ?_⟩; show _ + _ ≤ 1073741824; omega) | (rw [hzpl]; show _ + _ ≤ 1073741824; omega)))
    | ((with_reducible apply go_ret_rows hT); (· (cbv; try rfl)); (· (cbv; try rfl)); (· (cbv; (try simp only [true_and, and_true]); (try ((repeat' apply And.intro) <;> (first | trivial | rfl | decide  | ((rw [wrap_nat har _ (by have hlt2 : i < n := (by assumption); omega)]))))))); (· (cbv; (try simp only [true_and, and_true]); (try ((repeat' apply And.intro) <;> (first | trivial | rfl | exact RowLe.rfl' _  | ((rw [wrap_nat har _ (by have hlt2 : i < n := (by assumption); omega)]))))))); (· rfl))
    | ((with_reducible apply go_fin_rows hT); (· (cbv; try rfl)); (· (cbv; try rfl)); (· (cbv; (try simp only [true_and, and_true]); (try ((repeat' apply And.intro) <;> (first | trivial | rfl | decide  | ((rw [wrap_nat har _ (by have hlt2 : i < n := (by assumption); omega)]))))))); (· (cbv; (try simp only [true_and, and_true]); (try ((repeat' apply And.intro) <;> (first | trivial | rfl | exact RowLe.rfl' _  | ((rw [wrap_nat har _ (by have hlt2 : i < n := (by assumption); omega)]))))))); (· rfl))
    | ((with_reducible apply go_call (f := 33) (hf := Tryz.call33)); (· (cbv; try rfl)); (· intro wc hbc hxc; exact alive16C wc))
    | ((with_reducible apply go_callq (f := 33) (hf := Tryz.call33)); (· (cbv; try rfl)); (· intro wc hbc hxc; exact alive16C wc))
    | ((with_reducible apply go_call (f := 34) (hf := Tryz.call34)); (· (cbv; try rfl)); (· intro wc hbc hxc; exact h1 wc hbc))
    | ((with_reducible apply go_callq (f := 34) (hf := Tryz.call34)); (· (cbv; try rfl)); (· intro wc hbc hxc; exact h1 wc hbc))
    | ((with_reducible apply go_callR (f := 35) (hf := Tryz.call35)); (· intro S; cbv; try rfl); (· intro wc S hbc hxc hrc; exact h4 wc hbc); (· rfl))
    | (((with_reducible apply go_call (f := 24) (hf := Tryz.call24)); (· (cbv; try rfl)); (· intro wc hbc hxc; exact h7 wc hbc); (refine go_boxT 2 5 rfl rfl rfl rfl rfl ⟨fun _ _ => rfl, trivial⟩ rfl (fam_qb (funC_qb _ a n cap f)) fam_n (fun a0 _ => ?_))))
    | ((with_reducible apply go_call (f := 38) (hf := Tryz.call38)); (· (cbv; try rfl)); (· intro wc hbc hxc; exact h6 wc hbc x hW))
    | ((with_reducible apply go_callq (f := 38) (hf := Tryz.call38)); (· (cbv; try rfl)); (· intro wc hbc hxc; exact h6 wc hbc x hW))
    | ((with_reducible apply go_call (f := 28) (hf := Tryz.call28)); (· (cbv; try rfl)); (· intro wc hbc hxc; exact h11 wc hbc x hW))
    | ((with_reducible apply go_callq (f := 28) (hf := Tryz.call28)); (· (cbv; try rfl)); (· intro wc hbc hxc; exact h11 wc hbc x hW))
    | ((with_reducible apply go_callR (f := 27) (hf := Tryz.call27)); (· intro S; cbv; try rfl); (· intro wc S hbc hxc hrc; exact h8 wc hbc x hW); (· rfl))
    | ((with_reducible refine go_loopk (σ := {x : Nat × Nat // x.1 ≤ n ∧ x.2 < N}) [4, 10, 11, 12, 13, 14, 15, 16, 17, 18, 47, 48, 49, 50, 51, 52, 53, 54, 55, 56, 57, 58, 59, 60, 61, 62, 63, 64, 65, 66, 67, 68, 69, 70, 71, 72, 73, 74, 75, 76, 77, 78, 79, 80, 81, 82, 83, 84, 85, 86, 87, 88, 89, 90, 91, 92, 93, 94, 95, 96, 97, 98, 99, 100, 101, 102, 103, 104, 105, 106, 107, 108, 109, 110, 111, 112, 113, 114, 115, 116, 117, 118, 119, 120, 121, 122, 123, 124, 125, 126, 127, 128, 129, 130, 131, 132, 133, 134, 135, 136, 137, 138, 139, 140, 141, 142, 143, 144, 145, 146, 147, 148, 149, 150] (fun x => [(9, .pt (.one (.int .i64 (.ofNat x.1.1)))), (8, .pt (.one (.int .i64 (.ofNat x.1.2))))]) (fun x => []) (fun x => []) (fun x => n - x.1.1) ⟨(0, 0), Nat.zero_le _, hN0⟩ ?_ ?_ ?_ ?_); (· (refine le_mk ?_ ?_ ?_ ?_ <;> (cbv; (try simp only [true_and, and_true]); (try ((repeat' apply And.intro) <;> (first | trivial | rfl | exact RowLe.rfl' _ | (rw [wrap_nat har _ (by omega)]) | ((rw [wrap_nat har _ (by have hlt2 : i < n := (by assumption); omega)])))))))); (· (cbv; try rfl)); (· simp); (rintro ⟨⟨i, x⟩, hi, hW⟩ mm hmm))
    | (((with_reducible apply go_need); (· exact n2 hW (by assumption)); (· exact hnn _ (n2 hW (by assumption)))))
    | (((with_reducible apply go_need); (· exact Int.natCast_nonneg _); (· first | exact Int.ofNat_lt.2 hW | exact Int.ofNat_lt.2 (nmL _ _ hW (hzl _ (by assumption))) | exact Int.ofNat_lt.2 (hzl _ (by assumption)) | exact Int.ofNat_lt.2 (by assumption))))
    | ((with_reducible apply go_call (f := 29) (hf := Tryz.call29)); (· (cbv; try rfl)); (· intro wc hbc hxc; exact h10 wc hbc x _ hW (hzl _ (by assumption))))
    | ((with_reducible apply go_callq (f := 29) (hf := Tryz.call29)); (· (cbv; try rfl)); (· intro wc hbc hxc; exact h10 wc hbc x _ hW (hzl _ (by assumption))))
    | ((with_reducible refine go_stop (⟨(i + 1, nm x (zr (f i) (nl x))), Nat.succ_le_of_lt (by assumption), nmL _ _ hW (hzl _ (by assumption))⟩ : {x : Nat × Nat // x.1 ≤ n ∧ x.2 < N}) ?_ ?_ ?_ ?_); (· subst hmm; (have hlt2 : i < n := (by assumption); show n - (i + 1) < n - i; omega)); (· (refine le_mk ?_ ?_ ?_ ?_ <;> (cbv; (try simp only [true_and, and_true]); (try ((repeat' apply And.intro) <;> (first | trivial | rfl | exact RowLe.rfl' _ | (rw [wrap_nat har _ (by omega)]) | ((rw [wrap_nat har _ (by have hlt2 : i < n := (by assumption); omega)])))))))); (· (cbv; try rfl)); (· simp))
    | ((with_reducible refine go_stop (⟨(i + 1, nm x (zr 0 (nl x))), Nat.succ_le_of_lt (by assumption), nmL _ _ hW (hzl _ (by assumption))⟩ : {x : Nat × Nat // x.1 ≤ n ∧ x.2 < N}) ?_ ?_ ?_ ?_); (· subst hmm; (have hlt2 : i < n := (by assumption); show n - (i + 1) < n - i; omega)); (· (refine le_mk ?_ ?_ ?_ ?_ <;> (cbv; (try simp only [true_and, and_true]); (try ((repeat' apply And.intro) <;> (first | trivial | rfl | exact RowLe.rfl' _ | (rw [wrap_nat har _ (by omega)]) | ((rw [wrap_nat har _ (by have hlt2 : i < n := (by assumption); omega)])))))))); (· (cbv; try rfl)); (· simp))
    )
  all_goals
    first
      | rfl
      | exact absurd (f1 x hW) (of_decide_eq_false (by assumption))
      | (have q := f2 x hW (hz0 (by assumption)); rw [hcm]; exact congrArg Value.bool (decide_eq_true (Int.ofNat_le.2 q.2)))
      | (have q := f2 x hW (hz0 (by assumption)); exact absurd (congrArg Int.ofNat q.1) (of_decide_eq_false (by assumption)))
      | exact absurd ((hg0 _).symm.trans (by assumption)) (by decide)
      | exact absurd ((hgN (f i) hW (by assumption)).symm.trans (by assumption)) (by decide)
      | exact absurd ((hgN 0 hW (by assumption)).symm.trans (by assumption)) (by decide)
      | exact absurd ((f3 x _ hW (hzl _ (by assumption))).1 (hsg (by assumption))) (of_decide_eq_false (by assumption))
      | exact absurd ((f3 x _ hW (hzl _ (by assumption))).2 (hsg2 (by assumption))) (of_decide_eq_false (by assumption))
      | trace_state

end Go.Proofs.YtbljhhkjjlgnmaaGreat
