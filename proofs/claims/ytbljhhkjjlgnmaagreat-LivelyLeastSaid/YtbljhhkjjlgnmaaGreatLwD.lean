/- LivelyLeast: the live locals are the least solution. No condition. -/
import Derived.Test.YtbljhhkjjlgnmaaGreatLwC
namespace Go.Proofs.YtbljhhkjjlgnmaaGreat
open Go.RowKit
set_option linter.unusedVariables false
set_option linter.unusedSimpArgs false

def vvD : Nat → Int
  | 0 => -1
  | t + 1 => .ofNat t
set_option maxRecDepth 100000 in
set_option maxHeartbeats 16000000 in
theorem leastL (F : GFun) (w : World) (hF : F.At w) (hK : F.Ty8) (hD : F.Fd) (lo : Int) :
    Calls Tryz.prog 10 #[F.val, .int .i64 lo] w (Ret w (.bool true)) := by
  have h1 (wc : World) (hk : KB ⟨w, []⟩ wc) := fit16C F wc (hF.later hk) hK
  by_cases hO : fitB F = true
  case neg =>
    have hq : fitB F = false := by simpa using hO
    rw [hq] at h1
    clear hK hO hq hD
    obtain ⟨pa, un, lA, ln, lc, lk, lt, bA, bn, bc, sA, sn, sc, s, jA, jn, jc, ja, jk, jo, jf, jx, je, jd⟩ := F
    obtain ⟨hX, hl, hb, hs, hj⟩ := hF
    simp only at hl hb hs hj
    refine go_start (args := [.pt (.agg (GFun.dat _)), .pt (.one (.int .i64 lo))]) (c := (funX _)) Tryz.func10 rfl hX rfl rfl ?_
    obtain ⟨nd, hnd, nt, hnt, ar, har, cm, hcm, mx, hmx, mn, hmn, ar01, ar12, zpl, hzpl, zjn, hzjn, zup, hzup, zmi, hzmi, zdp, hzdp, hT⟩ := t0_all
    repeat' (first
      | ((with_reducible apply go_ev hT 400); (· (cbv; try rfl)); (fail_if_success with_reducible apply stuck_id))
      | ((with_reducible refine go_brt ?_ ?_); (· first | rfl | assumption | (rw [hcm]; decide)))
      | ((with_reducible refine go_brf ?_ ?_); (· first | rfl | assumption | (rw [hcm]; decide)))
      | ((with_reducible refine go_brnt hnt ?_ ?_); (· first | rfl | assumption))
      | ((with_reducible refine go_brnf hnt ?_ ?_); (· first | rfl | assumption))
      | (with_reducible refine go_brn hnt (fun h => ?_) (fun h => ?_))
      | (with_reducible refine go_brl hcm (fun hlt => ?_) (fun hge => ?_))
      | (with_reducible refine go_br (fun h => ?_) (fun h => ?_))
      | ((with_reducible apply go_ret_val hT); (· (cbv; try rfl)); (· (cbv; try rfl)))
      | ((with_reducible apply go_fin_val hT); (· (cbv; try rfl)); (· (cbv; try rfl)))
      | ((with_reducible apply go_draw); (· rfl); (· kernel_rfl); (· kernel_rfl))
      | ((with_reducible apply go_drawE); (· kernel_rfl))
      | (with_reducible refine go_fork ?_)
      | (with_reducible refine fork_cons ?_ ?_)
      | (with_reducible exact fork_nil)
      | ((with_reducible refine go_need ?_ ?_ ?_); (· first | omega | (simp only [Int.ofNat_eq_natCast]; omega)); (· first | omega | (simp only [Int.ofNat_eq_natCast]; omega)))
      | ((with_reducible refine go_ob ?_ ?_); (· first | trivial | (refine ⟨trivial, ?_⟩; omega) | (rw [hzpl]; refine ⟨trivial, ?_⟩; show _ + _ ≤ 1073741824; omega) | (rw [hzpl]; show _ + _ ≤ 1073741824; omega)))
      | ((with_reducible apply go_ret_rows hT); (· (cbv; try rfl)); (· (cbv; try rfl)); (· (cbv; (try simp only [true_and, and_true]); (try ((repeat' apply And.intro) <;> (first | trivial | rfl | decide ))))); (· (cbv; (try simp only [true_and, and_true]); (try ((repeat' apply And.intro) <;> (first | trivial | rfl | exact RowLe.rfl' _ ))))); (· rfl))
      | ((with_reducible apply go_fin_rows hT); (· (cbv; try rfl)); (· (cbv; try rfl)); (· (cbv; (try simp only [true_and, and_true]); (try ((repeat' apply And.intro) <;> (first | trivial | rfl | decide ))))); (· (cbv; (try simp only [true_and, and_true]); (try ((repeat' apply And.intro) <;> (first | trivial | rfl | exact RowLe.rfl' _ ))))); (· rfl))
      | ((with_reducible apply go_call (f := 33) (hf := Tryz.call33)); (· (cbv; try rfl)); (· intro wc hbc hxc; exact alive16C wc))
      | ((with_reducible apply go_callq (f := 33) (hf := Tryz.call33)); (· (cbv; try rfl)); (· intro wc hbc hxc; exact alive16C wc))
      | ((with_reducible apply go_call (f := 34) (hf := Tryz.call34)); (· (cbv; try rfl)); (· intro wc hbc hxc; exact h1 wc hbc))
      | ((with_reducible apply go_callq (f := 34) (hf := Tryz.call34)); (· (cbv; try rfl)); (· intro wc hbc hxc; exact h1 wc hbc))
      )
    all_goals rfl
  rw [hO] at h1
  have hO : F.Ok := fit_ok hO
  by_cases hlo : lo < 0 ∨ (F.ln : Int) ≤ lo
  case pos =>
    clear hK hO hD
    obtain ⟨pa, un, lA, ln, lc, lk, lt, bA, bn, bc, sA, sn, sc, s, jA, jn, jc, ja, jk, jo, jf, jx, je, jd⟩ := F
    obtain ⟨hX, hl, hb, hs, hj⟩ := hF
    simp only at hl hb hs hj
    simp only at hlo
    refine go_start (args := [.pt (.agg (GFun.dat _)), .pt (.one (.int .i64 lo))]) (c := (funX _)) Tryz.func10 rfl hX rfl rfl ?_
    obtain ⟨nd, hnd, nt, hnt, ar, har, cm, hcm, mx, hmx, mn, hmn, ar01, ar12, zpl, hzpl, zjn, hzjn, zup, hzup, zmi, hzmi, zdp, hzdp, hT⟩ := t0_all
    have c1 : cm .lss lo 0 = true ∨ (cm .lss lo 0 = false ∧ cm .geq lo (.ofNat ln) = true) := by
      rw [hcm]
      by_cases g : lo < 0
      · exact .inl (decide_eq_true g)
      · exact .inr ⟨decide_eq_false g, decide_eq_true (by show lo ≥ (ln : Int); omega)⟩
    rcases c1 with c1 | ⟨c1, c2⟩
    all_goals
      repeat' (first
        | ((with_reducible apply go_ev hT 400); (· (cbv; try rfl)); (fail_if_success with_reducible apply stuck_id))
        | ((with_reducible refine go_brt ?_ ?_); (· first | rfl | assumption | (rw [hcm]; decide)))
        | ((with_reducible refine go_brf ?_ ?_); (· first | rfl | assumption | (rw [hcm]; decide)))
        | ((with_reducible refine go_brnt hnt ?_ ?_); (· first | rfl | assumption))
        | ((with_reducible refine go_brnf hnt ?_ ?_); (· first | rfl | assumption))
        | (with_reducible refine go_brn hnt (fun h => ?_) (fun h => ?_))
        | (with_reducible refine go_brl hcm (fun hlt => ?_) (fun hge => ?_))
        | (with_reducible refine go_br (fun h => ?_) (fun h => ?_))
        | ((with_reducible apply go_ret_val hT); (· (cbv; try rfl)); (· (cbv; try rfl)))
        | ((with_reducible apply go_fin_val hT); (· (cbv; try rfl)); (· (cbv; try rfl)))
        | ((with_reducible apply go_draw); (· rfl); (· kernel_rfl); (· kernel_rfl))
        | ((with_reducible apply go_drawE); (· kernel_rfl))
        | (with_reducible refine go_fork ?_)
        | (with_reducible refine fork_cons ?_ ?_)
        | (with_reducible exact fork_nil)
        | ((with_reducible refine go_need ?_ ?_ ?_); (· first | omega | (simp only [Int.ofNat_eq_natCast]; omega)); (· first | omega | (simp only [Int.ofNat_eq_natCast]; omega)))
        | ((with_reducible refine go_ob ?_ ?_); (· first | trivial | (refine ⟨trivial, ?_⟩; omega) | (rw [hzpl]; refine ⟨trivial, ?_⟩; show _ + _ ≤ 1073741824; omega) | (rw [hzpl]; show _ + _ ≤ 1073741824; omega)))
        | ((with_reducible apply go_ret_rows hT); (· (cbv; try rfl)); (· (cbv; try rfl)); (· (cbv; (try simp only [true_and, and_true]); (try ((repeat' apply And.intro) <;> (first | trivial | rfl | decide ))))); (· (cbv; (try simp only [true_and, and_true]); (try ((repeat' apply And.intro) <;> (first | trivial | rfl | exact RowLe.rfl' _ ))))); (· rfl))
        | ((with_reducible apply go_fin_rows hT); (· (cbv; try rfl)); (· (cbv; try rfl)); (· (cbv; (try simp only [true_and, and_true]); (try ((repeat' apply And.intro) <;> (first | trivial | rfl | decide ))))); (· (cbv; (try simp only [true_and, and_true]); (try ((repeat' apply And.intro) <;> (first | trivial | rfl | exact RowLe.rfl' _ ))))); (· rfl))
        | ((with_reducible apply go_call (f := 33) (hf := Tryz.call33)); (· (cbv; try rfl)); (· intro wc hbc hxc; exact alive16C wc))
        | ((with_reducible apply go_callq (f := 33) (hf := Tryz.call33)); (· (cbv; try rfl)); (· intro wc hbc hxc; exact alive16C wc))
        | ((with_reducible apply go_call (f := 34) (hf := Tryz.call34)); (· (cbv; try rfl)); (· intro wc hbc hxc; exact h1 wc hbc))
        | ((with_reducible apply go_callq (f := 34) (hf := Tryz.call34)); (· (cbv; try rfl)); (· intro wc hbc hxc; exact h1 wc hbc))
        )
    all_goals rfl
  obtain ⟨L, rfl⟩ : ∃ L : Nat, lo = .ofNat L := ⟨lo.toNat, by simp only [Int.ofNat_eq_natCast]; omega⟩
  have hLn : L < F.ln := by simp only [Int.ofNat_eq_natCast] at hlo; omega
  have h40 (wc : World) (hk : KB ⟨w, []⟩ wc) := livesC F wc (hF.later hk) hO hD
  have h60 (wc : World) (hk : KB ⟨w, []⟩ wc) (x : Nat) (hx : x < stN F.sn F.bn) := lusesC F wc (hF.later hk) hO hD x hx
  have h7 (wc : World) (hk : KB ⟨w, []⟩ wc) := sizeC F wc (hF.later hk) hO.small
  have h80 (wc : World) (hk : KB ⟨w, []⟩ wc) (a : Nat) (ha : a < stN F.sn F.bn) := nextPC F wc (hF.later hk) hO (pbN F a) (piN F a) (num_pt ha).1 (num_pt ha).2.1
  have h100 (wc : World) (hk : KB ⟨w, []⟩ wc) (b i : Nat) (hb : b < F.bn) (hi : i ≤ F.sn b) := numberC F wc (hF.later hk) hO b i hb hi
  have h110 (wc : World) (hk : KB ⟨w, []⟩ wc) (a : Nat) (ha : a < stN F.sn F.bn) := pointNC F wc (hF.later hk) hO.small a ha
  have hN9 := hO.pts
  have hN0 := pts_pos hO
  have hl16 := hO.ln16
  obtain ⟨N, hN⟩ : ∃ N, N = stN F.sn F.bn := ⟨_, rfl⟩
  obtain ⟨pb, hpb⟩ : ∃ f : Nat → Nat, f = pbN F := ⟨_, rfl⟩
  obtain ⟨pi, hpi⟩ : ∃ f : Nat → Nat, f = piN F := ⟨_, rfl⟩
  obtain ⟨rm, hrm⟩ : ∃ f : Nat → Nat, f = liM F := ⟨_, rfl⟩
  obtain ⟨um, hum⟩ : ∃ f : Nat → Nat, f = umN F := ⟨_, rfl⟩
  obtain ⟨sm, hsm⟩ : ∃ f : Nat → Int, f = smN F := ⟨_, rfl⟩
  obtain ⟨nl, hnl⟩ : ∃ f : Nat → Nat, f = fun a => (nextP F (pbN F a) (piN F a)).length := ⟨_, rfl⟩
  obtain ⟨q1', hq1⟩ : ∃ f : Nat → Nat → Nat, f = fun a k => ((nextP F (pbN F a) (piN F a)).getD k (0, 0)).1 := ⟨_, rfl⟩
  obtain ⟨q2', hq2⟩ : ∃ f : Nat → Nat → Nat, f = fun a k => ((nextP F (pbN F a) (piN F a)).getD k (0, 0)).2 := ⟨_, rfl⟩
  obtain ⟨nm, hnm⟩ : ∃ f : Nat → Nat → Nat, f = nmN F := ⟨_, rfl⟩
  have h4 (wc : World) (hk : KB ⟨w, []⟩ wc) : Calls Tryz.prog 35 #[F.val] wc (RetR wc (funX F) (.tup [.one (.rs 0), .one (.int .i64 0)]) [⟨N, 1, fun j => [.int .u32 (.ofNat (rm j))]⟩]) := by
    rw [hrm, hN]; exact h40 wc hk
  have h6 (wc : World) (hk : KB ⟨w, []⟩ wc) (x : Nat) (hx : x < N) : Calls Tryz.prog 38 #[F.val, .int .i64 (.ofNat x)] wc (Ret wc (.tuple #[.int .u32 (.ofNat (um x)), .int .i64 (sm x), .int .i64 0])) := by
    rw [hum, hsm]; exact h60 wc hk x (hN ▸ hx)
  have h8 (wc : World) (hk : KB ⟨w, []⟩ wc) (x : Nat) (hx : x < N) : Calls Tryz.prog 27 #[F.val, .agg #[.int .i64 (.ofNat (pb x)), .int .i64 (.ofNat (pi x))]] wc (RetR wc (funX F) (.tup [.one (.rs 0), .one (.int .i64 0)]) [⟨nl x, 2, fun j => [.int .i64 (.ofNat (q1' x j)), .int .i64 (.ofNat (q2' x j))]⟩]) := by
    rw [hpb, hpi, hnl, hq1, hq2]; exact h80 wc hk x (hN ▸ hx)
  have h11 (wc : World) (hk : KB ⟨w, []⟩ wc) (a : Nat) (ha : a < N) : Calls Tryz.prog 28 #[F.val, .int .i64 (.ofNat a)] wc (Ret wc (.agg #[.int .i64 (.ofNat (pb a)), .int .i64 (.ofNat (pi a))])) := by
    rw [hpb, hpi]; exact h110 wc hk a (hN ▸ ha)
  have h10 (wc : World) (hk : KB ⟨w, []⟩ wc) (a k : Nat) (ha : a < N) (hk2 : k < nl a) : Calls Tryz.prog 29 #[F.val, .agg #[.int .i64 (.ofNat (q1' a k)), .int .i64 (.ofNat (q2' a k))]] wc (Ret wc (.tuple #[.int .i64 (.ofNat (nm a k)), .int .i64 0])) := by
    rw [hnl] at hk2
    have q := nmN_ok hO (hN ▸ ha) hk2
    rw [hq1, hq2, hnm]; exact h100 wc hk _ _ q.1 q.2.1
  have nl2 : ∀ a, nl a ≤ 2 := fun a => by rw [hnl]; exact nextP_len
  have nmL : ∀ a k, a < N → k < nl a → nm a k < N := fun a k ha hk => by
    rw [hnl] at hk; rw [hnm, hN]; exact (nmN_ok hO (hN ▸ ha) hk).2.2.1
  have hst (wc : World) (hk : KB ⟨w, []⟩ wc) (x : Nat) (hx : x < N) : Calls Tryz.prog 43 #[F.val, .int .i64 (.ofNat x)] wc (Ret wc (.int .i64 (sm x))) := by
    rw [hsm]; exact rSet16C F wc (hF.later hk) hO x (hN ▸ hx)
  obtain ⟨dl, hdl⟩ : ∃ f : Nat → Nat, f = fun x => (rsucc F x).length := ⟨_, rfl⟩
  obtain ⟨dg, hdg⟩ : ∃ f : Nat → Nat → Nat, f = fun x j => (rsucc F x).getD j 0 := ⟨_, rfl⟩
  have hnx (wc : World) (hk : KB ⟨w, []⟩ wc) (x : Nat) (hx : x < N) : Calls Tryz.prog 32 #[F.val, .int .i64 (.ofNat x)] wc (RetR wc (funX F) (.pt (.one (.rs 0))) [⟨dl x, 1, fun j => [.int .i64 (.ofNat (dg x j))]⟩]) := by
    have := rNextC F wc (hF.later hk) hO x (hN ▸ hx)
    rw [hdl, hdg]; exact this
  have dl2 : ∀ x, dl x ≤ 2 := fun x => by rw [hdl]; exact rsucc_len F x
  have dgN : ∀ x k, x < N → k < dl x → dg x k < N := fun x k hx hk => by
    rw [hdl] at hk; rw [hdg, hN]
    refine rsucc_lt hO (hN ▸ hx) _ ?_
    simp only [List.getD, List.getElem?_eq_getElem hk, Option.getD_some]
    exact List.getElem_mem hk
  obtain ⟨ub, hub⟩ : ∃ f : Nat → Bool, f = fun x => uB F (pbN F x) (piN F x) L := ⟨_, rfl⟩
  obtain ⟨lv, hlv⟩ : ∃ f : Nat → Bool, f = fun x => (liveG F).liB L x := ⟨_, rfl⟩
  obtain ⟨R1, hR1⟩ : ∃ f : Nat → Nat → Bool, f = fun n j => decide (j < n) && ub j := ⟨_, rfl⟩
  obtain ⟨wm, hwm⟩ : ∃ f : Nat → Nat → Nat, f = fun n k => mk (fun l => ((succN F n).take k).any fun q => (liveG F).liB l q) F.ln := ⟨_, rfl⟩
  obtain ⟨wB, hwB⟩ : ∃ f : (Nat → Bool) → Nat → Nat → Bool, f = fun R t => (DnG.W (rsucc F) (fun n => decide (smN F n = Int.ofNat L)) R N t).1 := ⟨_, rfl⟩
  obtain ⟨wM, hwM⟩ : ∃ f : (Nat → Bool) → Nat → Bool, f = fun R t => (DnG.W (rsucc F) (fun n => decide (smN F n = Int.ofNat L)) R N t).2 := ⟨_, rfl⟩
  obtain ⟨iN, hiN⟩ : ∃ f : (Nat → Bool) → Nat → Nat → Nat → Bool, f = fun S t k => DnG.inn (rsucc F) S t k := ⟨_, rfl⟩
  obtain ⟨ct, hct⟩ : ∃ f : (Nat → Bool) → Nat, f = fun R => FlowG.cnt R N := ⟨_, rfl⟩
  have w1 : ∀ R, wB R N = R ∧ wM R N = false := fun R => by rw [hwB, hwM]; simp only [DnG.W_top]; exact ⟨trivial, trivial⟩
  have w2 : ∀ R t, t < N → (wB R (t + 1) t || decide (sm t = Int.ofNat L)) = true → wB R t = wB R (t + 1) ∧ wM R t = wM R (t + 1) := fun R t ht h => by
    rw [hwB, hsm] at h
    rw [hwB, hwM]; simp only [DnG.W_step _ _ ht, DnG.step, if_pos h]; exact ⟨trivial, trivial⟩
  have w3 : ∀ R t, t < N → wB R (t + 1) t = false → decide (sm t = Int.ofNat L) = false → wB R t = iN (wB R (t + 1)) t (dl t) ∧ wM R t = (wM R (t + 1) || iN (wB R (t + 1)) t (dl t) t) := fun R t ht h h2 => by
    have hc : ¬ (wB R (t + 1) t || decide (sm t = Int.ofNat L)) = true := by rw [h, h2]; simp
    rw [hwB, hsm] at hc
    rw [hwB, hwM, hiN, hdl]; simp only [DnG.W_step _ _ ht, DnG.step, if_neg hc]
    refine ⟨?_, ?_⟩
    · funext j; simp only [DnG.inn, List.take_length]
    · simp only [DnG.inn, List.take_length, if_true]
  have v0 : ∀ S t, S t = false → iN S t 0 = S := fun S t h => by
    rw [hiN]; funext j; simp only [DnG.inn, List.take_zero, List.any_nil]
    by_cases e : j = t
    · rw [if_pos e, e, h]
    · rw [if_neg e]
  have v1 : ∀ S t k, k < dl t → iN S t (k + 1) = fun j => if j = t then (iN S t k t || S (dg t k)) else iN S t k j := fun S t k hk => by
    rw [hdl] at hk
    rw [hiN, hdg]; funext j
    by_cases e : j = t
    · subst e
      simp only [DnG.inn, if_true]
      rw [List.take_add_one, List.any_append]
      simp only [List.getElem?_eq_getElem hk, Option.toList_some, List.any_cons, List.any_nil, Bool.or_false, List.getD, Option.getD_some]
    · simp only [DnG.inn, if_neg e]
  have v2 : ∀ S t k, S t = false → iN S t k t = false → iN S t k (dg t k) = S (dg t k) := fun S t k h h2 => by
    by_cases e : dg t k = t
    · rw [e, h2, h]
    · rw [hiN]; simp only [DnG.inn, if_neg e]
  have r0 : ∀ R, (∀ j, j < N → ub j = true → R j = true) → (∀ j, j < N → ub j = true → wB R 0 j = true) := fun R h j hj hu => by
    rw [hwB]; exact DnG.dn_up _ _ (h j hj hu) _
  have rc : ∀ R, wM R 0 = true → ct R < ct (wB R 0) := fun R h => by rw [hwM] at h; rw [hct, hwB]; exact DnG.W_cnt _ _ h
  have rf : ∀ R, (∀ j, j < N → ub j = true → R j = true) → wM R 0 = false → ∀ j, lv j = true → wB R 0 j = true := fun R h hm j hj => by
    rw [hwM] at hm; rw [hlv] at hj
    have hn := DnG.dn_no (rsucc F) (fun n => decide (smN F n = Int.ofNat L)) (R := R) (N := N) (N - 0) (by omega) hm
    have e : wB R 0 = R := by rw [hwB]; exact hn.1
    rw [e]
    refine least_fin (fun n hn2 hu => h n (by rw [hN]; exact hn2) (by rw [hub]; exact hu)) (fun n hn2 hx => hn.2 n (by omega) (by rw [hN]; exact hn2) hx) hj
  have ra : ∀ R, N ≤ ct R → ∀ j, j < N → R j = true := fun R h => by rw [hct] at h; exact DnG.cnt_all N h
  have q0 : ∀ n, wm n 0 = 0 := fun n => by rw [hwm]; simp only [List.take_zero, List.any_nil]; exact mk_none.symm
  have q1 : ∀ {ar : BinOp → IntKind → Int → Int → Int}, ar = rAr → ∀ n k, n < N → k < nl n → ar .or .u32 (.ofNat (wm n k)) (.ofNat (rm (nm n k))) = .ofNat (wm n (k + 1)) := fun {ar} har n k hn hk => by
    rw [hnl] at hk
    have hk' : k < (succN F n).length := by rw [succN_len]; exact hk
    rw [hwm, hrm]
    unfold liM
    rw [mk_or har (by omega)]
    refine congrArg Int.ofNat (mk_ext fun l _ => ?_)
    rw [List.take_add_one, List.any_append]
    simp only [List.getElem?_eq_getElem hk', Option.toList_some, List.any_cons, List.any_nil, Bool.or_false]
    congr 1
    rw [hnm, ← succN_at hk]
    simp only [List.getD, List.getElem?_eq_getElem hk', Option.getD_some]
  have q2 : ∀ {ar : BinOp → IntKind → Int → Int → Int}, ar = rAr → ∀ n, n < N → (0 ≤ sm n → ar .or .u32 (ar .andNot .u32 (.ofNat (wm n (nl n))) (ar .shl .u32 1 (ar .quo .u64 (sm n) 0))) (.ofNat (um n)) = .ofNat (rm n)) ∧ (¬ 0 ≤ sm n → ar .or .u32 (.ofNat (wm n (nl n))) (.ofNat (um n)) = .ofNat (rm n)) := by
    intro ar har n hn
    have hsl : smN F n < F.ln := sI_lt hO (num_pt (hN ▸ hn)).1
    have e1 : wm n (nl n) = mk (fun l => (succN F n).any fun q => (liveG F).liB l q) F.ln := by rw [hwm, hnl]; simp only [← succN_len, List.take_length]
    rw [e1, hrm, hum, hsm]
    unfold liM umN
    refine ⟨fun h0 => ?_, fun h0 => ?_⟩
    · rw [quo_u64L har h0 (by omega), u32_shl har (by omega), mk_one (show (smN F n).toNat < F.ln by omega), mk_andNot har (by omega), mk_or har (by omega)]
      refine congrArg Int.ofNat (mk_ext fun l _ => ?_)
      rw [li_us hO (hN ▸ hn)]
      have : decide (l = (smN F n).toNat) = decide (Int.ofNat l = smN F n) := decide_eq_decide.2 (by simp only [Int.ofNat_eq_natCast]; omega)
      rw [this]
    · rw [mk_or har (by omega)]
      refine congrArg Int.ofNat (mk_ext fun l _ => ?_)
      rw [li_us hO (hN ▸ hn)]
      have : decide (Int.ofNat l = smN F n) = false := decide_eq_false (by simp only [Int.ofNat_eq_natCast]; omega)
      rw [this]; simp
  have bu : ∀ {ar : BinOp → IntKind → Int → Int → Int}, ar = rAr → ∀ n, decide (ar .and .u32 (ar .shr .u32 (.ofNat (um n)) (ar .quo .u64 (.ofNat L) 0)) 1 = 1) = ub n ∧ decide (ar .and .u32 (ar .shr .u32 (.ofNat (rm n)) (ar .quo .u64 (.ofNat L) 0)) 1 = 1) = lv n := by
    intro ar har n
    rw [quo_u64L har (x := Int.ofNat L) (Int.natCast_nonneg L) (by simp only [Int.ofNat_eq_natCast]; omega)]
    rw [hum, hrm, hub, hlv]
    unfold umN liM
    have e : (Int.ofNat L).toNat = L := rfl
    rw [e, bit_is har (by omega) hLn, bit_is har (by omega) hLn]
    constructor
    · show _ = uB F (pbN F n) (piN F n) L
      generalize uB F (pbN F n) (piN F n) L = b; cases b <;> rfl
    · show _ = (liveG F).liB L n
      generalize (liveG F).liB L n = b; cases b <;> rfl
  have smL : ∀ a, a < N → sm a < 1000 := fun a ha => by
    have : smN F a < F.ln := sI_lt hO (num_pt (hN ▸ ha)).1
    rw [hsm]; omega
  rw [← hN] at h7 hN9 hN0
  clear hrm hum hsm hnl hq1 hq2 hnm hpb hpi h40 h60 h80 h100 h110 hN hO hK hD hdl hdg hub hlv hwm hwB hwM hiN hct
  obtain ⟨pa, un, lA, ln, lc, lk, lt, bA, bn, bc, sA, sn, sc, s, jA, jn, jc, ja, jk, jo, jf, jx, je, jd⟩ := F
  obtain ⟨hX, hl, hb, hs, hj⟩ := hF
  simp only at hl hb hs hj
  try simp only at h4 h6 h7 h8 h10 h11 hl16 hst hnx hLn
  refine go_start (args := [.pt (.agg (GFun.dat ⟨pa, un, lA, ln, lc, lk, lt, bA, bn, bc, sA, sn, sc, s, jA, jn, jc, ja, jk, jo, jf, jx, je, jd⟩)), .pt (.one (.int .i64 (.ofNat L)))]) (c := (funX ⟨pa, un, lA, ln, lc, lk, lt, bA, bn, bc, sA, sn, sc, s, jA, jn, jc, ja, jk, jo, jf, jx, je, jd⟩)) Tryz.func10 rfl hX rfl rfl ?_
  obtain ⟨nd, hnd, nt, hnt, ar, har, cm, hcm, mx, hmx, mn, hmn, ar01, ar12, zpl, hzpl, zjn, hzjn, zup, hzup, zmi, hzmi, zdp, hzdp, hT⟩ := t0_all
  have q1 := @q1 ar har
  have q2 := @q2 ar har
  have bu := @bu ar har
  have c1 : cm .lss (.ofNat L) 0 = false := by rw [hcm]; exact decide_eq_false (fun g => absurd (Int.natCast_nonneg L) (Int.not_le.2 g))
  have c2 : cm .geq (.ofNat L) (.ofNat ln) = false := by rw [hcm]; exact decide_eq_false (fun g => absurd (Int.ofNat_le.1 g) (Nat.not_le.2 hLn))
  have hmk : (N : Int) ≤ 1073741824 := by omega
  have hgN : ∀ {x k}, x < N → k < nl x → cm .geq (.ofNat (nm x k)) (.ofNat N) = false := fun {x k} h g => by
    rw [hcm]; exact decide_eq_false (Int.not_le.2 (Int.ofNat_lt.2 (nmL _ _ h g)))
  have hg0 : ∀ k : Nat, cm .lss (.ofNat k) 0 = false := fun k => by rw [hcm]; exact decide_eq_false (Int.not_lt.2 (Int.natCast_nonneg k))
  have hsg : ∀ {x}, cm .geq (sm x) 0 = true → 0 ≤ sm x := fun {x} h => by rw [hcm] at h; exact of_decide_eq_true h
  have hsg2 : ∀ {x}, cm .geq (sm x) 0 = false → ¬ 0 ≤ sm x := fun {x} h => by rw [hcm] at h; exact of_decide_eq_false h
  have n2 : ∀ {x}, x < N → cm .geq (sm x) 0 = true → 0 ≤ ar .quo .u64 (sm x) 0 := fun {x} hx h => by rw [quo_u64L har (hsg h) (smL x hx)]; exact Int.natCast_nonneg _
  have n3 : 0 ≤ ar .quo .u64 (.ofNat L) 0 := by rw [quo_u64L har (x := Int.ofNat L) (Int.natCast_nonneg L) (by simp only [Int.ofNat_eq_natCast]; omega)]; exact Int.natCast_nonneg _
  have hnn : ∀ X : Int, 0 ≤ X → X < X.toNat + 1 := fun X h => by omega
  have e0 : RowLe ⟨N, 1, fun x => [SC.lit false]⟩ ⟨N, 1, fun j => [SC.bool (R1 0 j)]⟩ := rowLe_of rfl fun j hj => ⟨(by rw [hR1]; simp; rfl), trivial⟩
  have e1 : ∀ n X, X = ub n → RowLe ⟨N, 1, zup (fun j => [SC.bool (R1 n j)]) n 0 [SC.bool X]⟩ ⟨N, 1, fun j => [SC.bool (R1 (n + 1) j)]⟩ := fun n X hX => by
    refine rowLe_up hzup rfl (fun j hj h => ⟨?_, trivial⟩) (fun _ => ⟨?_, trivial⟩)
    · have : R1 n j = R1 (n + 1) j := by rw [hR1]; simp only; congr 1; exact decide_eq_decide.2 (by omega)
      rw [this]; exact rfl
    · have : R1 (n + 1) n = ub n := by rw [hR1]; simp
      rw [hX, this]; exact rfl
  have hvN : ∀ t : Nat, t ≤ 1000 → ar .sub .i64 (.ofNat t) 1 = vvD t := fun t ht => by
    rw [har]
    show IntKind.i64.wrap ((t : Int) - 1) = vvD t
    rw [Go.IntWalk.i64_in _ (by omega)]
    cases t with
    | zero => rfl
    | succ t => show ((t + 1 : Nat) : Int) - 1 = (t : Int); omega
  have w2a : ∀ R t, t < N → wB R (t + 1) t = true → wB R t = wB R (t + 1) ∧ wM R t = wM R (t + 1) := fun R t ht h => w2 R t ht (by rw [h]; rfl)
  have w2b : ∀ R t, t < N → decide (sm t = Int.ofNat L) = true → wB R t = wB R (t + 1) ∧ wM R t = wM R (t + 1) := fun R t ht h => w2 R t ht (by rw [h, Bool.or_true])
  have w3a : ∀ R t k, t < N → wB R (t + 1) t = false → decide (sm t = Int.ofNat L) = false → k ≤ dl t → dl t ≤ k → wB R t = iN (wB R (t + 1)) t k ∧ (wM R (t + 1) = true → wM R t = true) ∧ (wM R (t + 1) = false → wM R t = iN (wB R (t + 1)) t k t) := fun R t k ht h h2 h3 h4 => by
    have e : k = dl t := Nat.le_antisymm h3 h4
    have q := w3 R t ht h h2
    rw [e]
    refine ⟨q.1, fun g => by rw [q.2, g]; rfl, fun g => by rw [q.2, g]; rfl⟩
  have c6 : ∀ t : Nat, cm .geq (.ofNat t) 0 = true := fun t => by rw [hcm]; exact decide_eq_true (Int.natCast_nonneg t)
  have hst3 : ∀ (r : Nat) (R : Nat → Bool), r < N → (∀ j, j < N → ub j = true → R j = true) → r ≤ ct R → wM R 0 = true → (r + 1 ≤ N ∧ (∀ j, j < N → ub j = true → wB R 0 j = true) ∧ r + 1 ≤ ct (wB R 0)) := fun r R h1 h2 h3 h4 => ⟨h1, r0 R h2, Nat.lt_of_le_of_lt h3 (rc R h4)⟩
  have c7 : cm .geq (-1) 0 = false := by rw [hcm]; decide
  have hA : ∀ S t k, k < dl t → iN S t k t = true → RowLe ⟨N, 1, zup (fun j => [SC.bool (iN S t k j)]) t 0 [SC.lit true]⟩ ⟨N, 1, fun j => [SC.bool (iN S t (k + 1) j)]⟩ := fun S t k hk h => by
    rw [v1 S t k hk]
    refine rowLe_up hzup rfl (fun j hj h2 => ⟨?_, trivial⟩) (fun _ => ⟨?_, trivial⟩)
    · simp only [if_neg h2]; exact rfl
    · simp only [if_true, h, Bool.true_or]; exact rfl
  have hB : ∀ S t k, k < dl t → S t = false → iN S t k t = false → RowLe ⟨N, 1, zup (fun j => [SC.bool (iN S t k j)]) t 0 [SC.bool (iN S t k (dg t k))]⟩ ⟨N, 1, fun j => [SC.bool (iN S t (k + 1) j)]⟩ := fun S t k hk h h3 => by
    rw [v1 S t k hk, v2 S t k h h3]
    refine rowLe_up hzup rfl (fun j hj h2 => ⟨?_, trivial⟩) (fun _ => ⟨?_, trivial⟩)
    · simp only [if_neg h2]; exact rfl
    · simp only [if_true, h3, Bool.false_or]; exact rfl
  have hR1N : ∀ j, j < N → ub j = true → R1 N j = true := fun j hj hu => by rw [hR1]; simp only [decide_eq_true hj, hu]; rfl
  repeat' (first
    | ((with_reducible apply go_ev hT 400); (· (cbv; try rfl)); (fail_if_success with_reducible apply stuck_id))
    | ((with_reducible refine go_brt ?_ ?_); (· first | rfl | assumption | (rw [hcm]; decide)))
    | ((with_reducible refine go_brf ?_ ?_); (· first | rfl | assumption | (rw [hcm]; decide)))
    | ((with_reducible refine go_brnt hnt ?_ ?_); (· first | rfl | assumption))
    | ((with_reducible refine go_brnf hnt ?_ ?_); (· first | rfl | assumption))
    | (with_reducible refine go_brn hnt (fun h => ?_) (fun h => ?_))
    | (with_reducible refine go_brl hcm (fun hlt => ?_) (fun hge => ?_))
    | (with_reducible refine go_br (fun h => ?_) (fun h => ?_))
    | ((with_reducible apply go_ret_val hT); (· (cbv; try rfl)); (· (cbv; try rfl)))
    | ((with_reducible apply go_fin_val hT); (· (cbv; try rfl)); (· (cbv; try rfl)))
    | ((with_reducible apply go_drawQ [27, 29]); (· rfl); (· rfl); (· kernel_rfl); (· kernel_rfl))
    | ((with_reducible apply go_drawE); (· kernel_rfl))
    | (with_reducible refine go_fork ?_)
    | (with_reducible refine fork_cons ?_ ?_)
    | (with_reducible exact fork_nil)
    | ((with_reducible refine go_need ?_ ?_ ?_); (· first | omega | (simp only [Int.ofNat_eq_natCast]; omega)); (· first | omega | (simp only [Int.ofNat_eq_natCast]; omega)))
    | ((with_reducible refine go_ob ?_ ?_); (· first | trivial | (refine ⟨trivial, ?_⟩; omega) | (rw [hzpl]; refine ⟨trivial, ?_⟩; show _ + _ ≤ 1073741824; omega) | (rw [hzpl]; show _ + _ ≤ 1073741824; omega) | ((exact ⟨Int.natCast_nonneg N, hmk⟩))))
    | ((with_reducible apply go_ret_rows hT); (· (cbv; try rfl)); (· (cbv; try rfl)); (· (cbv; (try simp only [true_and, and_true]); (try ((repeat' apply And.intro) <;> (first | trivial | rfl | decide  | ((exact e0)) | ((rw [q0 n]; rfl)) | ((exact q1 n k (by assumption) (by assumption))) | ((exact e1 n _ (bu n).1)) | ((rw [wrap_nat har k (by have := nl2 n; have h9 : k < nl n := (by assumption); omega)])) | ((rw [wrap_nat har n (by have h9 : n < N := (by assumption); omega)])) | ((have e : n = N := Nat.le_antisymm hn (by assumption); rw [e]; exact RowLe.rfl' _)) | ((exact hvN N (by omega))) | ((exact hvN t (by omega))) | ((exact (w1 R).2.symm)) | ((exact (w1 R).2)) | ((rw [(w1 R).1]; exact RowLe.rfl' _)) | ((rw [v0 _ t (by assumption)]; exact RowLe.rfl' _)) | ((exact hA _ t m (by assumption) (by assumption))) | ((exact hB _ t m (by assumption) (by assumption) (by assumption))) | ((rw [wrap_nat har m (by have := dl2 t; have h9 : m < dl t := (by assumption); omega)])) | ((rw [(w2a R t ht (by assumption)).1]; exact RowLe.rfl' _)) | ((rw [(w2b R t ht (by assumption)).1]; exact RowLe.rfl' _)) | ((exact (w2a R t ht (by assumption)).2.symm)) | ((exact (w2b R t ht (by assumption)).2.symm)) | ((rw [(w3a R t m ht (by assumption) (by assumption) hm (by assumption)).1]; exact RowLe.rfl' _)) | ((exact (w3a R t m ht (by assumption) (by assumption) hm (by assumption)).2.1 (by assumption))) | ((exact ((w3a R t m ht (by assumption) (by assumption) hm (by assumption)).2.1 (by assumption)).symm)) | ((exact ((w3a R t m ht (by assumption) (by assumption) hm (by assumption)).2.2 (by assumption)).symm)) | ((rw [wrap_nat har r (by have h9 : r < N := (by assumption); omega)])) | ((rw [wrap_nat har j (by have h9 : j < N := (by assumption); omega)]))))))); (· (cbv; (try simp only [true_and, and_true]); (try ((repeat' apply And.intro) <;> (first | trivial | rfl | exact RowLe.rfl' _  | ((exact e0)) | ((rw [q0 n]; rfl)) | ((exact q1 n k (by assumption) (by assumption))) | ((exact e1 n _ (bu n).1)) | ((rw [wrap_nat har k (by have := nl2 n; have h9 : k < nl n := (by assumption); omega)])) | ((rw [wrap_nat har n (by have h9 : n < N := (by assumption); omega)])) | ((have e : n = N := Nat.le_antisymm hn (by assumption); rw [e]; exact RowLe.rfl' _)) | ((exact hvN N (by omega))) | ((exact hvN t (by omega))) | ((exact (w1 R).2.symm)) | ((exact (w1 R).2)) | ((rw [(w1 R).1]; exact RowLe.rfl' _)) | ((rw [v0 _ t (by assumption)]; exact RowLe.rfl' _)) | ((exact hA _ t m (by assumption) (by assumption))) | ((exact hB _ t m (by assumption) (by assumption) (by assumption))) | ((rw [wrap_nat har m (by have := dl2 t; have h9 : m < dl t := (by assumption); omega)])) | ((rw [(w2a R t ht (by assumption)).1]; exact RowLe.rfl' _)) | ((rw [(w2b R t ht (by assumption)).1]; exact RowLe.rfl' _)) | ((exact (w2a R t ht (by assumption)).2.symm)) | ((exact (w2b R t ht (by assumption)).2.symm)) | ((rw [(w3a R t m ht (by assumption) (by assumption) hm (by assumption)).1]; exact RowLe.rfl' _)) | ((exact (w3a R t m ht (by assumption) (by assumption) hm (by assumption)).2.1 (by assumption))) | ((exact ((w3a R t m ht (by assumption) (by assumption) hm (by assumption)).2.1 (by assumption)).symm)) | ((exact ((w3a R t m ht (by assumption) (by assumption) hm (by assumption)).2.2 (by assumption)).symm)) | ((rw [wrap_nat har r (by have h9 : r < N := (by assumption); omega)])) | ((rw [wrap_nat har j (by have h9 : j < N := (by assumption); omega)]))))))); (· rfl))
    | ((with_reducible apply go_fin_rows hT); (· (cbv; try rfl)); (· (cbv; try rfl)); (· (cbv; (try simp only [true_and, and_true]); (try ((repeat' apply And.intro) <;> (first | trivial | rfl | decide  | ((exact e0)) | ((rw [q0 n]; rfl)) | ((exact q1 n k (by assumption) (by assumption))) | ((exact e1 n _ (bu n).1)) | ((rw [wrap_nat har k (by have := nl2 n; have h9 : k < nl n := (by assumption); omega)])) | ((rw [wrap_nat har n (by have h9 : n < N := (by assumption); omega)])) | ((have e : n = N := Nat.le_antisymm hn (by assumption); rw [e]; exact RowLe.rfl' _)) | ((exact hvN N (by omega))) | ((exact hvN t (by omega))) | ((exact (w1 R).2.symm)) | ((exact (w1 R).2)) | ((rw [(w1 R).1]; exact RowLe.rfl' _)) | ((rw [v0 _ t (by assumption)]; exact RowLe.rfl' _)) | ((exact hA _ t m (by assumption) (by assumption))) | ((exact hB _ t m (by assumption) (by assumption) (by assumption))) | ((rw [wrap_nat har m (by have := dl2 t; have h9 : m < dl t := (by assumption); omega)])) | ((rw [(w2a R t ht (by assumption)).1]; exact RowLe.rfl' _)) | ((rw [(w2b R t ht (by assumption)).1]; exact RowLe.rfl' _)) | ((exact (w2a R t ht (by assumption)).2.symm)) | ((exact (w2b R t ht (by assumption)).2.symm)) | ((rw [(w3a R t m ht (by assumption) (by assumption) hm (by assumption)).1]; exact RowLe.rfl' _)) | ((exact (w3a R t m ht (by assumption) (by assumption) hm (by assumption)).2.1 (by assumption))) | ((exact ((w3a R t m ht (by assumption) (by assumption) hm (by assumption)).2.1 (by assumption)).symm)) | ((exact ((w3a R t m ht (by assumption) (by assumption) hm (by assumption)).2.2 (by assumption)).symm)) | ((rw [wrap_nat har r (by have h9 : r < N := (by assumption); omega)])) | ((rw [wrap_nat har j (by have h9 : j < N := (by assumption); omega)]))))))); (· (cbv; (try simp only [true_and, and_true]); (try ((repeat' apply And.intro) <;> (first | trivial | rfl | exact RowLe.rfl' _  | ((exact e0)) | ((rw [q0 n]; rfl)) | ((exact q1 n k (by assumption) (by assumption))) | ((exact e1 n _ (bu n).1)) | ((rw [wrap_nat har k (by have := nl2 n; have h9 : k < nl n := (by assumption); omega)])) | ((rw [wrap_nat har n (by have h9 : n < N := (by assumption); omega)])) | ((have e : n = N := Nat.le_antisymm hn (by assumption); rw [e]; exact RowLe.rfl' _)) | ((exact hvN N (by omega))) | ((exact hvN t (by omega))) | ((exact (w1 R).2.symm)) | ((exact (w1 R).2)) | ((rw [(w1 R).1]; exact RowLe.rfl' _)) | ((rw [v0 _ t (by assumption)]; exact RowLe.rfl' _)) | ((exact hA _ t m (by assumption) (by assumption))) | ((exact hB _ t m (by assumption) (by assumption) (by assumption))) | ((rw [wrap_nat har m (by have := dl2 t; have h9 : m < dl t := (by assumption); omega)])) | ((rw [(w2a R t ht (by assumption)).1]; exact RowLe.rfl' _)) | ((rw [(w2b R t ht (by assumption)).1]; exact RowLe.rfl' _)) | ((exact (w2a R t ht (by assumption)).2.symm)) | ((exact (w2b R t ht (by assumption)).2.symm)) | ((rw [(w3a R t m ht (by assumption) (by assumption) hm (by assumption)).1]; exact RowLe.rfl' _)) | ((exact (w3a R t m ht (by assumption) (by assumption) hm (by assumption)).2.1 (by assumption))) | ((exact ((w3a R t m ht (by assumption) (by assumption) hm (by assumption)).2.1 (by assumption)).symm)) | ((exact ((w3a R t m ht (by assumption) (by assumption) hm (by assumption)).2.2 (by assumption)).symm)) | ((rw [wrap_nat har r (by have h9 : r < N := (by assumption); omega)])) | ((rw [wrap_nat har j (by have h9 : j < N := (by assumption); omega)]))))))); (· rfl))
    | ((with_reducible apply go_call (f := 33) (hf := Tryz.call33)); (· (cbv; try rfl)); (· intro wc hbc hxc; exact alive16C wc))
    | ((with_reducible apply go_callq (f := 33) (hf := Tryz.call33)); (· (cbv; try rfl)); (· intro wc hbc hxc; exact alive16C wc))
    | ((with_reducible apply go_call (f := 34) (hf := Tryz.call34)); (· (cbv; try rfl)); (· intro wc hbc hxc; exact h1 wc hbc))
    | ((with_reducible apply go_callq (f := 34) (hf := Tryz.call34)); (· (cbv; try rfl)); (· intro wc hbc hxc; exact h1 wc hbc))
    | ((with_reducible apply go_callR (f := 35) (hf := Tryz.call35)); (· intro S; cbv; try rfl); (· intro wc S hbc hxc hrc; exact h4 wc hbc); (· rfl))
    | ((with_reducible apply go_call (f := 24) (hf := Tryz.call24)); (· (cbv; try rfl)); (· intro wc hbc hxc; exact h7 wc hbc))
    | ((with_reducible apply go_callq (f := 24) (hf := Tryz.call24)); (· (cbv; try rfl)); (· intro wc hbc hxc; exact h7 wc hbc))
    | ((with_reducible apply go_call (f := 38) (hf := Tryz.call38)); (· (cbv; try rfl)); (· intro wc hbc hxc; exact h6 wc hbc n (by assumption)))
    | ((with_reducible apply go_callq (f := 38) (hf := Tryz.call38)); (· (cbv; try rfl)); (· intro wc hbc hxc; exact h6 wc hbc n (by assumption)))
    | ((with_reducible apply go_call (f := 28) (hf := Tryz.call28)); (· (cbv; try rfl)); (· intro wc hbc hxc; exact h11 wc hbc n (by assumption)))
    | ((with_reducible apply go_callq (f := 28) (hf := Tryz.call28)); (· (cbv; try rfl)); (· intro wc hbc hxc; exact h11 wc hbc n (by assumption)))
    | ((with_reducible apply go_callR (f := 27) (hf := Tryz.call27)); (· intro S; cbv; try rfl); (· intro wc S hbc hxc hrc; exact h8 wc hbc n (by assumption)); (· rfl))
    | ((with_reducible apply go_call (f := 29) (hf := Tryz.call29)); (· (cbv; try rfl)); (· intro wc hbc hxc; exact h10 wc hbc n k (by assumption) (by assumption)))
    | ((with_reducible apply go_callq (f := 29) (hf := Tryz.call29)); (· (cbv; try rfl)); (· intro wc hbc hxc; exact h10 wc hbc n k (by assumption) (by assumption)))
    | ((with_reducible refine go_loopk (σ := {n : Nat // n ≤ N}) [10, 11, 12, 13, 14, 15, 16, 17, 18, 62, 63, 64, 65, 66, 67, 68, 69, 70, 71, 72, 73, 74, 75, 76, 77, 78, 79, 80, 81, 82, 83, 84, 85, 86, 87, 88, 89, 90, 91, 92, 93, 94, 95, 96, 97, 98, 99, 100, 101, 102, 103, 104, 105, 106, 107, 108, 109, 110, 111, 112, 113, 114, 115, 116, 117, 118, 119, 120, 121, 122, 123, 124, 125, 126, 127, 128, 129, 130, 131, 132, 133, 134, 135, 136, 137, 138, 139, 140, 141, 142, 143, 144, 145] (fun x => [(9, .pt (.one (.int .i64 (.ofNat x.1))))]) (fun x => []) (fun x => [(1, ⟨N, 1, fun j => [.bool (R1 x.1 j)]⟩)]) (fun x => N - x.1) ⟨0, Nat.zero_le _⟩ ?_ ?_ ?_ ?_); (· (refine le_mk ?_ ?_ ?_ ?_ <;> (cbv; (try simp only [true_and, and_true]); (try ((repeat' apply And.intro) <;> (first | trivial | rfl | exact RowLe.rfl' _ | (rw [wrap_nat har _ (by omega)]) | ((exact e0)) | ((rw [q0 n]; rfl)) | ((exact q1 n k (by assumption) (by assumption))) | ((exact e1 n _ (bu n).1)) | ((rw [wrap_nat har k (by have := nl2 n; have h9 : k < nl n := (by assumption); omega)])) | ((rw [wrap_nat har n (by have h9 : n < N := (by assumption); omega)])) | ((have e : n = N := Nat.le_antisymm hn (by assumption); rw [e]; exact RowLe.rfl' _)) | ((exact hvN N (by omega))) | ((exact hvN t (by omega))) | ((exact (w1 R).2.symm)) | ((exact (w1 R).2)) | ((rw [(w1 R).1]; exact RowLe.rfl' _)) | ((rw [v0 _ t (by assumption)]; exact RowLe.rfl' _)) | ((exact hA _ t m (by assumption) (by assumption))) | ((exact hB _ t m (by assumption) (by assumption) (by assumption))) | ((rw [wrap_nat har m (by have := dl2 t; have h9 : m < dl t := (by assumption); omega)])) | ((rw [(w2a R t ht (by assumption)).1]; exact RowLe.rfl' _)) | ((rw [(w2b R t ht (by assumption)).1]; exact RowLe.rfl' _)) | ((exact (w2a R t ht (by assumption)).2.symm)) | ((exact (w2b R t ht (by assumption)).2.symm)) | ((rw [(w3a R t m ht (by assumption) (by assumption) hm (by assumption)).1]; exact RowLe.rfl' _)) | ((exact (w3a R t m ht (by assumption) (by assumption) hm (by assumption)).2.1 (by assumption))) | ((exact ((w3a R t m ht (by assumption) (by assumption) hm (by assumption)).2.1 (by assumption)).symm)) | ((exact ((w3a R t m ht (by assumption) (by assumption) hm (by assumption)).2.2 (by assumption)).symm)) | ((rw [wrap_nat har r (by have h9 : r < N := (by assumption); omega)])) | ((rw [wrap_nat har j (by have h9 : j < N := (by assumption); omega)])))))))); (· (cbv; try rfl)); (· simp); (rintro ⟨n, hn⟩ mm hmm))
    | ((with_reducible refine go_loopk (σ := {k : Nat // k ≤ nl n}) [17, 18, 89, 90, 91, 92, 93, 94, 95, 96, 97, 98, 99, 100, 101, 102, 103, 104, 105, 106, 107, 108, 109, 110, 111, 112, 113, 114, 115, 116, 117, 118, 119, 120, 121] (fun x => [(16, .pt (.one (.int .i64 (.ofNat x.1)))), (15, .pt (.one (.int .u32 (.ofNat (wm n x.1)))))]) (fun x => []) (fun x => []) (fun x => nl n - x.1) ⟨0, Nat.zero_le _⟩ ?_ ?_ ?_ ?_); (· (refine le_mk ?_ ?_ ?_ ?_ <;> (cbv; (try simp only [true_and, and_true]); (try ((repeat' apply And.intro) <;> (first | trivial | rfl | exact RowLe.rfl' _ | (rw [wrap_nat har _ (by omega)]) | ((exact e0)) | ((rw [q0 n]; rfl)) | ((exact q1 n k (by assumption) (by assumption))) | ((exact e1 n _ (bu n).1)) | ((rw [wrap_nat har k (by have := nl2 n; have h9 : k < nl n := (by assumption); omega)])) | ((rw [wrap_nat har n (by have h9 : n < N := (by assumption); omega)])) | ((have e : n = N := Nat.le_antisymm hn (by assumption); rw [e]; exact RowLe.rfl' _)) | ((exact hvN N (by omega))) | ((exact hvN t (by omega))) | ((exact (w1 R).2.symm)) | ((exact (w1 R).2)) | ((rw [(w1 R).1]; exact RowLe.rfl' _)) | ((rw [v0 _ t (by assumption)]; exact RowLe.rfl' _)) | ((exact hA _ t m (by assumption) (by assumption))) | ((exact hB _ t m (by assumption) (by assumption) (by assumption))) | ((rw [wrap_nat har m (by have := dl2 t; have h9 : m < dl t := (by assumption); omega)])) | ((rw [(w2a R t ht (by assumption)).1]; exact RowLe.rfl' _)) | ((rw [(w2b R t ht (by assumption)).1]; exact RowLe.rfl' _)) | ((exact (w2a R t ht (by assumption)).2.symm)) | ((exact (w2b R t ht (by assumption)).2.symm)) | ((rw [(w3a R t m ht (by assumption) (by assumption) hm (by assumption)).1]; exact RowLe.rfl' _)) | ((exact (w3a R t m ht (by assumption) (by assumption) hm (by assumption)).2.1 (by assumption))) | ((exact ((w3a R t m ht (by assumption) (by assumption) hm (by assumption)).2.1 (by assumption)).symm)) | ((exact ((w3a R t m ht (by assumption) (by assumption) hm (by assumption)).2.2 (by assumption)).symm)) | ((rw [wrap_nat har r (by have h9 : r < N := (by assumption); omega)])) | ((rw [wrap_nat har j (by have h9 : j < N := (by assumption); omega)])))))))); (· (cbv; try rfl)); (· simp); (rintro ⟨k, hk⟩ mm hmm))
    | (((with_reducible apply go_need); (· exact n3); (· exact hnn _ n3)))
    | (((with_reducible apply go_need); (· exact n2 (by assumption) (by assumption)); (· exact hnn _ (n2 (by assumption) (by assumption)))))
    | (((with_reducible apply go_need); (· exact Int.natCast_nonneg _); (· first | exact Int.ofNat_lt.2 (by assumption) | exact Int.ofNat_lt.2 (nmL _ _ (by assumption) (by assumption)))))
    | ((with_reducible refine go_stop (⟨k + 1, Nat.succ_le_of_lt (by assumption)⟩ : {k : Nat // k ≤ nl n}) ?_ ?_ ?_ ?_); (· exact Nat.lt_of_lt_of_eq (show nl n - (k + 1) < nl n - k from by omega) (Eq.symm (by assumption))); (· (refine le_mk ?_ ?_ ?_ ?_ <;> (cbv; (try simp only [true_and, and_true]); (try ((repeat' apply And.intro) <;> (first | trivial | rfl | exact RowLe.rfl' _ | (rw [wrap_nat har _ (by omega)]) | ((exact e0)) | ((rw [q0 n]; rfl)) | ((exact q1 n k (by assumption) (by assumption))) | ((exact e1 n _ (bu n).1)) | ((rw [wrap_nat har k (by have := nl2 n; have h9 : k < nl n := (by assumption); omega)])) | ((rw [wrap_nat har n (by have h9 : n < N := (by assumption); omega)])) | ((have e : n = N := Nat.le_antisymm hn (by assumption); rw [e]; exact RowLe.rfl' _)) | ((exact hvN N (by omega))) | ((exact hvN t (by omega))) | ((exact (w1 R).2.symm)) | ((exact (w1 R).2)) | ((rw [(w1 R).1]; exact RowLe.rfl' _)) | ((rw [v0 _ t (by assumption)]; exact RowLe.rfl' _)) | ((exact hA _ t m (by assumption) (by assumption))) | ((exact hB _ t m (by assumption) (by assumption) (by assumption))) | ((rw [wrap_nat har m (by have := dl2 t; have h9 : m < dl t := (by assumption); omega)])) | ((rw [(w2a R t ht (by assumption)).1]; exact RowLe.rfl' _)) | ((rw [(w2b R t ht (by assumption)).1]; exact RowLe.rfl' _)) | ((exact (w2a R t ht (by assumption)).2.symm)) | ((exact (w2b R t ht (by assumption)).2.symm)) | ((rw [(w3a R t m ht (by assumption) (by assumption) hm (by assumption)).1]; exact RowLe.rfl' _)) | ((exact (w3a R t m ht (by assumption) (by assumption) hm (by assumption)).2.1 (by assumption))) | ((exact ((w3a R t m ht (by assumption) (by assumption) hm (by assumption)).2.1 (by assumption)).symm)) | ((exact ((w3a R t m ht (by assumption) (by assumption) hm (by assumption)).2.2 (by assumption)).symm)) | ((rw [wrap_nat har r (by have h9 : r < N := (by assumption); omega)])) | ((rw [wrap_nat har j (by have h9 : j < N := (by assumption); omega)])))))))); (· (cbv; try rfl)); (· simp))
    | ((with_reducible refine go_stop (⟨n + 1, Nat.succ_le_of_lt (by assumption)⟩ : {n : Nat // n ≤ N}) ?_ ?_ ?_ ?_); (· exact Nat.lt_of_lt_of_eq (show N - (n + 1) < N - n from by omega) (Eq.symm (by assumption))); (· (refine le_mk ?_ ?_ ?_ ?_ <;> (cbv; (try simp only [true_and, and_true]); (try ((repeat' apply And.intro) <;> (first | trivial | rfl | exact RowLe.rfl' _ | (rw [wrap_nat har _ (by omega)]) | ((exact e0)) | ((rw [q0 n]; rfl)) | ((exact q1 n k (by assumption) (by assumption))) | ((exact e1 n _ (bu n).1)) | ((rw [wrap_nat har k (by have := nl2 n; have h9 : k < nl n := (by assumption); omega)])) | ((rw [wrap_nat har n (by have h9 : n < N := (by assumption); omega)])) | ((have e : n = N := Nat.le_antisymm hn (by assumption); rw [e]; exact RowLe.rfl' _)) | ((exact hvN N (by omega))) | ((exact hvN t (by omega))) | ((exact (w1 R).2.symm)) | ((exact (w1 R).2)) | ((rw [(w1 R).1]; exact RowLe.rfl' _)) | ((rw [v0 _ t (by assumption)]; exact RowLe.rfl' _)) | ((exact hA _ t m (by assumption) (by assumption))) | ((exact hB _ t m (by assumption) (by assumption) (by assumption))) | ((rw [wrap_nat har m (by have := dl2 t; have h9 : m < dl t := (by assumption); omega)])) | ((rw [(w2a R t ht (by assumption)).1]; exact RowLe.rfl' _)) | ((rw [(w2b R t ht (by assumption)).1]; exact RowLe.rfl' _)) | ((exact (w2a R t ht (by assumption)).2.symm)) | ((exact (w2b R t ht (by assumption)).2.symm)) | ((rw [(w3a R t m ht (by assumption) (by assumption) hm (by assumption)).1]; exact RowLe.rfl' _)) | ((exact (w3a R t m ht (by assumption) (by assumption) hm (by assumption)).2.1 (by assumption))) | ((exact ((w3a R t m ht (by assumption) (by assumption) hm (by assumption)).2.1 (by assumption)).symm)) | ((exact ((w3a R t m ht (by assumption) (by assumption) hm (by assumption)).2.2 (by assumption)).symm)) | ((rw [wrap_nat har r (by have h9 : r < N := (by assumption); omega)])) | ((rw [wrap_nat har j (by have h9 : j < N := (by assumption); omega)])))))))); (· (cbv; try rfl)); (· simp))
    | ((with_reducible refine go_loopk (σ := {x : Nat × (Nat → Bool) // x.1 ≤ N ∧ (∀ j, j < N → ub j = true → x.2 j = true) ∧ x.1 ≤ ct x.2}) [20, 21, 22, 23, 146, 147, 148, 149, 150, 151, 152, 153, 154, 155, 156, 157, 158, 159, 160, 161, 162, 163, 164, 165, 166, 167, 168, 169, 170, 171, 172, 173, 174, 175, 176, 177, 178, 179, 180, 181, 182, 183, 184, 185, 186, 187, 188, 189, 190, 191, 192, 193, 194, 195, 196, 197, 198, 199, 200, 201, 202, 203] (fun x => [(19, .pt (.one (.int .i64 (.ofNat x.1.1))))]) (fun x => []) (fun x => [(1, ⟨N, 1, fun j => [.bool (x.1.2 j)]⟩)]) (fun x => N - x.1.1) ⟨(0, R1 N), Nat.zero_le _, hR1N, Nat.zero_le _⟩ ?_ ?_ ?_ ?_); (· (refine le_mk ?_ ?_ ?_ ?_ <;> (cbv; (try simp only [true_and, and_true]); (try ((repeat' apply And.intro) <;> (first | trivial | rfl | exact RowLe.rfl' _ | (rw [wrap_nat har _ (by omega)]) | ((exact e0)) | ((rw [q0 n]; rfl)) | ((exact q1 n k (by assumption) (by assumption))) | ((exact e1 n _ (bu n).1)) | ((rw [wrap_nat har k (by have := nl2 n; have h9 : k < nl n := (by assumption); omega)])) | ((rw [wrap_nat har n (by have h9 : n < N := (by assumption); omega)])) | ((have e : n = N := Nat.le_antisymm hn (by assumption); rw [e]; exact RowLe.rfl' _)) | ((exact hvN N (by omega))) | ((exact hvN t (by omega))) | ((exact (w1 R).2.symm)) | ((exact (w1 R).2)) | ((rw [(w1 R).1]; exact RowLe.rfl' _)) | ((rw [v0 _ t (by assumption)]; exact RowLe.rfl' _)) | ((exact hA _ t m (by assumption) (by assumption))) | ((exact hB _ t m (by assumption) (by assumption) (by assumption))) | ((rw [wrap_nat har m (by have := dl2 t; have h9 : m < dl t := (by assumption); omega)])) | ((rw [(w2a R t ht (by assumption)).1]; exact RowLe.rfl' _)) | ((rw [(w2b R t ht (by assumption)).1]; exact RowLe.rfl' _)) | ((exact (w2a R t ht (by assumption)).2.symm)) | ((exact (w2b R t ht (by assumption)).2.symm)) | ((rw [(w3a R t m ht (by assumption) (by assumption) hm (by assumption)).1]; exact RowLe.rfl' _)) | ((exact (w3a R t m ht (by assumption) (by assumption) hm (by assumption)).2.1 (by assumption))) | ((exact ((w3a R t m ht (by assumption) (by assumption) hm (by assumption)).2.1 (by assumption)).symm)) | ((exact ((w3a R t m ht (by assumption) (by assumption) hm (by assumption)).2.2 (by assumption)).symm)) | ((rw [wrap_nat har r (by have h9 : r < N := (by assumption); omega)])) | ((rw [wrap_nat har j (by have h9 : j < N := (by assumption); omega)])))))))); (· (cbv; try rfl)); (· simp); (rintro ⟨⟨r, R⟩, hr, hRu, hRc⟩ mm hmm))
    | ((with_reducible refine go_loopk (σ := {t : Nat // t ≤ N}) [22, 23, 155, 156, 157, 158, 159, 160, 161, 162, 163, 164, 165, 166, 167, 168, 169, 170, 171, 172, 173, 174, 175, 176, 177, 178, 179, 180, 181, 182, 183, 184, 185, 186, 187, 188, 189, 190, 191, 192, 193, 194, 195, 196, 197, 198, 199, 200, 201] (fun x => [(21, .pt (.one (.int .i64 (vvD x.1)))), (20, .pt (.one (.bool (wM R x.1))))]) (fun x => []) (fun x => [(1, ⟨N, 1, fun j => [.bool (wB R x.1 j)]⟩)]) (fun x => x.1) ⟨N, Nat.le_refl _⟩ ?_ ?_ ?_ ?_); (· (refine le_mk ?_ ?_ ?_ ?_ <;> (cbv; (try simp only [true_and, and_true]); (try ((repeat' apply And.intro) <;> (first | trivial | rfl | exact RowLe.rfl' _ | (rw [wrap_nat har _ (by omega)]) | ((exact e0)) | ((rw [q0 n]; rfl)) | ((exact q1 n k (by assumption) (by assumption))) | ((exact e1 n _ (bu n).1)) | ((rw [wrap_nat har k (by have := nl2 n; have h9 : k < nl n := (by assumption); omega)])) | ((rw [wrap_nat har n (by have h9 : n < N := (by assumption); omega)])) | ((have e : n = N := Nat.le_antisymm hn (by assumption); rw [e]; exact RowLe.rfl' _)) | ((exact hvN N (by omega))) | ((exact hvN t (by omega))) | ((exact (w1 R).2.symm)) | ((exact (w1 R).2)) | ((rw [(w1 R).1]; exact RowLe.rfl' _)) | ((rw [v0 _ t (by assumption)]; exact RowLe.rfl' _)) | ((exact hA _ t m (by assumption) (by assumption))) | ((exact hB _ t m (by assumption) (by assumption) (by assumption))) | ((rw [wrap_nat har m (by have := dl2 t; have h9 : m < dl t := (by assumption); omega)])) | ((rw [(w2a R t ht (by assumption)).1]; exact RowLe.rfl' _)) | ((rw [(w2b R t ht (by assumption)).1]; exact RowLe.rfl' _)) | ((exact (w2a R t ht (by assumption)).2.symm)) | ((exact (w2b R t ht (by assumption)).2.symm)) | ((rw [(w3a R t m ht (by assumption) (by assumption) hm (by assumption)).1]; exact RowLe.rfl' _)) | ((exact (w3a R t m ht (by assumption) (by assumption) hm (by assumption)).2.1 (by assumption))) | ((exact ((w3a R t m ht (by assumption) (by assumption) hm (by assumption)).2.1 (by assumption)).symm)) | ((exact ((w3a R t m ht (by assumption) (by assumption) hm (by assumption)).2.2 (by assumption)).symm)) | ((rw [wrap_nat har r (by have h9 : r < N := (by assumption); omega)])) | ((rw [wrap_nat har j (by have h9 : j < N := (by assumption); omega)])))))))); (· (cbv; try rfl)); (· simp); (rintro ⟨_ | t, ht⟩ mm hmm))
    | ((with_reducible apply go_call (f := 43) (hf := Tryz.call43)); (· (cbv; try rfl)); (· intro wc hbc hxc; exact hst wc hbc t ht))
    | ((with_reducible apply go_callq (f := 43) (hf := Tryz.call43)); (· (cbv; try rfl)); (· intro wc hbc hxc; exact hst wc hbc t ht))
    | ((with_reducible apply go_callR (f := 32) (hf := Tryz.call32)); (· intro S; cbv; try rfl); (· intro wc S hbc hxc hrc; exact hnx wc hbc t ht); (· rfl))
    | (((with_reducible apply go_need); (· exact Int.natCast_nonneg _); (· first | exact Int.ofNat_lt.2 ht | exact Int.ofNat_lt.2 (dgN t m ht (by assumption)))))
    | ((with_reducible refine go_loopk (σ := {k : Nat // k ≤ dl t}) [173, 174, 175, 176, 177, 178, 179, 180, 181, 182, 183, 184, 185, 186, 187, 188, 189, 190, 191, 192, 193, 194] (fun x => [(23, .pt (.one (.int .i64 (.ofNat x.1))))]) (fun x => []) (fun x => [(1, ⟨N, 1, fun j => [.bool (iN (wB R (t + 1)) t x.1 j)]⟩)]) (fun x => dl t - x.1) ⟨0, Nat.zero_le _⟩ ?_ ?_ ?_ ?_); (· (refine le_mk ?_ ?_ ?_ ?_ <;> (cbv; (try simp only [true_and, and_true]); (try ((repeat' apply And.intro) <;> (first | trivial | rfl | exact RowLe.rfl' _ | (rw [wrap_nat har _ (by omega)]) | ((exact e0)) | ((rw [q0 n]; rfl)) | ((exact q1 n k (by assumption) (by assumption))) | ((exact e1 n _ (bu n).1)) | ((rw [wrap_nat har k (by have := nl2 n; have h9 : k < nl n := (by assumption); omega)])) | ((rw [wrap_nat har n (by have h9 : n < N := (by assumption); omega)])) | ((have e : n = N := Nat.le_antisymm hn (by assumption); rw [e]; exact RowLe.rfl' _)) | ((exact hvN N (by omega))) | ((exact hvN t (by omega))) | ((exact (w1 R).2.symm)) | ((exact (w1 R).2)) | ((rw [(w1 R).1]; exact RowLe.rfl' _)) | ((rw [v0 _ t (by assumption)]; exact RowLe.rfl' _)) | ((exact hA _ t m (by assumption) (by assumption))) | ((exact hB _ t m (by assumption) (by assumption) (by assumption))) | ((rw [wrap_nat har m (by have := dl2 t; have h9 : m < dl t := (by assumption); omega)])) | ((rw [(w2a R t ht (by assumption)).1]; exact RowLe.rfl' _)) | ((rw [(w2b R t ht (by assumption)).1]; exact RowLe.rfl' _)) | ((exact (w2a R t ht (by assumption)).2.symm)) | ((exact (w2b R t ht (by assumption)).2.symm)) | ((rw [(w3a R t m ht (by assumption) (by assumption) hm (by assumption)).1]; exact RowLe.rfl' _)) | ((exact (w3a R t m ht (by assumption) (by assumption) hm (by assumption)).2.1 (by assumption))) | ((exact ((w3a R t m ht (by assumption) (by assumption) hm (by assumption)).2.1 (by assumption)).symm)) | ((exact ((w3a R t m ht (by assumption) (by assumption) hm (by assumption)).2.2 (by assumption)).symm)) | ((rw [wrap_nat har r (by have h9 : r < N := (by assumption); omega)])) | ((rw [wrap_nat har j (by have h9 : j < N := (by assumption); omega)])))))))); (· (cbv; try rfl)); (· simp); (rintro ⟨m, hm⟩ mm hmm))
    | ((with_reducible refine go_stop (⟨m + 1, Nat.succ_le_of_lt (by assumption)⟩ : {k : Nat // k ≤ dl t}) ?_ ?_ ?_ ?_); (· exact Nat.lt_of_lt_of_eq (show dl t - (m + 1) < dl t - m from by omega) (Eq.symm (by assumption))); (· (refine le_mk ?_ ?_ ?_ ?_ <;> (cbv; (try simp only [true_and, and_true]); (try ((repeat' apply And.intro) <;> (first | trivial | rfl | exact RowLe.rfl' _ | (rw [wrap_nat har _ (by omega)]) | ((exact e0)) | ((rw [q0 n]; rfl)) | ((exact q1 n k (by assumption) (by assumption))) | ((exact e1 n _ (bu n).1)) | ((rw [wrap_nat har k (by have := nl2 n; have h9 : k < nl n := (by assumption); omega)])) | ((rw [wrap_nat har n (by have h9 : n < N := (by assumption); omega)])) | ((have e : n = N := Nat.le_antisymm hn (by assumption); rw [e]; exact RowLe.rfl' _)) | ((exact hvN N (by omega))) | ((exact hvN t (by omega))) | ((exact (w1 R).2.symm)) | ((exact (w1 R).2)) | ((rw [(w1 R).1]; exact RowLe.rfl' _)) | ((rw [v0 _ t (by assumption)]; exact RowLe.rfl' _)) | ((exact hA _ t m (by assumption) (by assumption))) | ((exact hB _ t m (by assumption) (by assumption) (by assumption))) | ((rw [wrap_nat har m (by have := dl2 t; have h9 : m < dl t := (by assumption); omega)])) | ((rw [(w2a R t ht (by assumption)).1]; exact RowLe.rfl' _)) | ((rw [(w2b R t ht (by assumption)).1]; exact RowLe.rfl' _)) | ((exact (w2a R t ht (by assumption)).2.symm)) | ((exact (w2b R t ht (by assumption)).2.symm)) | ((rw [(w3a R t m ht (by assumption) (by assumption) hm (by assumption)).1]; exact RowLe.rfl' _)) | ((exact (w3a R t m ht (by assumption) (by assumption) hm (by assumption)).2.1 (by assumption))) | ((exact ((w3a R t m ht (by assumption) (by assumption) hm (by assumption)).2.1 (by assumption)).symm)) | ((exact ((w3a R t m ht (by assumption) (by assumption) hm (by assumption)).2.2 (by assumption)).symm)) | ((rw [wrap_nat har r (by have h9 : r < N := (by assumption); omega)])) | ((rw [wrap_nat har j (by have h9 : j < N := (by assumption); omega)])))))))); (· (cbv; try rfl)); (· simp))
    | ((with_reducible refine go_stop (⟨t, Nat.le_of_succ_le ht⟩ : {t : Nat // t ≤ N}) ?_ ?_ ?_ ?_); (· exact Nat.lt_of_lt_of_eq (show t < t + 1 from by omega) (Eq.symm (by assumption))); (· (refine le_mk ?_ ?_ ?_ ?_ <;> (cbv; (try simp only [true_and, and_true]); (try ((repeat' apply And.intro) <;> (first | trivial | rfl | exact RowLe.rfl' _ | (rw [wrap_nat har _ (by omega)]) | ((exact e0)) | ((rw [q0 n]; rfl)) | ((exact q1 n k (by assumption) (by assumption))) | ((exact e1 n _ (bu n).1)) | ((rw [wrap_nat har k (by have := nl2 n; have h9 : k < nl n := (by assumption); omega)])) | ((rw [wrap_nat har n (by have h9 : n < N := (by assumption); omega)])) | ((have e : n = N := Nat.le_antisymm hn (by assumption); rw [e]; exact RowLe.rfl' _)) | ((exact hvN N (by omega))) | ((exact hvN t (by omega))) | ((exact (w1 R).2.symm)) | ((exact (w1 R).2)) | ((rw [(w1 R).1]; exact RowLe.rfl' _)) | ((rw [v0 _ t (by assumption)]; exact RowLe.rfl' _)) | ((exact hA _ t m (by assumption) (by assumption))) | ((exact hB _ t m (by assumption) (by assumption) (by assumption))) | ((rw [wrap_nat har m (by have := dl2 t; have h9 : m < dl t := (by assumption); omega)])) | ((rw [(w2a R t ht (by assumption)).1]; exact RowLe.rfl' _)) | ((rw [(w2b R t ht (by assumption)).1]; exact RowLe.rfl' _)) | ((exact (w2a R t ht (by assumption)).2.symm)) | ((exact (w2b R t ht (by assumption)).2.symm)) | ((rw [(w3a R t m ht (by assumption) (by assumption) hm (by assumption)).1]; exact RowLe.rfl' _)) | ((exact (w3a R t m ht (by assumption) (by assumption) hm (by assumption)).2.1 (by assumption))) | ((exact ((w3a R t m ht (by assumption) (by assumption) hm (by assumption)).2.1 (by assumption)).symm)) | ((exact ((w3a R t m ht (by assumption) (by assumption) hm (by assumption)).2.2 (by assumption)).symm)) | ((rw [wrap_nat har r (by have h9 : r < N := (by assumption); omega)])) | ((rw [wrap_nat har j (by have h9 : j < N := (by assumption); omega)])))))))); (· (cbv; try rfl)); (· simp))
    | ((exfalso; exact absurd ((c6 t).symm.trans (by assumption)) (by decide)))
    | ((with_reducible refine go_stop (⟨(r + 1, wB R 0), hst3 r R (by assumption) hRu hRc (by assumption)⟩ : {x : Nat × (Nat → Bool) // x.1 ≤ N ∧ (∀ j, j < N → ub j = true → x.2 j = true) ∧ x.1 ≤ ct x.2}) ?_ ?_ ?_ ?_); (· exact Nat.lt_of_lt_of_eq (show N - (r + 1) < N - r from by omega) (Eq.symm (by assumption))); (· (refine le_mk ?_ ?_ ?_ ?_ <;> (cbv; (try simp only [true_and, and_true]); (try ((repeat' apply And.intro) <;> (first | trivial | rfl | exact RowLe.rfl' _ | (rw [wrap_nat har _ (by omega)]) | ((exact e0)) | ((rw [q0 n]; rfl)) | ((exact q1 n k (by assumption) (by assumption))) | ((exact e1 n _ (bu n).1)) | ((rw [wrap_nat har k (by have := nl2 n; have h9 : k < nl n := (by assumption); omega)])) | ((rw [wrap_nat har n (by have h9 : n < N := (by assumption); omega)])) | ((have e : n = N := Nat.le_antisymm hn (by assumption); rw [e]; exact RowLe.rfl' _)) | ((exact hvN N (by omega))) | ((exact hvN t (by omega))) | ((exact (w1 R).2.symm)) | ((exact (w1 R).2)) | ((rw [(w1 R).1]; exact RowLe.rfl' _)) | ((rw [v0 _ t (by assumption)]; exact RowLe.rfl' _)) | ((exact hA _ t m (by assumption) (by assumption))) | ((exact hB _ t m (by assumption) (by assumption) (by assumption))) | ((rw [wrap_nat har m (by have := dl2 t; have h9 : m < dl t := (by assumption); omega)])) | ((rw [(w2a R t ht (by assumption)).1]; exact RowLe.rfl' _)) | ((rw [(w2b R t ht (by assumption)).1]; exact RowLe.rfl' _)) | ((exact (w2a R t ht (by assumption)).2.symm)) | ((exact (w2b R t ht (by assumption)).2.symm)) | ((rw [(w3a R t m ht (by assumption) (by assumption) hm (by assumption)).1]; exact RowLe.rfl' _)) | ((exact (w3a R t m ht (by assumption) (by assumption) hm (by assumption)).2.1 (by assumption))) | ((exact ((w3a R t m ht (by assumption) (by assumption) hm (by assumption)).2.1 (by assumption)).symm)) | ((exact ((w3a R t m ht (by assumption) (by assumption) hm (by assumption)).2.2 (by assumption)).symm)) | ((rw [wrap_nat har r (by have h9 : r < N := (by assumption); omega)])) | ((rw [wrap_nat har j (by have h9 : j < N := (by assumption); omega)])))))))); (· (cbv; try rfl)); (· simp))
    | ((with_reducible refine go_loopk (σ := {j : Nat // j ≤ N}) [204, 205, 206, 207, 208, 209, 210, 211, 212, 213, 214, 215, 216, 217, 218, 219, 220, 221, 222, 223, 224, 225] (fun x => [(24, .pt (.one (.int .i64 (.ofNat x.1))))]) (fun x => []) (fun x => []) (fun x => N - x.1) ⟨0, Nat.zero_le _⟩ ?_ ?_ ?_ ?_); (· (refine le_mk ?_ ?_ ?_ ?_ <;> (cbv; (try simp only [true_and, and_true]); (try ((repeat' apply And.intro) <;> (first | trivial | rfl | exact RowLe.rfl' _ | (rw [wrap_nat har _ (by omega)]) | ((exact e0)) | ((rw [q0 n]; rfl)) | ((exact q1 n k (by assumption) (by assumption))) | ((exact e1 n _ (bu n).1)) | ((rw [wrap_nat har k (by have := nl2 n; have h9 : k < nl n := (by assumption); omega)])) | ((rw [wrap_nat har n (by have h9 : n < N := (by assumption); omega)])) | ((have e : n = N := Nat.le_antisymm hn (by assumption); rw [e]; exact RowLe.rfl' _)) | ((exact hvN N (by omega))) | ((exact hvN t (by omega))) | ((exact (w1 R).2.symm)) | ((exact (w1 R).2)) | ((rw [(w1 R).1]; exact RowLe.rfl' _)) | ((rw [v0 _ t (by assumption)]; exact RowLe.rfl' _)) | ((exact hA _ t m (by assumption) (by assumption))) | ((exact hB _ t m (by assumption) (by assumption) (by assumption))) | ((rw [wrap_nat har m (by have := dl2 t; have h9 : m < dl t := (by assumption); omega)])) | ((rw [(w2a R t ht (by assumption)).1]; exact RowLe.rfl' _)) | ((rw [(w2b R t ht (by assumption)).1]; exact RowLe.rfl' _)) | ((exact (w2a R t ht (by assumption)).2.symm)) | ((exact (w2b R t ht (by assumption)).2.symm)) | ((rw [(w3a R t m ht (by assumption) (by assumption) hm (by assumption)).1]; exact RowLe.rfl' _)) | ((exact (w3a R t m ht (by assumption) (by assumption) hm (by assumption)).2.1 (by assumption))) | ((exact ((w3a R t m ht (by assumption) (by assumption) hm (by assumption)).2.1 (by assumption)).symm)) | ((exact ((w3a R t m ht (by assumption) (by assumption) hm (by assumption)).2.2 (by assumption)).symm)) | ((rw [wrap_nat har r (by have h9 : r < N := (by assumption); omega)])) | ((rw [wrap_nat har j (by have h9 : j < N := (by assumption); omega)])))))))); (· (cbv; try rfl)); (· simp); (rintro ⟨j, hj⟩ mm hmm))
    | ((with_reducible refine go_stop (⟨j + 1, Nat.succ_le_of_lt (by assumption)⟩ : {j : Nat // j ≤ N}) ?_ ?_ ?_ ?_); (· exact Nat.lt_of_lt_of_eq (show N - (j + 1) < N - j from by omega) (Eq.symm (by assumption))); (· (refine le_mk ?_ ?_ ?_ ?_ <;> (cbv; (try simp only [true_and, and_true]); (try ((repeat' apply And.intro) <;> (first | trivial | rfl | exact RowLe.rfl' _ | (rw [wrap_nat har _ (by omega)]) | ((exact e0)) | ((rw [q0 n]; rfl)) | ((exact q1 n k (by assumption) (by assumption))) | ((exact e1 n _ (bu n).1)) | ((rw [wrap_nat har k (by have := nl2 n; have h9 : k < nl n := (by assumption); omega)])) | ((rw [wrap_nat har n (by have h9 : n < N := (by assumption); omega)])) | ((have e : n = N := Nat.le_antisymm hn (by assumption); rw [e]; exact RowLe.rfl' _)) | ((exact hvN N (by omega))) | ((exact hvN t (by omega))) | ((exact (w1 R).2.symm)) | ((exact (w1 R).2)) | ((rw [(w1 R).1]; exact RowLe.rfl' _)) | ((rw [v0 _ t (by assumption)]; exact RowLe.rfl' _)) | ((exact hA _ t m (by assumption) (by assumption))) | ((exact hB _ t m (by assumption) (by assumption) (by assumption))) | ((rw [wrap_nat har m (by have := dl2 t; have h9 : m < dl t := (by assumption); omega)])) | ((rw [(w2a R t ht (by assumption)).1]; exact RowLe.rfl' _)) | ((rw [(w2b R t ht (by assumption)).1]; exact RowLe.rfl' _)) | ((exact (w2a R t ht (by assumption)).2.symm)) | ((exact (w2b R t ht (by assumption)).2.symm)) | ((rw [(w3a R t m ht (by assumption) (by assumption) hm (by assumption)).1]; exact RowLe.rfl' _)) | ((exact (w3a R t m ht (by assumption) (by assumption) hm (by assumption)).2.1 (by assumption))) | ((exact ((w3a R t m ht (by assumption) (by assumption) hm (by assumption)).2.1 (by assumption)).symm)) | ((exact ((w3a R t m ht (by assumption) (by assumption) hm (by assumption)).2.2 (by assumption)).symm)) | ((rw [wrap_nat har r (by have h9 : r < N := (by assumption); omega)])) | ((rw [wrap_nat har j (by have h9 : j < N := (by assumption); omega)])))))))); (· (cbv; try rfl)); (· simp))
    | (fail)
    )
  all_goals
    first
      | rfl
      | exact absurd ((c6 t).symm.trans (by assumption)) (by decide)
      | exact absurd ((hg0 _).symm.trans (by assumption)) (by decide)
      | exact absurd ((hgN (x := n) (k := k) (by assumption) (by assumption)).symm.trans (by assumption)) (by decide)
      | (have e : k = nl n := Nat.le_antisymm hk (by assumption); subst e; exact absurd ((q2 n (by assumption)).1 (hsg (by assumption))).symm (of_decide_eq_false (by assumption)))
      | (have e : k = nl n := Nat.le_antisymm hk (by assumption); subst e; exact absurd ((q2 n (by assumption)).2 (hsg2 (by assumption))).symm (of_decide_eq_false (by assumption)))
      | exact absurd ((ra R (Nat.le_trans (by assumption) hRc) j (by assumption)).symm.trans (by assumption)) (by decide)
      | exact absurd ((rf R hRu (by assumption) j ((bu j).2.symm.trans (by assumption))).symm.trans (by assumption)) (by decide)
      | (refine go_stop (⟨(r + 1, wB R 0), hst3 r R (by assumption) hRu hRc (by assumption)⟩ : {x : Nat × (Nat → Bool) // x.1 ≤ N ∧ (∀ j, j < N → ub j = true → x.2 j = true) ∧ x.1 ≤ ct x.2}) ?_ ?_ ?_ ?_
         · exact Nat.lt_of_lt_of_eq (show N - (r + 1) < N - r from by omega) (Eq.symm (by assumption))
         · (refine le_mk ?_ ?_ ?_ ?_ <;> (cbv; (try simp only [true_and, and_true]); (try ((repeat' apply And.intro) <;> (first | trivial | rfl | exact RowLe.rfl' _ | (rw [wrap_nat har r (by omega)]))))))
         · (cbv; try rfl)
         · simp)
      | trace_state

end Go.Proofs.YtbljhhkjjlgnmaaGreat
