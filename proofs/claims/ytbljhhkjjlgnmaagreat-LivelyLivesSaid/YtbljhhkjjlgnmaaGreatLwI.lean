/- Layer 16 of the reference: which locals a point uses. No condition. -/
import Derived.Test.YtbljhhkjjlgnmaaGreatLwH
namespace Go.Proofs.YtbljhhkjjlgnmaaGreat
open Go.RowKit
set_option linter.unusedVariables false
set_option linter.unusedSimpArgs false

theorem us_at {F : GFun} {n : Nat} : (fun l => usC F (pbN F n) (piN F n) l) = if isAt F n = true then usS (stAt F n) else fun l => decide (l < 16) && jmS F (pbN F n) l := by
  unfold usC isAt stAt
  by_cases h : piN F n < F.sn (pbN F n)
  · simp only [if_pos h, decide_eq_true h, if_true]
  · simp only [if_neg h, decide_eq_false h, Bool.false_eq_true, if_false]

set_option maxRecDepth 100000 in
set_option maxHeartbeats 8000000 in
theorem rUsed16C (F : GFun) (w : World) (hF : F.At w) (hO : F.Ok) (n : Nat) (hn : n < stN F.sn F.bn) :
    Calls Tryz.prog 73 #[F.val, .int .i64 (.ofNat n)] w (Ret w (arrV (fun l => uB F (pbN F n) (piN F n) l))) := by
  have hS0 (wc : World) (hk : KB ⟨w, []⟩ wc) := stmtN F wc (hF.later hk) hO.small n hn
  have h1 (wc : World) (hk : KB ⟨w, []⟩ wc) := rJumpC F wc (hF.later hk) hO.small n hn
  have h2 (wc : World) (hk : KB ⟨w, []⟩ wc) := rUsed06C F (pbN F n) wc (hF.later hk) (hO.okJ (num_pt hn).1)
  have h3 (hi : isAt F n = true) (wc : World) := rUsed05C (stAt F n) (by
    have hi := of_decide_eq_true hi
    unfold stAt; rw [if_pos hi]; exact hO.okS (num_pt hn).1 hi) wc
  obtain ⟨U, hU⟩ : ∃ U, U = fun l => uB F (pbN F n) (piN F n) l := ⟨_, rfl⟩
  rw [← hU]
  have hU2 : U = if isAt F n = true then usS (stAt F n) else fun l => decide (l < 16) && jmS F (pbN F n) l := by
    rw [hU, ← us_at]; funext l; exact uB_is _ _ _ _
  clear hU
  obtain ⟨J, hJ⟩ : ∃ J, J = jmS F (pbN F n) := ⟨_, rfl⟩
  rw [← hJ] at h2 hU2
  obtain ⟨s, hs'⟩ : ∃ s, s = stAt F n := ⟨_, rfl⟩
  rw [← hs'] at hS0 hU2 h3
  obtain ⟨ia, hi'⟩ : ∃ s, s = isAt F n := ⟨_, rfl⟩
  rw [← hi'] at hS0 hU2 h3
  obtain ⟨T, hT0⟩ : ∃ T, T = usS s := ⟨_, rfl⟩
  rw [← hT0] at h3 hU2
  have hS (wc : World) (hk : KB ⟨w, []⟩ wc) : Calls Tryz.prog 74 #[F.val, .int .i64 (.ofNat n)] wc (Ret wc (.tuple #[s.val, .bool ia])) := hS0 wc hk
  obtain ⟨pb, hb'⟩ : ∃ b, b = pbN F n := ⟨_, rfl⟩
  rw [← hb'] at h1 h2
  clear hb' hS0 hs' hi' hn hO hJ hT0
  obtain ⟨yk, ⟨ql, qd, qf⟩, ⟨rk, ro, rb, ⟨ak, an, ⟨al, ad, af⟩⟩, ⟨ek, en, ⟨el, ed, ef⟩⟩, ⟨gl, gd, gf⟩⟩, ⟨ck, cn, ⟨cl, cd, cf⟩⟩, yl⟩ := s
  cases ia
  · have e : arrV U = arrV J := arrV_ext fun l hl => by rw [hU2]; simp [hl]
    rw [e]
    clear h3 hU2 e
    obtain ⟨pa, un, lA, ln, lc, lk, lt, bA, bn, bc, sA, sn, sc, s, jA, jn, jc, ja, jk, jo, jf, jx, je, jd⟩ := F
    obtain ⟨hX, hl, hb, hs, hj⟩ := hF
    simp only at hl hb hs hj
    refine go_start (args := [.pt (.agg (GFun.dat ⟨pa, un, lA, ln, lc, lk, lt, bA, bn, bc, sA, sn, sc, s, jA, jn, jc, ja, jk, jo, jf, jx, je, jd⟩)), .pt (.one (.int .i64 (.ofNat n)))]) (c := (funX ⟨pa, un, lA, ln, lc, lk, lt, bA, bn, bc, sA, sn, sc, s, jA, jn, jc, ja, jk, jo, jf, jx, je, jd⟩)) Tryz.func73 rfl hX rfl rfl ?_
    obtain ⟨nd, hnd, nt, hnt, ar, har, cm, hcm, mx, hmx, mn, hmn, ar01, ar12, zpl, hzpl, zjn, hzjn, zup, hzup, zmi, hzmi, zdp, hzdp, hT⟩ := t0_all
    repeat' (first
      | refine go1 ?_ | refine gobt ?_ | refine gobn ?_ | refine go3 (fun hlt => ?_) (fun hge => ?_) | refine go2 (fun h => ?_) (fun h => ?_) | exact go0 | refine god ?_ | refine gof ?_ | refine gob ?_ | (with_reducible refine fork_cons ?_ ?_)
      | ((with_reducible apply go_call (f := 74) (hf := Tryz.call74)); (· (cbv; try rfl)); (· intro wc hbc hxc; exact hS wc hbc))
      | ((with_reducible apply go_callq (f := 74) (hf := Tryz.call74)); (· (cbv; try rfl)); (· intro wc hbc hxc; exact hS wc hbc))
      | ((with_reducible apply go_call (f := 77) (hf := Tryz.call77)); (· (cbv; try rfl)); (· intro wc hbc hxc; exact h1 wc hbc))
      | ((with_reducible apply go_callq (f := 77) (hf := Tryz.call77)); (· (cbv; try rfl)); (· intro wc hbc hxc; exact h1 wc hbc))
      | ((with_reducible apply go_call (f := 104) (hf := Tryz.call104)); (· (cbv; try rfl)); (· intro wc hbc hxc; exact h2 wc hbc))
      | ((with_reducible apply go_callq (f := 104) (hf := Tryz.call104)); (· (cbv; try rfl)); (· intro wc hbc hxc; exact h2 wc hbc))
      | fail)
    all_goals rfl
  · have h3 := h3 rfl
    have e : U = T := by rw [hU2]; simp
    rw [e]
    clear hU2 e
    obtain ⟨pa, un, lA, ln, lc, lk, lt, bA, bn, bc, sA, sn, sc, s, jA, jn, jc, ja, jk, jo, jf, jx, je, jd⟩ := F
    obtain ⟨hX, hl, hb, hs, hj⟩ := hF
    simp only at hl hb hs hj
    refine go_start (args := [.pt (.agg (GFun.dat ⟨pa, un, lA, ln, lc, lk, lt, bA, bn, bc, sA, sn, sc, s, jA, jn, jc, ja, jk, jo, jf, jx, je, jd⟩)), .pt (.one (.int .i64 (.ofNat n)))]) (c := (funX ⟨pa, un, lA, ln, lc, lk, lt, bA, bn, bc, sA, sn, sc, s, jA, jn, jc, ja, jk, jo, jf, jx, je, jd⟩)) Tryz.func73 rfl hX rfl rfl ?_
    obtain ⟨nd, hnd, nt, hnt, ar, har, cm, hcm, mx, hmx, mn, hmn, ar01, ar12, zpl, hzpl, zjn, hzjn, zup, hzup, zmi, hzmi, zdp, hzdp, hT⟩ := t0_all
    repeat' (first
      | refine go1 ?_ | refine gobt ?_ | refine gobn ?_ | refine go3 (fun hlt => ?_) (fun hge => ?_) | refine go2 (fun h => ?_) (fun h => ?_) | exact go0 | refine god ?_ | refine gof ?_ | refine gob ?_ | (with_reducible refine fork_cons ?_ ?_)
      | ((with_reducible apply go_call (f := 74) (hf := Tryz.call74)); (· (cbv; try rfl)); (· intro wc hbc hxc; exact hS wc hbc))
      | ((with_reducible apply go_callq (f := 74) (hf := Tryz.call74)); (· (cbv; try rfl)); (· intro wc hbc hxc; exact hS wc hbc))
      | ((with_reducible apply go_call (f := 103) (hf := Tryz.call103)); (· (cbv; try rfl)); (· intro wc hbc hxc; exact h3 wc))
      | ((with_reducible apply go_callq (f := 103) (hf := Tryz.call103)); (· (cbv; try rfl)); (· intro wc hbc hxc; exact h3 wc))
      | fail)
    all_goals rfl

end Go.Proofs.YtbljhhkjjlgnmaaGreat
