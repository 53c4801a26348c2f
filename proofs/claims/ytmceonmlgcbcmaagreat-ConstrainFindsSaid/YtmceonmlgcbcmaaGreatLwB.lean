/- Layer 16 of the reference: what a point sets. No condition. -/
import Derived.Test.YtmceonmlgcbcmaaGreatLvP
namespace Go.Proofs.YtmceonmlgcbcmaaGreat
open Go.RowKit
set_option linter.unusedVariables false
set_option linter.unusedSimpArgs false

theorem li_us {F : GFun} (hO : F.Ok) {a l : Nat} (ha : a < stN F.sn F.bn) : (liveG F).liB l a = (((succN F a).any fun q => (liveG F).liB l q) && !decide (Int.ofNat l = smN F a) || uB F (pbN F a) (piN F a) l) :=
  LiveG.li_eq (G := liveG F) (fun n hn q hq => succN_lt hO hn q hq) ha
theorem sI_at {F : GFun} {n : Nat} : smN F n = if isAt F n = true then stS (stAt F n) else if F.jk (pbN F n) = 4 ∧ wholeP (F.jd (pbN F n)) = true then (F.jd (pbN F n)).l else -1 := by
  unfold smN sI isAt stAt
  by_cases h : piN F n < F.sn (pbN F n)
  · rw [if_pos h, if_pos h, decide_eq_true h]; rfl
  · rw [if_neg h, if_neg h, decide_eq_false h]; rfl

set_option maxRecDepth 100000 in
set_option maxHeartbeats 8000000 in
theorem rSet16C (F : GFun) (w : World) (hF : F.At w) (hO : F.Ok) (n : Nat) (hn : n < stN F.sn F.bn) :
    Calls Tryz.prog 128 #[F.val, .int .i64 (.ofNat n)] w (Ret w (.int .i64 (smN F n))) := by
  have hS0 (wc : World) (hk : KB ⟨w, []⟩ wc) := stmtN F wc (hF.later hk) hO.small n hn
  have h1 (wc : World) (hk : KB ⟨w, []⟩ wc) := rJumpC F wc (hF.later hk) hO.small n hn
  rw [sI_at]
  obtain ⟨s, hs'⟩ : ∃ s, s = stAt F n := ⟨_, rfl⟩
  rw [← hs'] at hS0 ⊢
  obtain ⟨ia, hi'⟩ : ∃ s, s = isAt F n := ⟨_, rfl⟩
  rw [← hi'] at hS0 ⊢
  have hS (wc : World) (hk : KB ⟨w, []⟩ wc) : Calls Tryz.prog 49 #[F.val, .int .i64 (.ofNat n)] wc (Ret wc (.tuple #[s.val, .bool ia])) := hS0 wc hk
  obtain ⟨pb, hb'⟩ : ∃ b, b = pbN F n := ⟨_, rfl⟩
  rw [← hb'] at h1 ⊢
  clear hb' hS0 hs' hi' hn hO
  obtain ⟨y, hy⟩ : ∃ y : Int, y = if ia = true then stS s else if F.jk pb = 4 ∧ wholeP (F.jd pb) = true then (F.jd pb).l else -1 := ⟨_, rfl⟩
  rw [← hy]
  unfold stS at hy
  obtain ⟨yk, ⟨ql, qd, qf⟩, ⟨rk, ro, rb, ⟨ak, an, ⟨al, ad, af⟩⟩, ⟨ek, en, ⟨el, ed, ef⟩⟩, ⟨gl, gd, gf⟩⟩, ⟨ck, cn, ⟨cl, cd, cf⟩⟩, yl⟩ := s
  simp only at hy
  cases ia
  all_goals
    obtain ⟨pa, un, lA, ln, lc, lk, lt, bA, bn, bc, sA, sn, sc, s, jA, jn, jc, ja, jk, jo, jf, jx, je, jd⟩ := F
    obtain ⟨hX, hl, hb, hs, hj⟩ := hF
    simp only at hl hb hs hj
    simp only at hy
    refine go_start (args := [.pt (.agg (GFun.dat ⟨pa, un, lA, ln, lc, lk, lt, bA, bn, bc, sA, sn, sc, s, jA, jn, jc, ja, jk, jo, jf, jx, je, jd⟩)), .pt (.one (.int .i64 (.ofNat n)))]) (c := (funX ⟨pa, un, lA, ln, lc, lk, lt, bA, bn, bc, sA, sn, sc, s, jA, jn, jc, ja, jk, jo, jf, jx, je, jd⟩)) Tryz.func128 rfl hX rfl rfl ?_
    obtain ⟨nd, hnd, nt, hnt, ar, har, cm, hcm, mx, hmx, mn, hmn, ar01, ar12, zpl, hzpl, zjn, hzjn, zup, hzup, zmi, hzmi, zdp, hzdp, hT⟩ := t0_all
    repeat' (first
      | refine go1 ?_ | refine gobt ?_ | refine gobn ?_ | refine go3 (fun hlt => ?_) (fun hge => ?_) | refine go2 (fun h => ?_) (fun h => ?_) | exact go0 | refine god ?_ | refine gof ?_ | refine gob ?_ | (with_reducible refine fork_cons ?_ ?_)
      | ((with_reducible apply go_call (f := 49) (hf := Tryz.call49)); (· (cbv; try rfl)); (· intro wc hbc hxc; exact hS wc hbc))
      | ((with_reducible apply go_callq (f := 49) (hf := Tryz.call49)); (· (cbv; try rfl)); (· intro wc hbc hxc; exact hS wc hbc))
      | ((with_reducible apply go_call (f := 163) (hf := Tryz.call163)); (· (cbv; try rfl)); (· intro wc hbc hxc; exact h1 wc hbc))
      | ((with_reducible apply go_callq (f := 163) (hf := Tryz.call163)); (· (cbv; try rfl)); (· intro wc hbc hxc; exact h1 wc hbc))
      | ((with_reducible apply go_inline (f := 164) (hf := Tryz.func164) (hr := Tryz.results164) (hcall := Tryz.call164)); (· rfl); (· (cbv; try rfl)))
      | ((with_reducible apply go_inline (f := 165) (hf := Tryz.func165) (hr := Tryz.results165) (hcall := Tryz.call165)); (· rfl); (· (cbv; try rfl)))
      | ((with_reducible apply go_inline (f := 185) (hf := Tryz.func185) (hr := Tryz.results185) (hcall := Tryz.call185)); (· rfl); (· (cbv; try rfl)))
      | fail)
  all_goals
    rw [hy]
    clear hy hT hX hS h1
    refine congrArg (Value.int .i64) ?_
    simp_all [wholeP]
  all_goals trace_state

end Go.Proofs.YtmceonmlgcbcmaaGreat
