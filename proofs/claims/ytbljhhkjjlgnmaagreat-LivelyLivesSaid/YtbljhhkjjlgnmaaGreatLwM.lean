/- LivelyLives, the walk. No condition. -/
import Derived.Test.YtbljhhkjjlgnmaaGreatLwL
import Derived.Test.YtbljhhkjjlgnmaaGreatSmA
namespace Go.Proofs.YtbljhhkjjlgnmaaGreat
open Go.RowKit
set_option linter.unusedVariables false
set_option linter.unusedSimpArgs false

set_option maxRecDepth 100000 in
set_option maxHeartbeats 8000000 in
theorem lvlivesL (F : GFun) (w : World) (hF : F.At w) (hK : F.Ty8) (hD : F.Fd) (at_ : Int) :
    Calls Tryz.prog 8 #[F.val, .int .i64 at_] w (Ret w (.bool true)) := by
  have h1 (wc : World) (hk : KB ⟨w, []⟩ wc) := greatC F wc (hF.later hk)
  have h2 (wc : World) (hk : KB ⟨w, []⟩ wc) := gfC F wc (hF.later hk)
  generalize greatB F = q1 at h1
  generalize gfB F = q2 at h2
  by_cases hO : fchkV F = 0
  case neg =>
    have h3 (wc : World) (hk : KB ⟨w, []⟩ wc) := livesBad F wc (hF.later hk) hO
    have h4 (wc : World) (hk : KB ⟨w, []⟩ wc) := lusesBad F wc (hF.later hk) hO at_
    have h6 (wc : World) (hk : KB ⟨w, []⟩ wc) := rLive16Bad F wc (hF.later hk) hK (by rw [rchk_eq]; exact hO)
    have h7 (wc : World) (hk : KB ⟨w, []⟩ wc) := rUses16Bad F wc (hF.later hk) hK (by rw [rchk_eq]; exact hO) at_
    rw [rchk_eq] at h6 h7
    generalize fchkV F = z at h3 h4 h6 h7
    clear hK hO hD
    obtain ⟨pa, un, lA, ln, lc, lk, lt, bA, bn, bc, sA, sn, sc, s, jA, jn, jc, ja, jk, jo, jf, jx, je, jd⟩ := F
    obtain ⟨hX, hl, hb, hs, hj⟩ := hF
    simp only at hl hb hs hj
    refine go_start (args := [.pt (.agg (GFun.dat _)), .pt (.one (.int .i64 at_))]) (c := (funX _)) Tryz.func8 rfl hX rfl rfl ?_
    obtain ⟨nd, hnd, nt, hnt, ar, har, cm, hcm, mx, hmx, mn, hmn, ar01, ar12, zpl, hzpl, zjn, hzjn, zup, hzup, zmi, hzmi, zdp, hzdp, hT⟩ := t0_all
    repeat' (first
      | refine go1 ?_ | refine gobt ?_ | refine gobn ?_ | refine go3 (fun hlt => ?_) (fun hge => ?_) | refine go2 (fun h => ?_) (fun h => ?_) | exact go0 | refine god ?_ | refine gof ?_ | refine gob ?_ | (with_reducible refine fork_cons ?_ ?_)
      | ((with_reducible apply go_call_bool (f := 13) (hf := Tryz.call13)); (· (cbv; try rfl)); (· intro wc hbc hxc; exact h1 wc hbc); intro z hz)
      | ((with_reducible apply go_callq_bool (f := 13) (hf := Tryz.call13)); (· (cbv; try rfl)); (· intro wc hbc hxc; exact h1 wc hbc); intro z hz)
      | ((with_reducible apply go_call_bool (f := 14) (hf := Tryz.call14)); (· (cbv; try rfl)); (· intro wc hbc hxc; exact h2 wc hbc); intro z hz)
      | ((with_reducible apply go_callq_bool (f := 14) (hf := Tryz.call14)); (· (cbv; try rfl)); (· intro wc hbc hxc; exact h2 wc hbc); intro z hz)
      | ((with_reducible apply go_call (f := 35) (hf := Tryz.call35)); (· (cbv; try rfl)); (· intro wc hbc hxc; exact h3 wc hbc))
      | ((with_reducible apply go_callq (f := 35) (hf := Tryz.call35)); (· (cbv; try rfl)); (· intro wc hbc hxc; exact h3 wc hbc))
      | ((with_reducible apply go_call (f := 38) (hf := Tryz.call38)); (· (cbv; try rfl)); (· intro wc hbc hxc; exact h4 wc hbc))
      | ((with_reducible apply go_callq (f := 38) (hf := Tryz.call38)); (· (cbv; try rfl)); (· intro wc hbc hxc; exact h4 wc hbc))
      | ((with_reducible apply go_call (f := 37) (hf := Tryz.call37)); (· (cbv; try rfl)); (· intro wc hbc hxc; exact h6 wc hbc))
      | ((with_reducible apply go_callq (f := 37) (hf := Tryz.call37)); (· (cbv; try rfl)); (· intro wc hbc hxc; exact h6 wc hbc))
      | ((with_reducible apply go_call (f := 39) (hf := Tryz.call39)); (· (cbv; try rfl)); (· intro wc hbc hxc; exact h7 wc hbc))
      | ((with_reducible apply go_callq (f := 39) (hf := Tryz.call39)); (· (cbv; try rfl)); (· intro wc hbc hxc; exact h7 wc hbc))
      | ((with_reducible apply go_call (f := 19) (hf := Tryz.call19)); (· (cbv; try rfl)); (· intro wc hbc hxc; exact sameMasksN wc))
      | ((with_reducible apply go_callq (f := 19) (hf := Tryz.call19)); (· (cbv; try rfl)); (· intro wc hbc hxc; exact sameMasksN wc))
      | fail)
    all_goals (refine bool_eq ?_; simp_all)
  have hO : F.Ok := hO
  have h30 (wc : World) (hk : KB ⟨w, []⟩ wc) := livesC F wc (hF.later hk) hO hD
  have h60 (wc : World) (hk : KB ⟨w, []⟩ wc) := rLive16C F wc (hF.later hk) hK hO
  obtain ⟨u, s, e, h4, h7⟩ : ∃ (u s e : Int), (∀ wc, KB ⟨w, []⟩ wc → Calls Tryz.prog 38 #[F.val, .int .i64 at_] wc (Ret wc (.tuple #[.int .u32 u, .int .i64 s, .int .i64 e]))) ∧ ∀ wc, KB ⟨w, []⟩ wc → Calls Tryz.prog 39 #[F.val, .int .i64 at_] wc (Ret wc (.tuple #[.int .u32 u, .int .i64 s, .int .i64 e])) := by
    by_cases ha : at_ < 0 ∨ (stN F.sn F.bn : Int) ≤ at_
    · exact ⟨_, _, _, fun wc hk => lusesOut F wc (hF.later hk) hO at_ ha, fun wc hk => rUses16Out F wc (hF.later hk) hK hO at_ ha⟩
    · obtain ⟨a, rfl⟩ : ∃ a : Nat, at_ = .ofNat a := ⟨at_.toNat, by simp only [Int.ofNat_eq_natCast]; omega⟩
      have han : a < stN F.sn F.bn := by simp only [Int.ofNat_eq_natCast] at ha; omega
      exact ⟨_, _, _, fun wc hk => lusesC F wc (hF.later hk) hO hD a han, fun wc hk => rUses16C F wc (hF.later hk) hK hO a han⟩
  have hN9 := hO.pts
  obtain ⟨N, hN⟩ : ∃ N, N = stN F.sn F.bn := ⟨_, rfl⟩
  obtain ⟨rm, hrm⟩ : ∃ f : Nat → Nat, f = liM F := ⟨_, rfl⟩
  rw [← hN] at hN9
  have h3 (wc : World) (hk : KB ⟨w, []⟩ wc) : Calls Tryz.prog 35 #[F.val] wc (RetR wc (funX F) (.tup [.one (.rs 0), .one (.int .i64 0)]) [⟨N, 1, fun j => [.int .u32 (.ofNat (rm j))]⟩]) := by
    rw [hrm, hN]; exact h30 wc hk
  have h6 (wc : World) (hk : KB ⟨w, []⟩ wc) : Calls Tryz.prog 37 #[F.val] wc (RetR wc (funX F) (.tup [.one (.rs 0), .one (.int .i64 0)]) [⟨N, 1, fun j => [.int .u32 (.ofNat (rm j))]⟩]) := by
    rw [hrm, hN]; exact h60 wc hk
  have h9 (wc : World) (c : Nat → Nat → Row) (v v' : Value) := sameMasksC N rm rm (fun _ _ => rfl) (by omega) c c wc v v'
  clear hrm hN hO hK hD h30 h60
  obtain ⟨pa, un, lA, ln, lc, lk, lt, bA, bn, bc, sA, sn, sc, s, jA, jn, jc, ja, jk, jo, jf, jx, je, jd⟩ := F
  obtain ⟨hX, hl, hb, hs, hj⟩ := hF
  simp only at hl hb hs hj
  refine go_start (args := [.pt (.agg (GFun.dat _)), .pt (.one (.int .i64 at_))]) (c := (funX _)) Tryz.func8 rfl hX rfl rfl ?_
  obtain ⟨nd, hnd, nt, hnt, ar, har, cm, hcm, mx, hmx, mn, hmn, ar01, ar12, zpl, hzpl, zjn, hzjn, zup, hzup, zmi, hzmi, zdp, hzdp, hT⟩ := t0_all
  repeat' (first
    | refine go1 ?_ | refine gobt ?_ | refine gobn ?_ | refine go3 (fun hlt => ?_) (fun hge => ?_) | refine go2 (fun h => ?_) (fun h => ?_) | exact go0 | refine god ?_ | refine gof ?_ | refine gob ?_ | (with_reducible refine fork_cons ?_ ?_)
    | ((with_reducible apply go_call_bool (f := 13) (hf := Tryz.call13)); (· (cbv; try rfl)); (· intro wc hbc hxc; exact h1 wc hbc); intro z hz)
    | ((with_reducible apply go_callq_bool (f := 13) (hf := Tryz.call13)); (· (cbv; try rfl)); (· intro wc hbc hxc; exact h1 wc hbc); intro z hz)
    | ((with_reducible apply go_call_bool (f := 14) (hf := Tryz.call14)); (· (cbv; try rfl)); (· intro wc hbc hxc; exact h2 wc hbc); intro z hz)
    | ((with_reducible apply go_callq_bool (f := 14) (hf := Tryz.call14)); (· (cbv; try rfl)); (· intro wc hbc hxc; exact h2 wc hbc); intro z hz)
    | ((with_reducible apply go_callR (f := 35) (hf := Tryz.call35)); (· intro S; cbv; try rfl); (· intro wc S hbc hxc hrc; exact h3 wc hbc); (· rfl))
    | ((with_reducible apply go_call (f := 38) (hf := Tryz.call38)); (· (cbv; try rfl)); (· intro wc hbc hxc; exact h4 wc hbc))
    | ((with_reducible apply go_callq (f := 38) (hf := Tryz.call38)); (· (cbv; try rfl)); (· intro wc hbc hxc; exact h4 wc hbc))
    | ((with_reducible apply go_callR (f := 37) (hf := Tryz.call37)); (· intro S; cbv; try rfl); (· intro wc S hbc hxc hrc; exact h6 wc hbc); (· rfl))
    | ((with_reducible apply go_call (f := 39) (hf := Tryz.call39)); (· (cbv; try rfl)); (· intro wc hbc hxc; exact h7 wc hbc))
    | ((with_reducible apply go_callq (f := 39) (hf := Tryz.call39)); (· (cbv; try rfl)); (· intro wc hbc hxc; exact h7 wc hbc))
    | ((with_reducible apply go_callRv (f := 19) (hf := Tryz.call19)); (· intro S; cbv; try rfl); (· intro wc S hbc hxc hrc; exact h9 wc _ _ _ (hrc 0 _ rfl) (hrc 1 _ rfl)))
    | ((with_reducible apply go_callqRv (f := 19) (hf := Tryz.call19)); (· intro S; cbv; try rfl); (· intro wc S hbc hxc hrc; exact h9 wc _ _ _ (hrc 0 _ rfl) (hrc 1 _ rfl)))
    | fail)
  all_goals (refine bool_eq ?_; simp_all)

end Go.Proofs.YtbljhhkjjlgnmaaGreat
