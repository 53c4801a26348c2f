/- Layer 16 of the reference: the masks of what is live. No condition. -/
import Derived.Test.YtbljhhkjjlgnmaaGreatLwK
namespace Go.Proofs.YtbljhhkjjlgnmaaGreat
open Go.RowKit
set_option linter.unusedVariables false
set_option linter.unusedSimpArgs false

theorem wLwL_0 {p : Prop} (h : p := by (first | (cbv; (try simp only [true_and, and_true]); (try ((repeat' apply And.intro) <;> (first | trivial | rfl | exact RowLe.rfl' _ | decide | (rw [wrap_nat har _ (by omega)]; done) | ((exact r0)) | ((exact r1 _)) | ((exact r2 (by assumption))) | ((exact r3 (by assumption) (by assumption))) | ((exact r4 (by assumption))) | ((exact r5 hl0 (by assumption))) | fail))); done) | fail)) : Pf p := ⟨h⟩
set_option maxRecDepth 100000 in
set_option maxHeartbeats 8000000 in
theorem rMasks16C (F : GFun) (w : World) (hF : F.At w) (hO : F.Ok) :
    Calls Tryz.prog 71 #[F.val] w (RetR w (funX F) (.pt (.one (.rs 0))) [⟨stN F.sn F.bn, 1, fun j => [.int .u32 (.ofNat (liM F j))]⟩]) := by
  have h1 (wc : World) (hk : KB ⟨w, []⟩ wc) := sizeC F wc (hF.later hk) hO.small
  have h20 (wc : World) (hk : KB ⟨w, []⟩ wc) (l : Nat) (hl : l < F.ln) := rLives16C F wc (hF.later hk) hO l hl
  have hN9 := hO.pts
  have hl16 := hO.ln16
  obtain ⟨N, hN⟩ : ∃ N, N = stN F.sn F.bn := ⟨_, rfl⟩
  obtain ⟨ub, hub⟩ : ∃ f : Nat → Nat → Bool, f = fun l j => (liveG F).liB l j := ⟨_, rfl⟩
  obtain ⟨mq, hmq⟩ : ∃ f : Nat → Nat → Nat, f = fun l j => mk (fun l => (liveG F).liB l j) l := ⟨_, rfl⟩
  have h2 (wc : World) (hk : KB ⟨w, []⟩ wc) (l : Nat) (hl : l < F.ln) : Calls Tryz.prog 102 #[F.val, .int .i64 (.ofNat l)] wc (RetR wc (funX F) (.pt (.one (.rs 0))) [⟨N, 1, fun j => [.bool (ub l j)]⟩]) := by
    rw [hN, hub]; exact h20 wc hk l hl
  have m0 : ∀ j, (0 : Int) = .ofNat (mq 0 j) := fun j => by rw [hmq]; rfl
  have m1 : ∀ l j, ub l j = true → mq l j + 2 ^ l = mq (l + 1) j := fun l j h => by
    rw [hub] at h; rw [hmq]
    have h : (liveG F).liB l j = true := h
    simp only [mk]
    rw [if_pos h]
  have m2 : ∀ l j, ub l j = false → mq l j = mq (l + 1) j := fun l j h => by
    rw [hub] at h; rw [hmq]
    have h : (liveG F).liB l j = false := h
    simp only [mk]
    rw [if_neg (by rw [h]; exact Bool.noConfusion)]; rfl
  have mlt : ∀ l j, mq l j < 2 ^ l := fun l j => by rw [hmq]; exact mk_lt _ l
  have hRB : (⟨stN F.sn F.bn, 1, fun j => [SC.int .u32 (.ofNat (liM F j))]⟩ : ORow) = ⟨N, 1, fun j => [SC.int .u32 (.ofNat (mq F.ln j))]⟩ := by rw [hmq, hN]; rfl
  rw [hRB]
  rw [← hN] at h1 hN9
  obtain ⟨fl, hfl⟩ : ∃ f : Nat → Nat → Nat → Nat, f = fun l k j => if j < k then mq (l + 1) j else mq l j := ⟨_, rfl⟩
  clear hRB hub hmq hN h20 hO
  obtain ⟨pa, un, lA, ln, lc, lk, lt, bA, bn, bc, sA, sn, sc, s, jA, jn, jc, ja, jk, jo, jf, jx, je, jd⟩ := F
  obtain ⟨hX, hl, hb, hs, hj⟩ := hF
  simp only at hl hb hs hj
  try simp only at h1 h2 hl16
  refine go_start (args := [.pt (.agg (GFun.dat ⟨pa, un, lA, ln, lc, lk, lt, bA, bn, bc, sA, sn, sc, s, jA, jn, jc, ja, jk, jo, jf, jx, je, jd⟩))]) (c := (funX ⟨pa, un, lA, ln, lc, lk, lt, bA, bn, bc, sA, sn, sc, s, jA, jn, jc, ja, jk, jo, jf, jx, je, jd⟩)) Tryz.func71 rfl hX rfl rfl ?_
  obtain ⟨nd, hnd, nt, hnt, ar, har, cm, hcm, mx, hmx, mn, hmn, ar01, ar12, zpl, hzpl, zjn, hzjn, zup, hzup, zmi, hzmi, zdp, hzdp, hT⟩ := t0_all
  have r0 : RowLe ⟨N, 1, fun x => [SC.int .u32 0]⟩ ⟨N, 1, fun j => [SC.int .u32 (.ofNat (mq 0 j))]⟩ := rowLe_of rfl fun j _ => ⟨⟨rfl, m0 j⟩, trivial⟩
  have r1 : ∀ l, RowLe ⟨N, 1, fun j => [SC.int .u32 (.ofNat (mq l j))]⟩ ⟨N, 1, fun j => [SC.int .u32 (.ofNat (fl l 0 j))]⟩ := fun l => rowLe_of rfl fun j _ => ⟨⟨rfl, by rw [hfl]; simp⟩, trivial⟩
  have r2 : ∀ {l k}, N ≤ k → RowLe ⟨N, 1, fun j => [SC.int .u32 (.ofNat (fl l k j))]⟩ ⟨N, 1, fun j => [SC.int .u32 (.ofNat (mq (l + 1) j))]⟩ := fun {l k} h => rowLe_of rfl fun j hj => ⟨⟨rfl, by rw [hfl]; simp only; rw [if_pos (by omega)]⟩, trivial⟩
  have hk : ∀ {l k : Nat}, fl l k k = mq l k := fun {l k} => by rw [hfl]; simp
  have r3 : ∀ {l k}, l < ln → ub l k = true → RowLe ⟨N, 1, zup (fun j => [SC.int .u32 (.ofNat (fl l k j))]) k 0 [SC.int .u32 (ar .add .u32 (.ofNat (fl l k k)) (ar .shl .u32 1 (ar .quo .u64 (.ofNat l) 0)))]⟩ ⟨N, 1, fun j => [SC.int .u32 (.ofNat (fl l (k + 1) j))]⟩ := fun {l k} hl h => by
    have e : ar .add .u32 (.ofNat (fl l k k)) (ar .shl .u32 1 (ar .quo .u64 (.ofNat l) 0)) = .ofNat (mq (l + 1) k) := by
      rw [quo_u64L har (x := Int.ofNat l) (Int.natCast_nonneg l) (by simp only [Int.ofNat_eq_natCast]; omega), show (Int.ofNat l).toNat = l from rfl, u32_shl har (by omega), hk]
      have h1 := mlt l k
      have h2 := Nat.pow_le_pow_right (n := 2) (by decide) (show l ≤ 15 by omega)
      rw [u32_add har (by omega), m1 l k h]
    rw [e]
    refine rowLe_up hzup rfl (fun j hj h => ⟨⟨rfl, ?_⟩, trivial⟩) (fun _ => ⟨⟨rfl, ?_⟩, trivial⟩)
    · rw [hfl]; simp only
      by_cases g : j < k
      · rw [if_pos g, if_pos (by omega)]
      · rw [if_neg g, if_neg (by omega)]
    · rw [hfl]; simp only; rw [if_pos (by omega)]
  have r4 : ∀ {l k}, ub l k = false → RowLe ⟨N, 1, fun j => [SC.int .u32 (.ofNat (fl l k j))]⟩ ⟨N, 1, fun j => [SC.int .u32 (.ofNat (fl l (k + 1) j))]⟩ := fun {l k} h => rowLe_of rfl fun j hj => ⟨⟨rfl, by
    rw [hfl]; simp only
    by_cases g : j < k
    · rw [if_pos g, if_pos (by omega)]
    · rw [if_neg g]
      by_cases g2 : j = k
      · subst g2; rw [if_pos (by omega), m2 l j h]
      · rw [if_neg (by omega)]⟩, trivial⟩
  have r5 : ∀ {l}, l ≤ ln → ln ≤ l → RowLe ⟨N, 1, fun j => [SC.int .u32 (.ofNat (mq l j))]⟩ ⟨N, 1, fun j => [SC.int .u32 (.ofNat (mq ln j))]⟩ := fun {l} a b => by rw [Nat.le_antisymm a b]; exact RowLe.rfl' _
  have qn : ∀ {l : Nat}, l < ln → ar .quo .u64 (.ofNat l) 0 = .ofNat l := fun {l} h => quo_u64L har (x := Int.ofNat l) (Int.natCast_nonneg l) (by simp only [Int.ofNat_eq_natCast]; omega)
  clear hfl mlt m0 m1 m2
  repeat' (first
    | refine go1 ?_ | refine gobt ?_ | refine gobn ?_ | refine go3 (fun hlt => ?_) (fun hge => ?_) | refine go2 (fun h => ?_) (fun h => ?_) | exact go0 | refine god ?_ | refine gof ?_ | (with_reducible refine fork_cons ?_ ?_)
    | ((first | with_reducible apply go_fin_rowsP hT | with_reducible apply go_ret_rowsP hT); (· (cbv; try rfl)); (· (cbv; try rfl)); (· exact wLwL_0); (· exact wLwL_0); (· rfl))
    | ((with_reducible refine go_ob ?_ ?_); (· first | trivial | (refine ⟨trivial, ?_⟩; omega) | (rw [hzpl]; refine ⟨trivial, ?_⟩; show _ + _ ≤ 1073741824; omega) | (rw [hzpl]; show _ + _ ≤ 1073741824; omega) | ((exact ⟨Int.natCast_nonneg N, (show (N : Int) ≤ 1073741824 by omega)⟩))))
    | ((with_reducible apply go_call (f := 24) (hf := Tryz.call24)); (· (cbv; try rfl)); (· intro wc hbc hxc; exact h1 wc hbc))
    | ((with_reducible apply go_callq (f := 24) (hf := Tryz.call24)); (· (cbv; try rfl)); (· intro wc hbc hxc; exact h1 wc hbc))
    | ((with_reducible apply go_callR (f := 102) (hf := Tryz.call102)); (· intro S; cbv; try rfl); (· intro wc S hbc hxc hrc; exact h2 wc hbc l (by assumption)); (· rfl))
    | ((with_reducible refine go_loopk (σ := {l : Nat // l ≤ ln}) [5, 6, 10, 11, 12, 13, 14, 15, 16, 17, 18, 19, 20, 21, 22, 23, 24, 25, 26, 27, 28, 29, 30, 31, 32, 33, 34, 35, 36, 37, 38, 39] (fun x => [(4, .pt (.one (.int .i64 (.ofNat x.1))))]) (fun x => []) (fun x => [(0, ⟨N, 1, fun j => [.int .u32 (.ofNat (mq x.1 j))]⟩)]) (fun x => ln - x.1) ⟨0, by omega⟩ ?_ ?_ ?_ ?_); (· exact le_mkP wLwL_0 wLwL_0 wLwL_0 wLwL_0); (· (cbv; try rfl)); (· simp); (rintro ⟨l, hl0⟩ mm hmm))
    | ((with_reducible refine go_loopk (σ := {k : Nat // k ≤ N}) [20, 21, 22, 23, 24, 25, 26, 27, 28, 29, 30, 31, 32, 33, 34, 35, 36, 37, 38, 39] (fun x => [(6, .pt (.one (.int .i64 (.ofNat x.1))))]) (fun x => []) (fun x => [(0, ⟨N, 1, fun j => [.int .u32 (.ofNat (fl l x.1 j))]⟩)]) (fun x => N - x.1) ⟨0, by omega⟩ ?_ ?_ ?_ ?_); (· exact le_mkP wLwL_0 wLwL_0 wLwL_0 wLwL_0); (· (cbv; try rfl)); (· simp); (rintro ⟨k, hk⟩ mm hmm))
    | (((with_reducible apply go_need); (· rw [qn (by assumption)]; exact Int.natCast_nonneg _); (· rw [qn (by assumption)]; exact (show ((l : Nat) : Int) < ((l + 1 : Nat) : Int) by omega))))
    | ((with_reducible refine go_stop (⟨l + 1, by omega⟩ : {l : Nat // l ≤ ln}) ?_ ?_ ?_ ?_); (· exact Nat.lt_of_lt_of_eq (show ln - (l + 1) < ln - l from by omega) (Eq.symm (by assumption))); (· exact le_mkP wLwL_0 wLwL_0 wLwL_0 wLwL_0); (· (cbv; try rfl)); (· simp))
    | ((with_reducible refine go_stop (⟨k + 1, by omega⟩ : {k : Nat // k ≤ N}) ?_ ?_ ?_ ?_); (· exact Nat.lt_of_lt_of_eq (show N - (k + 1) < N - k from by omega) (Eq.symm (by assumption))); (· exact le_mkP wLwL_0 wLwL_0 wLwL_0 wLwL_0); (· (cbv; try rfl)); (· simp))
    | (fail)
    | fail)
  all_goals trace_state

set_option maxRecDepth 100000 in
set_option maxHeartbeats 4000000 in
theorem rLive16C (F : GFun) (w : World) (hF : F.At w) (hK : F.Ty8) (hO : F.Ok) :
    Calls Tryz.prog 37 #[F.val] w (RetR w (funX F) (.tup [.one (.rs 0), .one (.int .i64 0)]) [⟨stN F.sn F.bn, 1, fun j => [.int .u32 (.ofNat (liM F j))]⟩]) := by
  have h1 (wc : World) (hk : KB ⟨w, []⟩ wc) := rFnChk F wc (hF.later hk) hK
  rw [show rchkV F = 0 from (rchk_eq F).trans hO] at h1
  have h2 (wc : World) (hk : KB ⟨w, []⟩ wc) := rMasks16C F wc (hF.later hk) hO
  obtain ⟨g, hg⟩ : ∃ f : Nat → Nat, f = liM F := ⟨_, rfl⟩
  rw [← hg] at h2 ⊢
  generalize stN F.sn F.bn = N at h2 ⊢
  clear hg hO hK
  obtain ⟨pa, un, lA, ln, lc, lk, lt, bA, bn, bc, sA, sn, sc, s, jA, jn, jc, ja, jk, jo, jf, jx, je, jd⟩ := F
  obtain ⟨hX, hl, hb, hs, hj⟩ := hF
  simp only at hl hb hs hj
  refine go_start (args := [.pt (.agg (GFun.dat ⟨pa, un, lA, ln, lc, lk, lt, bA, bn, bc, sA, sn, sc, s, jA, jn, jc, ja, jk, jo, jf, jx, je, jd⟩))]) (c := (funX ⟨pa, un, lA, ln, lc, lk, lt, bA, bn, bc, sA, sn, sc, s, jA, jn, jc, ja, jk, jo, jf, jx, je, jd⟩)) Tryz.func37 rfl hX rfl rfl ?_
  obtain ⟨nd, hnd, nt, hnt, ar, har, cm, hcm, mx, hmx, mn, hmn, ar01, ar12, zpl, hzpl, zjn, hzjn, zup, hzup, zmi, hzmi, zdp, hzdp, hT⟩ := t0_all
  repeat' (first
    | refine go1 ?_ | refine gobt ?_ | refine gobn ?_ | refine go3 (fun hlt => ?_) (fun hge => ?_) | refine go2 (fun h => ?_) (fun h => ?_) | exact go0 | refine god ?_ | refine gof ?_ | refine gob ?_ | (with_reducible refine fork_cons ?_ ?_)
    | ((with_reducible apply go_call (f := 23) (hf := Tryz.call23)); (· (cbv; try rfl)); (· intro wc hbc hxc; exact h1 wc hbc))
    | ((with_reducible apply go_callq (f := 23) (hf := Tryz.call23)); (· (cbv; try rfl)); (· intro wc hbc hxc; exact h1 wc hbc))
    | ((with_reducible apply go_callR (f := 71) (hf := Tryz.call71)); (· intro S; cbv; try rfl); (· intro wc S hbc hxc hrc; exact h2 wc hbc); (· rfl))
    | fail)

set_option maxRecDepth 100000 in
set_option maxHeartbeats 4000000 in
theorem rLive16Bad (F : GFun) (w : World) (hF : F.At w) (hK : F.Ty8) (hz : rchkV F ≠ 0) :
    Calls Tryz.prog 37 #[F.val] w (Ret w (.tuple #[.slice none 0 0, .int .i64 (rchkV F)])) := by
  have h1 (wc : World) (hk : KB ⟨w, []⟩ wc) := rFnChk F wc (hF.later hk) hK
  generalize rchkV F = z at h1 hz ⊢
  have hq : decide (z = 0) = false := decide_eq_false hz
  clear hK hz
  obtain ⟨pa, un, lA, ln, lc, lk, lt, bA, bn, bc, sA, sn, sc, s, jA, jn, jc, ja, jk, jo, jf, jx, je, jd⟩ := F
  obtain ⟨hX, hl, hb, hs, hj⟩ := hF
  simp only at hl hb hs hj
  refine go_start (args := [.pt (.agg (GFun.dat ⟨pa, un, lA, ln, lc, lk, lt, bA, bn, bc, sA, sn, sc, s, jA, jn, jc, ja, jk, jo, jf, jx, je, jd⟩))]) (c := (funX ⟨pa, un, lA, ln, lc, lk, lt, bA, bn, bc, sA, sn, sc, s, jA, jn, jc, ja, jk, jo, jf, jx, je, jd⟩)) Tryz.func37 rfl hX rfl rfl ?_
  obtain ⟨nd, hnd, nt, hnt, ar, har, cm, hcm, mx, hmx, mn, hmn, ar01, ar12, zpl, hzpl, zjn, hzjn, zup, hzup, zmi, hzmi, zdp, hzdp, hT⟩ := t0_all
  repeat' (first
    | refine go1 ?_ | refine gobt ?_ | refine gobn ?_ | refine go3 (fun hlt => ?_) (fun hge => ?_) | refine go2 (fun h => ?_) (fun h => ?_) | exact go0 | refine god ?_ | refine gof ?_ | refine gob ?_ | (with_reducible refine fork_cons ?_ ?_)
    | ((with_reducible apply go_call (f := 23) (hf := Tryz.call23)); (· (cbv; try rfl)); (· intro wc hbc hxc; exact h1 wc hbc))
    | ((with_reducible apply go_callq (f := 23) (hf := Tryz.call23)); (· (cbv; try rfl)); (· intro wc hbc hxc; exact h1 wc hbc))
    | fail)
  all_goals rfl

end Go.Proofs.YtbljhhkjjlgnmaaGreat
