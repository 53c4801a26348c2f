/- ConstrainLives, the walk. No condition. -/
import Derived.Test.YthgbmbamfojoeaaGreatCnA
import Derived.Test.YthgbmbamfojoeaaGreatSvD
import Derived.Test.YthgbmbamfojoeaaGreatN6
namespace Go.Proofs.YthgbmbamfojoeaaGreat
open Go.RowKit
set_option linter.unusedVariables false
set_option linter.unusedSimpArgs false

/-- A constraint goes from a loan, or from a reference. -/
theorem con_ref {F : GFun} {i : Nat} (hi : i < (allCon F).length) (h0 : 0 ≤ ((allCon F).getD i .zero).fr) (h1 : ((allCon F).getD i .zero).fr < F.ln) : isRefK (F.lk ((allCon F).getD i .zero).fr.toNat) = true := by
  obtain ⟨a, h⟩ := @conTo_at F (n := stN F.sn F.bn) i (by rw [← allCon_to]; exact hi)
  rw [← allCon_to] at h
  rcases h.ok.why with ⟨_, h2, _⟩ | ⟨_, _, _, _, h2⟩ | ⟨_, _, _, _, _, _, h2, _⟩
  · rw [h2] at h1
    simp only [Int.ofNat_eq_natCast] at h1
    omega
  · exact h2
  · exact h2

theorem quo_u64C {ar : BinOp → IntKind → Int → Int → Int} (har : ar = rAr) {x : Int} (h0 : 0 ≤ x) (h1 : x < 1000) : ar .quo .u64 x 0 = .ofNat x.toNat := by
  rw [har]
  show IntKind.u64.wrap x = _
  have e : IntKind.u64.wrap x = x % (2 ^ 64 : Int) := by simp [IntKind.wrap, IntKind.bits, IntKind.signed]
  rw [e]
  simp only [Int.ofNat_eq_natCast]
  omega
def fit9B (F : GFun) : Bool := !greatB F && (!gfB F && decide (rchkV F = 0))
theorem fit9_ok {F : GFun} (h : fit9B F = true) : F.Ok := by
  simp only [fit9B, Bool.and_eq_true, decide_eq_true_eq] at h
  exact (rchk_eq F).symm.trans h.2.2

set_option maxRecDepth 100000 in
set_option maxHeartbeats 4000000 in
theorem fit19C (F : GFun) (w : World) (hF : F.At w) (hK : F.Ty8) :
    Calls Tryz.prog 40 #[F.val] w (Ret w (.bool (fit9B F))) := by
  have h1 (wc : World) (hk : KB ⟨w, []⟩ wc) := greatC F wc (hF.later hk)
  have h2 (wc : World) (hk : KB ⟨w, []⟩ wc) := gfC F wc (hF.later hk)
  have h3 (wc : World) (hk : KB ⟨w, []⟩ wc) := rFnChk F wc (hF.later hk) hK
  unfold fit9B
  obtain ⟨q1, hq1⟩ : ∃ b, b = greatB F := ⟨_, rfl⟩
  obtain ⟨q2, hq2⟩ : ∃ b, b = gfB F := ⟨_, rfl⟩
  obtain ⟨q3, hq3⟩ : ∃ b, b = rchkV F := ⟨_, rfl⟩
  rw [← hq1] at h1 ⊢
  rw [← hq2] at h2 ⊢
  rw [← hq3] at h3 ⊢
  clear hq1 hq2 hq3 hK
  obtain ⟨pa, un, lA, ln, lc, lk, lt, bA, bn, bc, sA, sn, sc, s, jA, jn, jc, ja, jk, jo, jf, jx, je, jd⟩ := F
  obtain ⟨hX, hl, hb, hs, hj⟩ := hF
  simp only at hl hb hs hj
  refine go_start (args := [.pt (.agg (GFun.dat _))]) (c := (funX _)) Tryz.func40 rfl hX rfl rfl ?_
  obtain ⟨nd, hnd, nt, hnt, ar, har, cm, hcm, mx, hmx, mn, hmn, ar01, ar12, zpl, hzpl, zjn, hzjn, zup, hzup, zmi, hzmi, zdp, hzdp, hT⟩ := t0_all
  repeat' (first
    | refine go1 ?_ | refine gobt ?_ | refine gobn ?_ | refine go3 (fun hlt => ?_) (fun hge => ?_) | refine go2 (fun h => ?_) (fun h => ?_) | exact go0 | refine god ?_ | refine gof ?_ | refine gob ?_ | (with_reducible refine fork_cons ?_ ?_)
    | ((with_reducible apply go_call_bool (f := 25) (hf := Tryz.call25)); (· (cbv; try rfl)); (· intro wc hbc hxc; exact h1 wc hbc); intro z hz)
    | ((with_reducible apply go_callq_bool (f := 25) (hf := Tryz.call25)); (· (cbv; try rfl)); (· intro wc hbc hxc; exact h1 wc hbc); intro z hz)
    | ((with_reducible apply go_call_bool (f := 26) (hf := Tryz.call26)); (· (cbv; try rfl)); (· intro wc hbc hxc; exact h2 wc hbc); intro z hz)
    | ((with_reducible apply go_callq_bool (f := 26) (hf := Tryz.call26)); (· (cbv; try rfl)); (· intro wc hbc hxc; exact h2 wc hbc); intro z hz)
    | ((with_reducible apply go_call_int (f := 37) (hf := Tryz.call37)); (· (cbv; try rfl)); (· intro wc hbc hxc; exact h3 wc hbc); intro z hz)
    | ((with_reducible apply go_callq_int (f := 37) (hf := Tryz.call37)); (· (cbv; try rfl)); (· intro wc hbc hxc; exact h3 wc hbc); intro z hz)
    | fail)
  all_goals (refine bool_eq ?_; clear hX hT h1 h2 h3; subst hnd hnt; subst_vars; simp_all)

attribute [local irreducible] Calls
theorem wCnB_2 {p : Prop} (h : p := by (first | (cbv; (try simp only [true_and, and_true]); (try ((repeat' apply And.intro) <;> (first | trivial | rfl | exact RowLe.rfl' _ | decide | (rw [wrap_nat har _ (by omega)]; done) | ((rw [wrap_nat har k (by have h9 : k < N := (by assumption); omega)])) | ((rw [wrap_nat har i (by have h9 : i < ln := (by assumption); omega)])) | ((rw [wrap_nat har j (by have h9 : j < M := (by assumption); omega)])) | fail))); done) | fail)) : Pf p := ⟨h⟩
set_option maxRecDepth 100000 in
set_option maxHeartbeats 8000000 in
theorem clivesL (F : GFun) (w : World) (hF : F.At w) (hK : F.Ty8) (hD : F.Fd) :
    Calls Tryz.prog 6 #[F.val] w (Ret w (.bool true)) := by
  have h1 (wc : World) (hk : KB ⟨w, []⟩ wc) := fit19C F wc (hF.later hk) hK
  by_cases hO : fit9B F = true
  case neg =>
    have e : fit9B F = false := by simpa using hO
    rw [e] at h1
    clear hK hO e hD
    obtain ⟨pa, un, lA, ln, lc, lk, lt, bA, bn, bc, sA, sn, sc, s, jA, jn, jc, ja, jk, jo, jf, jx, je, jd⟩ := F
    obtain ⟨hX, hl, hb, hs, hj⟩ := hF
    simp only at hl hb hs hj
    refine go_start (args := [.pt (.agg (GFun.dat _))]) (c := (funX _)) Tryz.func6 rfl hX rfl rfl ?_
    obtain ⟨nd, hnd, nt, hnt, ar, har, cm, hcm, mx, hmx, mn, hmn, ar01, ar12, zpl, hzpl, zjn, hzjn, zup, hzup, zmi, hzmi, zdp, hzdp, hT⟩ := t0_all
    repeat' (first
      | refine go1 ?_ | refine gobt ?_ | refine gobn ?_ | refine go3 (fun hlt => ?_) (fun hge => ?_) | refine go2 (fun h => ?_) (fun h => ?_) | exact go0 | refine god ?_ | refine gof ?_ | refine gob ?_ | (with_reducible refine fork_cons ?_ ?_)
      | ((with_reducible apply go_call (f := 38) (hf := Tryz.call38)); (· (cbv; try rfl)); (· intro wc hbc hxc; exact aliveC wc))
      | ((with_reducible apply go_callq (f := 38) (hf := Tryz.call38)); (· (cbv; try rfl)); (· intro wc hbc hxc; exact aliveC wc))
      | ((with_reducible apply go_call (f := 40) (hf := Tryz.call40)); (· (cbv; try rfl)); (· intro wc hbc hxc; exact h1 wc hbc))
      | ((with_reducible apply go_callq (f := 40) (hf := Tryz.call40)); (· (cbv; try rfl)); (· intro wc hbc hxc; exact h1 wc hbc))
      | fail)
    all_goals rfl
  rw [hO] at h1
  have hO := fit9_ok hO
  have h30 (wc : World) (hk : KB ⟨w, []⟩ wc) := clivesC F wc (hF.later hk) hO hD
  have h40 (wc : World) (hk : KB ⟨w, []⟩ wc) {c : Nat → Nat → Row} := Calls.to (c' := c) (r := [⟨stN F.sn F.bn, 1, fun j => [.int .u32 (.ofNat (liM F j))]⟩]) ⟨fun _ _ => rfl, trivial⟩ rfl (livesC F wc (hF.later hk) hO hD)
  have h50 (wc : World) (hk : KB ⟨w, []⟩ wc) {c : Nat → Nat → Row} := Calls.to (c' := c) (conPlain _) rfl (allConC F wc (hF.later hk) hO.small hO.nearS hO.chk)
  have h6 (wc : World) (hk : KB ⟨w, []⟩ wc) := sizeC F wc (hF.later hk) hO.small
  have hN9 := hO.pts
  have hl16 := hO.ln16
  have hM9 := hO.cons
  obtain ⟨N, hN⟩ : ∃ N, N = stN F.sn F.bn := ⟨_, rfl⟩
  obtain ⟨rm, hrm⟩ : ∃ f : Nat → Nat, f = liM F := ⟨_, rfl⟩
  obtain ⟨ow, how⟩ : ∃ f : Nat → Nat → Bool, f = ownB F := ⟨_, rfl⟩
  obtain ⟨nn, hnn⟩ : ∃ f : Nat → Nat, f = nnN F.ln (stN F.sn F.bn) := ⟨_, rfl⟩
  obtain ⟨M, hM⟩ : ∃ M, M = (allCon F).length := ⟨_, rfl⟩
  obtain ⟨fr, hfr⟩ : ∃ f : Nat → Int, f = fun j => ((allCon F).getD j .zero).fr := ⟨_, rfl⟩
  obtain ⟨tn, htn⟩ : ∃ f : Nat → Int, f = fun j => ((allCon F).getD j .zero).to := ⟨_, rfl⟩
  obtain ⟨an, han⟩ : ∃ f : Nat → Int, f = fun j => ((allCon F).getD j .zero).at_ := ⟨_, rfl⟩
  obtain ⟨wy, hwy⟩ : ∃ f : Nat → Int, f = fun j => ((allCon F).getD j .zero).why := ⟨_, rfl⟩
  obtain ⟨rk, hrk⟩ : ∃ f : Nat → Bool, f = fun l => isRefK (F.lk l) := ⟨_, rfl⟩
  have hrf (l : Nat) (wc : World) : Calls Tryz.prog 43 #[.agg #[.int .u8 (F.lk l), .int .u8 (F.lt l)]] wc (Ret wc (.bool (rk l))) := by
    rw [hrk]; exact rReference (F.lk l) (F.lt l) wc
  have hnl : ∀ i, i < F.ln → nn i = N := fun i hi => by rw [hnn, hN]; exact nnN_lt hi
  have hcr : ∀ i, i < M → 0 ≤ fr i → fr i < F.ln → rk (fr i).toNat = true := fun i hi => by
    rw [hM] at hi; rw [hfr, hrk]; exact con_ref hi
  have hbit : ∀ {ar : BinOp → IntKind → Int → Int → Int}, ar = rAr → ∀ l j, l < F.ln → (rk l = false → ow l j = false) ∧ (rk l = true → decide (ar .and .u32 (ar .shr .u32 (.ofNat (rm j)) (ar .quo .u64 (.ofNat l) 0)) 1 = 1) = ow l j) := by
    intro ar har l j hl
    rw [how, hrm, hrk]
    refine ⟨fun h => by unfold ownB; rw [show isRefK (F.lk l) = false from h]; rfl, fun h => ?_⟩
    rw [quo_u64C har (x := Int.ofNat l) (Int.natCast_nonneg l) (by simp only [Int.ofNat_eq_natCast]; omega)]
    unfold ownB liM
    rw [show isRefK (F.lk l) = true from h, Bool.true_and, show (Int.ofNat l).toNat = l from rfl, bit_is har (by omega) hl]
    generalize (liveG F).liB l j = b; cases b <;> rfl
  have h3 (wc : World) (hk : KB ⟨w, []⟩ wc) : Calls Tryz.prog 27 #[F.val] wc (RetX wc (fun _ : Nat → Option Addr × Nat => .tup [.one (.rs 0), .one (.int .i64 0)]) (fun A => [⟨F.ln, 1, fun j => [.val (.slice (A j).1 N (A j).2)]⟩]) (fun A => rrG A nn ow)) := by
    rw [hnn, how, hN]; exact h30 wc hk
  have h4 (wc : World) (hk : KB ⟨w, []⟩ wc) {c : Nat → Nat → Row} : Calls Tryz.prog 41 #[F.val] wc (RetR wc c (.tup [.one (.rs 0), .one (.int .i64 0)]) [⟨N, 1, fun j => [.int .u32 (.ofNat (rm j))]⟩]) := by
    rw [hrm, hN]; exact h40 wc hk
  have h5 (wc : World) (hk : KB ⟨w, []⟩ wc) {c : Nat → Nat → Row} : Calls Tryz.prog 29 #[F.val] wc (RetR wc c (.tup [.one (.rs 0), .one (.int .i64 0)]) [⟨M, 4, fun j => [.int .i64 (fr j), .int .i64 (tn j), .int .i64 (an j), .int .u8 (wy j)]⟩]) := by
    rw [hM, hfr, htn, han, hwy]; exact h50 wc hk
  rw [← hN] at h6 hN9
  rw [← hM] at hM9
  clear h30 h40 h50 hN hrm how hnn hM hfr htn han hwy hrk hO hK hD
  obtain ⟨pa, un, lA, ln, lc, lk, lt, bA, bn, bc, sA, sn, sc, s, jA, jn, jc, ja, jk, jo, jf, jx, je, jd⟩ := F
  obtain ⟨hX, hl, hb, hs, hj⟩ := hF
  simp only at hl hb hs hj
  try simp only at h1 h3 h4 h5 h6 hl16 hnl hcr hbit hrf
  refine go_start (args := [.pt (.agg (GFun.dat ⟨pa, un, lA, ln, lc, lk, lt, bA, bn, bc, sA, sn, sc, s, jA, jn, jc, ja, jk, jo, jf, jx, je, jd⟩))]) (c := (funX ⟨pa, un, lA, ln, lc, lk, lt, bA, bn, bc, sA, sn, sc, s, jA, jn, jc, ja, jk, jo, jf, jx, je, jd⟩)) Tryz.func6 rfl hX rfl rfl ?_
  obtain ⟨nd, hnd, nt, hnt, ar, har, cm, hcm, mx, hmx, mn, hmn, ar01, ar12, zpl, hzpl, zjn, hzjn, zup, hzup, zmi, hzmi, zdp, hzdp, hT⟩ := t0_all
  have hbit := @hbit ar har
  have hc4 : ∀ q i j, q < 4 → j < (funX ⟨pa, un, lA, ln, lc, lk, lt, bA, bn, bc, sA, sn, sc, s, jA, jn, jc, ja, jk, jo, jf, jx, je, jd⟩ q i).n → qbL 4 ((funX ⟨pa, un, lA, ln, lc, lk, lt, bA, bn, bc, sA, sn, sc, s, jA, jn, jc, ja, jk, jo, jf, jx, je, jd⟩ q i).el j) = true := fun q i j hq hj => by
    match q, hq with
    | 0, _ => rfl
    | 1, _ => rfl
    | 2, _ => rfl
    | 3, _ => rfl
  have hseen : ∀ A : Nat → Option Addr × Nat, ∀ j, j < ln → ∀ vs, isL ⟨[], chiG (funX ⟨pa, un, lA, ln, lc, lk, lt, bA, bn, bc, sA, sn, sc, s, jA, jn, jc, ja, jk, jo, jf, jx, je, jd⟩) 4 (rrG A nn ow), []⟩ [.val (.slice (A j).1 N (A j).2)] vs → isL ⟨[], chiG (funX ⟨pa, un, lA, ln, lc, lk, lt, bA, bn, bc, sA, sn, sc, s, jA, jn, jc, ja, jk, jo, jf, jx, je, jd⟩) 4 (rrG A nn ow), []⟩ [.xs 4 j] vs := fun A j hj vs h => by
    match vs, h with
    | [v], ⟨h, _⟩ =>
      refine ⟨?_, trivial⟩
      have h : v = .slice (A j).1 N (A j).2 := h
      show v = .slice (A j).1 (nn j) (A j).2
      rw [hnl j hj]; exact h
  have n3 : ∀ i : Nat, i < ln → 0 ≤ ar .quo .u64 (.ofNat i) 0 := fun i hi => by rw [quo_u64C har (x := Int.ofNat i) (Int.natCast_nonneg i) (by simp only [Int.ofNat_eq_natCast]; omega)]; exact Int.natCast_nonneg _
  have hnq : ∀ X : Int, 0 ≤ X → X < X.toNat + 1 := fun X h => by omega
  have cg0 : ∀ {x : Int}, cm .geq x 0 = true → 0 ≤ x := fun {x} h => by rw [hcm] at h; exact of_decide_eq_true h
  have cgl : ∀ {x : Int}, cm .lss x (.ofNat ln) = true → x < ln := fun {x} h => by rw [hcm] at h; exact of_decide_eq_true h
  repeat' (first
    | refine go1 ?_ | refine gobt ?_ | refine gobn ?_ | refine go3 (fun hlt => ?_) (fun hge => ?_) | refine go2 (fun h => ?_) (fun h => ?_) | exact go0 | refine god ?_ | refine gof ?_ | refine gob ?_ | (with_reducible refine fork_cons ?_ ?_)
    | ((first | with_reducible apply go_fin_rowsP hT | with_reducible apply go_ret_rowsP hT); (· (cbv; try rfl)); (· (cbv; try rfl)); (· exact wCnB_2); (· exact wCnB_2); (· rfl))
    | ((with_reducible apply go_call (f := 38) (hf := Tryz.call38)); (· (cbv; try rfl)); (· intro wc hbc hxc; exact aliveC wc))
    | ((with_reducible apply go_callq (f := 38) (hf := Tryz.call38)); (· (cbv; try rfl)); (· intro wc hbc hxc; exact aliveC wc))
    | ((with_reducible apply go_call (f := 40) (hf := Tryz.call40)); (· (cbv; try rfl)); (· intro wc hbc hxc; exact h1 wc hbc))
    | ((with_reducible apply go_callq (f := 40) (hf := Tryz.call40)); (· (cbv; try rfl)); (· intro wc hbc hxc; exact h1 wc hbc))
    | ((with_reducible apply go_callR (f := 41) (hf := Tryz.call41)); (· intro S; cbv; try rfl); (· intro wc S hbc hxc hrc; exact h4 wc hbc); (· rfl))
    | ((with_reducible apply go_callR (f := 29) (hf := Tryz.call29)); (· intro S; cbv; try rfl); (· intro wc S hbc hxc hrc; exact h5 wc hbc); (· rfl))
    | ((with_reducible apply go_call (f := 42) (hf := Tryz.call42)); (· (cbv; try rfl)); (· intro wc hbc hxc; exact h6 wc hbc))
    | ((with_reducible apply go_callq (f := 42) (hf := Tryz.call42)); (· (cbv; try rfl)); (· intro wc hbc hxc; exact h6 wc hbc))
    | (((with_reducible apply go_callX 4 (f := 27) (hf := Tryz.call27)); (· intro S; cbv; try rfl); (· intro wc S hbc hxc hrc; exact h3 wc hbc); (· intro A; rfl); (· intro A; rfl); (· rfl); (· rfl); (· trivial); (· exact hc4); (· intro A; exact ⟨fun j hj => rfl, trivial⟩); (· intro A p i j hj; exact rrG_plain p i j hj); (intro A hnew; refine go_seen 0 (fun j => [.xs 4 j]) rfl (hseen A) ?_)))
    | ((with_reducible apply go_call (f := 43) (hf := Tryz.call43)); (· (cbv; try rfl)); (· intro wc hbc hxc; exact hrf _ wc))
    | ((with_reducible apply go_callq (f := 43) (hf := Tryz.call43)); (· (cbv; try rfl)); (· intro wc hbc hxc; exact hrf _ wc))
    | ((rw [hnl i (by assumption)]))
    | (((with_reducible apply go_need); (· exact n3 i (by assumption)); (· exact hnq _ (n3 i (by assumption)))))
    | (((with_reducible apply go_need); (· exact Int.natCast_nonneg _); (· first | exact Int.ofNat_lt.2 (by assumption) | (rw [hnl i (by assumption)]; exact Int.ofNat_lt.2 (by assumption)))))
    | (((with_reducible apply go_need); (· exact cg0 (by assumption)); (· exact cgl (by assumption))))
    | ((with_reducible refine go_loopk (σ := {i : Nat // i ≤ ln}) [2, 11, 62, 63, 64, 65, 66, 67, 68, 69, 70, 71, 72, 73, 74, 75, 76, 77, 78, 79, 80, 81, 82, 83, 84, 85, 86, 87, 88, 89, 90, 91, 92, 93, 94, 95, 96, 97, 98, 99, 100, 101, 102, 103, 104, 105, 106] (fun x => [(10, .pt (.one (.int .i64 (.ofNat x.1))))]) (fun x => []) (fun x => []) (fun x => ln - x.1) ⟨0, Nat.zero_le _⟩ ?_ ?_ ?_ ?_); (· exact le_mkP wCnB_2 wCnB_2 wCnB_2 wCnB_2); (· (cbv; try rfl)); (· simp); (rintro ⟨i, hi⟩ mm hmm))
    | ((with_reducible refine go_loopk (σ := {k : Nat // k ≤ N}) [2, 76, 77, 78, 79, 80, 81, 82, 83, 84, 85, 86, 87, 88, 89, 90, 91, 92, 93, 94, 95, 96, 97, 98, 99, 100, 101, 102, 103, 104, 105, 106] (fun x => [(11, .pt (.one (.int .i64 (.ofNat x.1))))]) (fun x => []) (fun x => []) (fun x => N - x.1) ⟨0, Nat.zero_le _⟩ ?_ ?_ ?_ ?_); (· exact le_mkP wCnB_2 wCnB_2 wCnB_2 wCnB_2); (· (cbv; try rfl)); (· simp); (rintro ⟨k, hk⟩ mm hmm))
    | ((with_reducible refine go_loopk (σ := {j : Nat // j ≤ M}) [2, 107, 108, 109, 110, 111, 112, 113, 114, 115, 116, 117, 118, 119, 120, 121, 122, 123, 124, 125, 126, 127, 128, 129, 130, 131, 132, 133, 134, 135, 136, 137, 138, 139, 140, 141, 142] (fun x => [(12, .pt (.one (.int .i64 (.ofNat x.1))))]) (fun x => []) (fun x => []) (fun x => M - x.1) ⟨0, Nat.zero_le _⟩ ?_ ?_ ?_ ?_); (· exact le_mkP wCnB_2 wCnB_2 wCnB_2 wCnB_2); (· (cbv; try rfl)); (· simp); (rintro ⟨j, hj⟩ mm hmm))
    | ((with_reducible refine go_stop (⟨k + 1, Nat.succ_le_of_lt (by assumption)⟩ : {k : Nat // k ≤ N}) ?_ ?_ ?_ ?_); (· exact Nat.lt_of_lt_of_eq (show N - (k + 1) < N - k from by omega) (Eq.symm (by assumption))); (· exact le_mkP wCnB_2 wCnB_2 wCnB_2 wCnB_2); (· (cbv; try rfl)); (· simp))
    | ((with_reducible refine go_stop (⟨i + 1, Nat.succ_le_of_lt (by assumption)⟩ : {i : Nat // i ≤ ln}) ?_ ?_ ?_ ?_); (· exact Nat.lt_of_lt_of_eq (show ln - (i + 1) < ln - i from by omega) (Eq.symm (by assumption))); (· exact le_mkP wCnB_2 wCnB_2 wCnB_2 wCnB_2); (· (cbv; try rfl)); (· simp))
    | ((with_reducible refine go_stop (⟨j + 1, Nat.succ_le_of_lt (by assumption)⟩ : {j : Nat // j ≤ M}) ?_ ?_ ?_ ?_); (· exact Nat.lt_of_lt_of_eq (show M - (j + 1) < M - j from by omega) (Eq.symm (by assumption))); (· exact le_mkP wCnB_2 wCnB_2 wCnB_2 wCnB_2); (· (cbv; try rfl)); (· simp))
    | (fail)
    | fail)
  all_goals first
    | rfl
    | exact absurd (congrArg Int.ofNat (hnl i (by assumption))) (of_decide_eq_false (by assumption))
    | exact absurd ((hbit i k (by assumption)).2 (by assumption)).symm (of_decide_eq_false (by assumption))
    | exact absurd ((hbit i k (by assumption)).1 (by assumption)) (of_decide_eq_false (by assumption))
    | exact absurd ((hcr j (by assumption) (cg0 (by assumption)) (cgl (by assumption))).symm.trans (by assumption)) (by decide)
    | trace_state

end Go.Proofs.YthgbmbamfojoeaaGreat
