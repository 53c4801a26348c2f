/- Layer 20: the regions of a function, of the reference; SolveRegions, the walk. No condition. -/
import Derived.Test.YtmceonmlgcbcmaaGreatSolveX
import Derived.Test.YtmceonmlgcbcmaaGreatCnE
namespace Go.Proofs.YtmceonmlgcbcmaaGreat
set_option maxRecDepth 100000
open Go.RowKit
set_option linter.unusedVariables false
set_option linter.unusedSimpArgs false
set_option maxHeartbeats 8000000 in
theorem rfound20C (F : GFun) (w : World) (hF : F.At w) (hK : F.Ty8) (hO : F.Ok) :
 Calls Tryz.prog 77 #[F.val] w (RetX w (fun _ : AdF => .pt (.one (.rs 0))) (fun A => [⟨regN F, 1, fun j => [.val (.slice (A j).1 (stN F.sn F.bn) (A j).2)]⟩]) (fun A => rrG A (nnN (regN F) (stN F.sn F.bn)) (regF F))) := by
 have h10 (wc : World) (hk : KB ⟨w, []⟩ wc) := rlives19C F wc (hF.later hk) hK hO
 have h50 (wc : World) (hk : KB ⟨w, []⟩ wc) {c : Nat → Nat → Row} := Calls.to (c' := c) (conPlain _) rfl (found19C F wc (hF.later hk) hO)
 have h60 (wc : World) (hk : KB ⟨w, []⟩ wc) {c : Nat → Nat → Row} := Calls.to (c' := c) (r := [natR (loanPts F (stN F.sn F.bn))]) ⟨fun _ _ => rfl, trivial⟩ rfl (loanPtsC F wc (hF.later hk) hO.small)
 have h80 (wc : World) (hk : KB ⟨w, []⟩ wc) := sizeC F wc (hF.later hk) hO.small
 have h70 := fun (wc : World) (c : Nat → Nat → Row) (v v' : Value) (B : AdF) hx hB => solvedX (regN F) (allCon F).length (stN F.sn F.bn) (owB F) (conF F) (conT F) (fun j => ((allCon F).getD j .zero).at_) (fun j => ((allCon F).getD j .zero).why) wc c v v' B hx hB (regN_le hO).2 hO.cons hO.pts (con_fit hO)
 have hN9 := hO.pts
 have hN0 := pts_pos hO
 have hl16 := hO.ln16
 have hP9 := (regN_le hO).1
 have hRN : regN F = F.ln + (loanPts F (stN F.sn F.bn)).length := rfl
 obtain ⟨rN, hrN⟩ : ∃ x, x = regN F := ⟨_, rfl⟩
 obtain ⟨P, hP⟩ : ∃ P, P = (loanPts F (stN F.sn F.bn)).length := ⟨_, rfl⟩
 obtain ⟨N, hN⟩ : ∃ N, N = stN F.sn F.bn := ⟨_, rfl⟩
 obtain ⟨M, hM⟩ : ∃ M, M = (allCon F).length := ⟨_, rfl⟩
 obtain ⟨fr, hfr⟩ : ∃ f : Nat → Int, f = conF F := ⟨_, rfl⟩
 obtain ⟨tn, htn⟩ : ∃ f : Nat → Int, f = conT F := ⟨_, rfl⟩
 obtain ⟨an, han⟩ : ∃ f : Nat → Int, f = fun j => ((allCon F).getD j .zero).at_ := ⟨_, rfl⟩
 obtain ⟨wy, hwy⟩ : ∃ f : Nat → Int, f = fun j => ((allCon F).getD j .zero).why := ⟨_, rfl⟩
 obtain ⟨ox, hox⟩ : ∃ f : Nat → Nat → Bool, f = owB F := ⟨_, rfl⟩
 obtain ⟨rf, hrf⟩ : ∃ f : Nat → Nat → Bool, f = regF F := ⟨_, rfl⟩
 obtain ⟨nr, hnr⟩ : ∃ f : Nat → Nat, f = nnN (regN F) (stN F.sn F.bn) := ⟨_, rfl⟩
 obtain ⟨tg, th, tu, htg, t0, tp, tz, k3, k4, hup, hu1, hu2, huN, tN⟩ := famLetters N ox
 obtain ⟨sK, hsK⟩ : ∃ f : Nat → Nat, f = fun k => F.ln + k := ⟨_, rfl⟩
 have hs0K : sK 0 = F.ln := by rw [hsK] <;> rfl
 have hs1K : ∀ k, sK (k + 1) = sK k + 1 := fun k => by rw [hsK] <;> rfl
 have hsE : ∀ k, sK k = F.ln + k := fun k => by rw [hsK]
 have hz : ∀ i j, ox (F.ln + i) j = false := fun i j => by rw [hox]; unfold owB; rw [decide_eq_false (by omega)]; rfl
 have h1 (wc : World) (hk : KB ⟨w, []⟩ wc) : Calls Tryz.prog 27 #[F.val] wc (RetX wc (fun _ : AdF => .tup [.one (.rs 0), .one (.int .i64 0)]) (fun A => [⟨F.ln, 1, fun j => [.val (.slice (A j).1 N (A j).2)]⟩]) (fun A => tg F.ln A)) := by
  have e : (fun A : AdF => tg F.ln A) = fun A => rrG A (nnN F.ln (stN F.sn F.bn)) (owB F) := by funext A; rw [htg, hN, hox]
  rw [e, hN]
  refine (h10 wc hk).mono fun en w' h => h.fam fun A p i j hj => ?_
  unfold rrG at hj ⊢
  by_cases hp : p = 0
  · rw [if_pos hp] at hj ⊢
    rw [if_pos hp]
    simp only at hj
    by_cases hi : i < F.ln
    · have e : ∀ j, ownB F i j = owB F i j := fun j => by unfold ownB owB; rw [decide_eq_true hi, Bool.true_and]
      simp only [e]
    · rw [nnN, if_neg hi] at hj; exact absurd hj (Nat.not_lt_zero _)
  · rw [if_neg hp, if_neg hp]
 have h5 (wc : World) (hk : KB ⟨w, []⟩ wc) {c : Nat → Nat → Row} : Calls Tryz.prog 71 #[F.val] wc (RetR wc c (.pt (.one (.rs 0))) [⟨M, 4, fun j => [.int .i64 (fr j), .int .i64 (tn j), .int .i64 (an j), .int .u8 (wy j)]⟩]) := by
  rw [hM, hfr, htn, han, hwy]; exact h50 wc hk
 obtain ⟨lp, hlp⟩ : ∃ f : Nat → Nat, f = fun j => (loanPts F (stN F.sn F.bn)).getD j 0 := ⟨_, rfl⟩
 have h6 (wc : World) (hk : KB ⟨w, []⟩ wc) {c : Nat → Nat → Row} : Calls Tryz.prog 45 #[F.val] wc (RetR wc c (.pt (.one (.rs 0))) [⟨P, 1, fun j => [.int .i64 (.ofNat (lp j))]⟩]) := by
  have := @h60 wc hk c
  rw [natR] at this
  rw [hP, hlp]; exact this
 have h7 (wc : World) (k : Nat) (hk : k = P) (v v' : Value) (B : AdF) (hx : XOk ⟨[], chiG (funX F) 4 (tg (sK k) B), []⟩ ⟨wc, []⟩) (hR : RowIs (chiG (funX F) 4 (tg (sK k) B)) wc ⟨sK k, 1, fun j => [.val (.slice (B j).1 N (B j).2)]⟩ v) (hR' : RowIs (chiG (funX F) 4 (tg (sK k) B)) wc ⟨M, 4, fun j => [.int .i64 (fr j), .int .i64 (tn j), .int .i64 (an j), .int .u8 (wy j)]⟩ v') :
  Calls Tryz.prog 108 #[v, v'] wc (RetX wc (fun _ : AdF => .pt (.one (.rs 0))) (fun A => [⟨rN, 1, fun j => [.val (.slice (A j).1 N (A j).2)]⟩]) (fun A => rrG A nr rf)) := by
  have e : sK k = rN := by rw [hsE, hrN, hRN, hk, hP]
  rw [e] at hx hR hR'
  rw [hnr, hrf, hrN]
  unfold regF
  rw [hrN] at hx hR hR'
  rw [hM, hfr, htn, han, hwy] at hR'
  rw [hN] at hR ⊢
  refine h70 wc _ v v' B hx (fun j hj => ⟨4, j, ?_⟩) hR hR'
  rw [htg, hN, hox, chiG_ge (Nat.le_refl _)]
  show rrG B (nnN (regN F) (stN F.sn F.bn)) (owB F) 0 j = _
  unfold rrG
  rw [if_pos rfl, nnN_lt hj]
 have hrP : rN = F.ln + P := by rw [hrN, hRN, hP]
 rw [← hrN, ← hN, ← hrf]
 rw [← hrN, ← hN] at hnr
 rw [← hnr]
 rw [← hN] at hN9 hN0 h80
 rw [← hP] at hP9
 have h8 := h80
 clear h10 h50 h60 h70 h80 hlp hrN hP hN hM hfr htn han hwy hox hrf hnr htg hsK hRN hO hK
 obtain ⟨pa, un, lA, ln, lc, lk, lt, bA, bn, bc, sA, sn, sc, s, jA, jn, jc, ja, jk, jo, jf, jx, je, jd⟩ := F
 obtain ⟨hX, hl, hb, hs, hj⟩ := hF
 simp only at hl hb hs hj
 try simp only at h1 h5 h6 h7 hl16 hz hrP h8 hsE hs0K
 refine go_start (args := [.pt (.agg (GFun.dat ⟨pa, un, lA, ln, lc, lk, lt, bA, bn, bc, sA, sn, sc, s, jA, jn, jc, ja, jk, jo, jf, jx, je, jd⟩))]) (c := (funX ⟨pa, un, lA, ln, lc, lk, lt, bA, bn, bc, sA, sn, sc, s, jA, jn, jc, ja, jk, jo, jf, jx, je, jd⟩)) Tryz.func77 rfl hX rfl rfl ?_
 obtain ⟨nd, hnd, nt, hnt, ar, har, cm, hcm, mx, hmx, mn, hmn, ar01, ar12, zpl, hzpl, zjn, hzjn, zup, hzup, zmi, hzmi, zdp, hzdp, hT⟩ := t0_all
 have hc4 : ∀ q i j, q < 4 → j < (funX ⟨pa, un, lA, ln, lc, lk, lt, bA, bn, bc, sA, sn, sc, s, jA, jn, jc, ja, jk, jo, jf, jx, je, jd⟩ q i).n → qbL 4 ((funX ⟨pa, un, lA, ln, lc, lk, lt, bA, bn, bc, sA, sn, sc, s, jA, jn, jc, ja, jk, jo, jf, jx, je, jd⟩ q i).el j) = true := fun q i j hq hj => by
  match q, hq with
  | 0, _ => rfl
  | 1, _ => rfl
  | 2, _ => rfl
  | 3, _ => rfl
 have hc5 : ∀ n (A : AdF) q i j, q < 5 → j < (chiG (funX ⟨pa, un, lA, ln, lc, lk, lt, bA, bn, bc, sA, sn, sc, s, jA, jn, jc, ja, jk, jo, jf, jx, je, jd⟩) 4 (tg n A) q i).n → qbL 5 ((chiG (funX ⟨pa, un, lA, ln, lc, lk, lt, bA, bn, bc, sA, sn, sc, s, jA, jn, jc, ja, jk, jo, jf, jx, je, jd⟩) 4 (tg n A) q i).el j) = true := fun n A q i j hq hj => by
  by_cases g : q < 4
  · rw [chiG_lt g]
    match q, g with
    | 0, _ => rfl
    | 1, _ => rfl
    | 2, _ => rfl
    | 3, _ => rfl
  · rw [chiG_ge (by omega)] at hj ⊢
    exact plainL_qb (tp n A _ _ _ hj)
 have hsn : ∀ i (A : AdF) (a : Option Addr) (cap : Nat), RowLe ⟨zpl (sK i) 1, 1, zjn (sK i) (fun j => [.val (.slice (A j).1 N (A j).2)]) (fun j => cutL [.val (.slice a N cap)] (0 + j * 1) 1)⟩ ⟨sK (i + 1), 1, fun j => [.val (.slice (tu A (sK i) (a, cap) j).1 N (tu A (sK i) (a, cap) j).2)]⟩ := fun i A a cap => by
  refine rowLe_snoc hzpl hzjn (hs1K i) (fun j hj => ?_) ?_
  · rw [hu1 A _ _ j hj]; exact leCL_rfl _
  · rw [hu2]; exact leCL_rfl _
 have hfz : ∀ i, RowLe ⟨N, 1, fun _ => [.lit false]⟩ ⟨N, 1, fun k => [.bool (ox (sK i) k)]⟩ := fun i => rowLe_of rfl (fun j hj => ⟨by rw [hsE i, hz i j]; rfl, trivial⟩)
 have hmk : (N : Int) ≤ 1073741824 := by omega
 repeat' (first
  | refine go1 ?_ | refine go3 (fun hlt => ?_) (fun hge => ?_)
  | ((with_reducible refine go_ob ?_ ?_); (· first | trivial | (refine ⟨trivial, ?_⟩; omega) | (rw [hzpl]; refine ⟨trivial, ?_⟩; show _ + _ ≤ 1073741824; omega) | (rw [hzpl]; show _ + _ ≤ 1073741824; omega) | ((exact ⟨Int.natCast_nonneg N, hmk⟩)) | ((rw [hzpl]; show sK k + 1 ≤ 1073741824; rw [hsE k]; omega))))
  | (((with_reducible apply go_callX 4 (f := 27) (hf := Tryz.call27)); (· intro S; cbv; try rfl); (· intro wc S hbc hxc hrc; exact h1 wc hbc); (· intro A; rfl); (· intro A; rfl); (· rfl); (· rfl); (· trivial); (· exact hc4); (· intro A; exact ⟨fun j hj => rfl, trivial⟩); (· intro A p i j hj; exact tp ln A p i j hj); (intro A1 hnew1)))
  | ((with_reducible apply go_callR (f := 71) (hf := Tryz.call71)); (· intro S; cbv; try rfl); (· intro wc S hbc hxc hrc; exact h5 wc hbc); (· rfl))
  | ((with_reducible apply go_callR (f := 45) (hf := Tryz.call45)); (· intro S; cbv; try rfl); (· intro wc S hbc hxc hrc; exact h6 wc hbc); (· rfl))
  | ((with_reducible apply go_call (f := 46) (hf := Tryz.call46)); (· (cbv; try rfl)); (· intro wc hbc hxc; exact h8 wc hbc))
  | (((with_reducible refine go_loopX (σ := {x : Nat × AdF // x.1 ≤ P}) (fun x => chiG (funX ⟨pa, un, lA, ln, lc, lk, lt, bA, bn, bc, sA, sn, sc, s, jA, jn, jc, ja, jk, jo, jf, jx, je, jd⟩) 4 (tg (sK x.1.1) x.1.2)) [6, 8, 9, 11, 12, 13, 14, 15, 16, 17, 18, 19, 20, 21, 22, 23] (fun x => [(5, .pt (.one (.int .i64 (.ofNat x.1.1))))]) (fun x => []) (fun x => [(0, ⟨sK x.1.1, 1, fun j => [.val (.slice (x.1.2 j).1 N (x.1.2 j).2)]⟩)]) (fun x => P - x.1.1) ⟨(0, A1), Nat.zero_le _⟩ (by rw [hs0K]) rfl ?_ ?_ ?_ ?_); (· (refine le_mk ?_ ?_ ?_ ?_ <;> (cbv; (try simp only [true_and, and_true]); (try ((repeat' apply And.intro) <;> (first | trivial | rfl | exact RowLe.rfl' _ | (rw [hs0K]; exact RowLe.rfl' _))))))); (· (cbv; try rfl)); (· simp); (rintro ⟨⟨k, A⟩, hk0⟩ mm hmm); (have hk : k ≤ P := hk0)))
  | ((refine go_again (go_freeze 2 0 (sK k) (fun a cap => th (sK k) A (a, cap)) (R := ⟨N, 1, fun x => [.bool (ox (sK k) x)]⟩) rfl (hfz k) rfl (fun v => rfl) ⟨fun _ _ => rfl, fun _ _ => rfl, trivial⟩ (fun j hj => rfl) hc4 (fun p j x h => tp (sK k) A p j x h) (tz (sK k) A) (fun a cap p' i' h => k3 (sK k) A a cap p' i' h) (fun a cap => k4 (sK k) A a cap) (fun a1 c1 hn1 => ?_))))
  | (((with_reducible refine go_stopX (⟨(k + 1, tu A (sK k) (a1, c1)), Nat.succ_le_of_lt (by assumption)⟩ : {x : Nat × AdF // x.1 ≤ P}) (by (show _ = chiG _ 4 (tg (sK (k + 1)) (tu A (sK k) (a1, c1)))); rw [hup, hs1K]) ?_ ?_ ?_ ?_); (· exact Nat.lt_of_lt_of_eq (show P - (k + 1) < P - k by omega) (Eq.symm (by assumption))); (· (refine le_mk ?_ ?_ ?_ ?_ <;> (cbv; (try simp only [true_and, and_true]); (try ((repeat' apply And.intro) <;> (first | trivial | rfl | exact RowLe.rfl' _ | (rw [wrap_nat har _ (by omega)]) | (exact hsn _ _ _ _))))))); (· (cbv; try rfl)); (· simp)))
  | (((with_reducible apply go_callX 5 (f := 108) (hf := Tryz.call108)); (· intro S; cbv; try rfl); (· intro wc S hbc hxc hrc; exact h7 wc k (by omega) _ _ A hxc (hrc 0 _ rfl) (hrc 2 _ rfl)); (· intro A; rfl); (· intro A; rfl); (· rfl); (· rfl); (· exact ⟨fun _ _ => rfl, fun _ _ => rfl, fun _ _ => rfl, trivial⟩); (· exact hc5 _ _); (· intro A; exact ⟨fun j hj => rfl, trivial⟩); (· intro A p i j hj; exact rrG_plain p i j hj); (intro A2 hnew2)))
  | (((with_reducible apply go_ret_famsN hT A2); (· (cbv; try rfl)); (· (cbv; try rfl)); (· (cbv; (try simp only [true_and, and_true]); (try ((repeat' apply And.intro) <;> (first | trivial | rfl | decide))))); (· (cbv; (try simp only [true_and, and_true]); (try ((repeat' apply And.intro) <;> (first | trivial | rfl | exact RowLe.rfl' _))))); (· rfl); (· exact fun p j x h => rrG_plain p j x h); (· exact fun p j h => hnew2 p j h); (· exact ⟨fun _ _ => rfl, trivial⟩); (· rfl)))
  | fail)
 all_goals trace_state
set_option maxHeartbeats 4000000 in
theorem rregionsC (F : GFun) (w : World) (hF : F.At w) (hK : F.Ty8) (hO : F.Ok) :
 Calls Tryz.prog 40 #[F.val] w (RetX w (fun _ : AdF => .tup [.one (.rs 0), .one (.int .i64 0)]) (fun A => [⟨regN F, 1, fun j => [.val (.slice (A j).1 (stN F.sn F.bn) (A j).2)]⟩]) (fun A => rrG A (nnN (regN F) (stN F.sn F.bn)) (regF F))) := by
 have h1 (wc : World) (hk : KB ⟨w, []⟩ wc) := rFnChk F wc (hF.later hk) hK
 rw [rchk_eq, show fchkV F = 0 from hO] at h1
 have h20 (wc : World) (hk : KB ⟨w, []⟩ wc) := rfound20C F wc (hF.later hk) hK hO
 obtain ⟨rN, hrN⟩ : ∃ x, x = regN F := ⟨_, rfl⟩
 obtain ⟨N, hN⟩ : ∃ N, N = stN F.sn F.bn := ⟨_, rfl⟩
 obtain ⟨rf, hrf⟩ : ∃ f : Nat → Nat → Bool, f = regF F := ⟨_, rfl⟩
 obtain ⟨nr, hnr⟩ : ∃ f : Nat → Nat, f = nnN (regN F) (stN F.sn F.bn) := ⟨_, rfl⟩
 have h2 (wc : World) (hk : KB ⟨w, []⟩ wc) : Calls Tryz.prog 77 #[F.val] wc (RetX wc (fun _ : AdF => .pt (.one (.rs 0))) (fun A => [⟨rN, 1, fun j => [.val (.slice (A j).1 N (A j).2)]⟩]) (fun A => rrG A nr rf)) := by
  rw [hnr, hrf, hrN, hN]; exact h20 wc hk
 rw [← hnr, ← hrf, ← hrN, ← hN]
 clear h20 hnr hrf hrN hN hO hK
 obtain ⟨pa, un, lA, ln, lc, lk, lt, bA, bn, bc, sA, sn, sc, s, jA, jn, jc, ja, jk, jo, jf, jx, je, jd⟩ := F
 obtain ⟨hX, hl, hb, hs, hj⟩ := hF
 simp only at hl hb hs hj
 refine go_start (args := [.pt (.agg (GFun.dat ⟨pa, un, lA, ln, lc, lk, lt, bA, bn, bc, sA, sn, sc, s, jA, jn, jc, ja, jk, jo, jf, jx, je, jd⟩))]) (c := (funX ⟨pa, un, lA, ln, lc, lk, lt, bA, bn, bc, sA, sn, sc, s, jA, jn, jc, ja, jk, jo, jf, jx, je, jd⟩)) Tryz.func40 rfl hX rfl rfl ?_
 obtain ⟨nd, hnd, nt, hnt, ar, har, cm, hcm, mx, hmx, mn, hmn, ar01, ar12, zpl, hzpl, zjn, hzjn, zup, hzup, zmi, hzmi, zdp, hzdp, hT⟩ := t0_all
 have hc4 : ∀ q i j, q < 4 → j < (funX ⟨pa, un, lA, ln, lc, lk, lt, bA, bn, bc, sA, sn, sc, s, jA, jn, jc, ja, jk, jo, jf, jx, je, jd⟩ q i).n → qbL 4 ((funX ⟨pa, un, lA, ln, lc, lk, lt, bA, bn, bc, sA, sn, sc, s, jA, jn, jc, ja, jk, jo, jf, jx, je, jd⟩ q i).el j) = true := fun q i j hq hj => by
  match q, hq with
  | 0, _ => rfl
  | 1, _ => rfl
  | 2, _ => rfl
  | 3, _ => rfl
 repeat' (first
  | refine go1 ?_ | refine gobn ?_
  | ((with_reducible apply go_call (f := 36) (hf := Tryz.call36)); (· (cbv; try rfl)); (· intro wc hbc hxc; exact h1 wc hbc))
  | (((with_reducible apply go_callX 4 (f := 77) (hf := Tryz.call77)); (· intro S; cbv; try rfl); (· intro wc S hbc hxc hrc; exact h2 wc hbc); (· intro A; rfl); (· intro A; rfl); (· rfl); (· rfl); (· trivial); (· exact hc4); (· intro A; exact ⟨fun j hj => rfl, trivial⟩); (· intro A p i j hj; exact rrG_plain p i j hj); (intro A2 hnew2)))
  | (((with_reducible apply go_ret_famsN hT A2); (· (cbv; try rfl)); (· (cbv; try rfl)); (· (cbv; (try simp only [true_and, and_true]); (try ((repeat' apply And.intro) <;> (first | trivial | rfl | decide))))); (· (cbv; (try simp only [true_and, and_true]); (try ((repeat' apply And.intro) <;> (first | trivial | rfl | exact RowLe.rfl' _))))); (· rfl); (· exact fun p j x h => rrG_plain p j x h); (· exact fun p j h => hnew2 p j h); (· exact ⟨fun _ _ => rfl, trivial⟩); (· rfl)))
  | fail)
 all_goals trace_state
set_option maxHeartbeats 4000000 in
theorem rregionsBad (F : GFun) (w : World) (hF : F.At w) (hK : F.Ty8) (hz : rchkV F ≠ 0) :
 Calls Tryz.prog 40 #[F.val] w (Ret w (.tuple #[.slice none 0 0, .int .i64 (rchkV F)])) := by
 have h1 (wc : World) (hk : KB ⟨w, []⟩ wc) := rFnChk F wc (hF.later hk) hK
 generalize rchkV F = z at h1 hz ⊢
 have hq : decide (z = 0) = false := decide_eq_false hz
 clear hz hK
 obtain ⟨pa, un, lA, ln, lc, lk, lt, bA, bn, bc, sA, sn, sc, s, jA, jn, jc, ja, jk, jo, jf, jx, je, jd⟩ := F
 obtain ⟨hX, hl, hb, hs, hj⟩ := hF
 simp only at hl hb hs hj
 refine go_start (args := [.pt (.agg (GFun.dat _))]) (c := (funX _)) Tryz.func40 rfl hX rfl rfl ?_
 obtain ⟨nd, hnd, nt, hnt, ar, har, cm, hcm, mx, hmx, mn, hmn, ar01, ar12, zpl, hzpl, zjn, hzjn, zup, hzup, zmi, hzmi, zdp, hzdp, hT⟩ := t0_all
 repeat' (first
  | refine go1 ?_ | refine gobn ?_
  | ((with_reducible apply go_call (f := 36) (hf := Tryz.call36)); (· (cbv; try rfl)); (· intro wc hbc hxc; exact h1 wc hbc))
  | fail)
 all_goals rfl
set_option maxHeartbeats 8000000 in
theorem regionsL (F : GFun) (w : World) (hF : F.At w) (hK : F.Ty8) (hD : F.Fd) :
 Calls Tryz.prog 6 #[F.val] w (Ret w (.bool true)) := by
 have h1 (wc : World) (hk : KB ⟨w, []⟩ wc) := greatC F wc (hF.later hk)
 have h2 (wc : World) (hk : KB ⟨w, []⟩ wc) := gfC F wc (hF.later hk)
 generalize greatB F = q1 at h1
 generalize gfB F = q2 at h2
 by_cases hO : fchkV F = 0
 case neg =>
  have h3 (wc : World) (hk : KB ⟨w, []⟩ wc) := regionsBad F wc (hF.later hk) hO
  have h4 (wc : World) (hk : KB ⟨w, []⟩ wc) := rregionsBad F wc (hF.later hk) hK (by rw [rchk_eq]; exact hO)
  rw [rchk_eq] at h4
  generalize fchkV F = z at h3 h4
  clear hK hO hD
  obtain ⟨pa, un, lA, ln, lc, lk, lt, bA, bn, bc, sA, sn, sc, s, jA, jn, jc, ja, jk, jo, jf, jx, je, jd⟩ := F
  obtain ⟨hX, hl, hb, hs, hj⟩ := hF
  simp only at hl hb hs hj
  refine go_start (args := [.pt (.agg (GFun.dat _))]) (c := (funX _)) Tryz.func6 rfl hX rfl rfl ?_
  obtain ⟨nd, hnd, nt, hnt, ar, har, cm, hcm, mx, hmx, mn, hmn, ar01, ar12, zpl, hzpl, zjn, hzjn, zup, hzup, zmi, hzmi, zdp, hzdp, hT⟩ := t0_all
  repeat' (first
   | refine go1 ?_ | refine gobt ?_ | refine go2 (fun h => ?_) (fun h => ?_)
   | ((with_reducible apply go_call_bool (f := 24) (hf := Tryz.call24)); (· (cbv; try rfl)); (· intro wc hbc hxc; exact h1 wc hbc); intro z hz)
   | ((with_reducible apply go_call_bool (f := 25) (hf := Tryz.call25)); (· (cbv; try rfl)); (· intro wc hbc hxc; exact h2 wc hbc); intro z hz)
   | ((with_reducible apply go_call (f := 39) (hf := Tryz.call39)); (· (cbv; try rfl)); (· intro wc hbc hxc; exact h3 wc hbc))
   | ((with_reducible apply go_call (f := 40) (hf := Tryz.call40)); (· (cbv; try rfl)); (· intro wc hbc hxc; exact h4 wc hbc))
   | ((with_reducible apply go_call (f := 30) (hf := Tryz.call30)); (· (cbv; try rfl)); (· intro wc hbc hxc; exact sameAllN wc))
   | fail)
  all_goals (refine bool_eq ?_; simp_all)
 have hO : F.Ok := hO
 have h30 (wc : World) (hk : KB ⟨w, []⟩ wc) := regionsC F wc (hF.later hk) hO hD
 have h40 (wc : World) (hk : KB ⟨w, []⟩ wc) := rregionsC F wc (hF.later hk) hK hO
 have hN9 := hO.pts
 have hR9 := (regN_le hO).2
 obtain ⟨rN, hrN⟩ : ∃ x, x = regN F := ⟨_, rfl⟩
 obtain ⟨N, hN⟩ : ∃ N, N = stN F.sn F.bn := ⟨_, rfl⟩
 obtain ⟨ow, how⟩ : ∃ f : Nat → Nat → Bool, f = regF F := ⟨_, rfl⟩
 obtain ⟨nn, hnn⟩ : ∃ f : Nat → Nat, f = nnN (regN F) (stN F.sn F.bn) := ⟨_, rfl⟩
 have hnl : ∀ i, i < rN → nn i = N := fun i hi => by rw [hnn, hN]; exact nnN_lt (hrN ▸ hi)
 have h3 (wc : World) (hk : KB ⟨w, []⟩ wc) : Calls Tryz.prog 39 #[F.val] wc (RetX wc (fun _ : AdF => .tup [.one (.rs 0), .one (.int .i64 0)]) (fun A => [⟨rN, 1, fun j => [.val (.slice (A j).1 N (A j).2)]⟩]) (fun A => rrG A nn ow)) := by
  rw [hnn, how, hN, hrN]; exact h30 wc hk
 have h4 (wc : World) (hk : KB ⟨w, []⟩ wc) : Calls Tryz.prog 40 #[F.val] wc (RetX wc (fun _ : AdF => .tup [.one (.rs 0), .one (.int .i64 0)]) (fun A => [⟨rN, 1, fun j => [.val (.slice (A j).1 N (A j).2)]⟩]) (fun A => rrG A nn ow)) := by
  rw [hnn, how, hN, hrN]; exact h40 wc hk
 rw [← hN] at hN9
 rw [← hrN] at hR9
 clear h30 h40 hN how hnn hrN hO hK hD
 obtain ⟨pa, un, lA, ln, lc, lk, lt, bA, bn, bc, sA, sn, sc, s, jA, jn, jc, ja, jk, jo, jf, jx, je, jd⟩ := F
 obtain ⟨hX, hl, hb, hs, hj⟩ := hF
 simp only at hl hb hs hj
 try simp only at h1 h2 h3 h4
 refine go_start (args := [.pt (.agg (GFun.dat ⟨pa, un, lA, ln, lc, lk, lt, bA, bn, bc, sA, sn, sc, s, jA, jn, jc, ja, jk, jo, jf, jx, je, jd⟩))]) (c := (funX ⟨pa, un, lA, ln, lc, lk, lt, bA, bn, bc, sA, sn, sc, s, jA, jn, jc, ja, jk, jo, jf, jx, je, jd⟩)) Tryz.func6 rfl hX rfl rfl ?_
 obtain ⟨nd, hnd, nt, hnt, ar, har, cm, hcm, mx, hmx, mn, hmn, ar01, ar12, zpl, hzpl, zjn, hzjn, zup, hzup, zmi, hzmi, zdp, hzdp, hT⟩ := t0_all
 have hc4 : ∀ q i j, q < 4 → j < (funX ⟨pa, un, lA, ln, lc, lk, lt, bA, bn, bc, sA, sn, sc, s, jA, jn, jc, ja, jk, jo, jf, jx, je, jd⟩ q i).n → qbL 4 ((funX ⟨pa, un, lA, ln, lc, lk, lt, bA, bn, bc, sA, sn, sc, s, jA, jn, jc, ja, jk, jo, jf, jx, je, jd⟩ q i).el j) = true := fun q i j hq hj => by
  match q, hq with
  | 0, _ => rfl
  | 1, _ => rfl
  | 2, _ => rfl
  | 3, _ => rfl
 have hc5 : ∀ (A : AdF) q i j, q < 5 → j < (chiG (funX ⟨pa, un, lA, ln, lc, lk, lt, bA, bn, bc, sA, sn, sc, s, jA, jn, jc, ja, jk, jo, jf, jx, je, jd⟩) 4 (rrG A nn ow) q i).n → qbL 5 ((chiG (funX ⟨pa, un, lA, ln, lc, lk, lt, bA, bn, bc, sA, sn, sc, s, jA, jn, jc, ja, jk, jo, jf, jx, je, jd⟩) 4 (rrG A nn ow) q i).el j) = true := fun A q i j hq hj => by
  match q, hq with
  | 0, _ => rfl
  | 1, _ => rfl
  | 2, _ => rfl
  | 3, _ => rfl
  | 4, _ => rfl
 have h7 (wc : World) (A1 A2 : AdF) (v v' : Value) (hx : XOk ⟨[], chiG (chiG (funX ⟨pa, un, lA, ln, lc, lk, lt, bA, bn, bc, sA, sn, sc, s, jA, jn, jc, ja, jk, jo, jf, jx, je, jd⟩) 4 (rrG A1 nn ow)) 5 (rrG A2 nn ow), []⟩ ⟨wc, []⟩) :=
  sameAllX rN N ow (by omega) (by omega) A1 A2 _ wc v v' hx (fun j hj => ⟨4, j, by rw [← hnl j hj]; rfl⟩) (fun j hj => ⟨5, j, by rw [← hnl j hj]; rfl⟩)
 repeat' (first
  | refine go1 ?_ | refine gobt ?_ | refine go2 (fun h => ?_) (fun h => ?_)
  | ((with_reducible apply go_call_bool (f := 24) (hf := Tryz.call24)); (· (cbv; try rfl)); (· intro wc hbc hxc; exact h1 wc hbc); intro z hz)
  | ((with_reducible apply go_call_bool (f := 25) (hf := Tryz.call25)); (· (cbv; try rfl)); (· intro wc hbc hxc; exact h2 wc hbc); intro z hz)
  | (((with_reducible apply go_callX 4 (f := 39) (hf := Tryz.call39)); (· intro S; cbv; try rfl); (· intro wc S hbc hxc hrc; exact h3 wc hbc); (· intro A; rfl); (· intro A; rfl); (· rfl); (· rfl); (· trivial); (· exact hc4); (· intro A; exact ⟨fun j hj => rfl, trivial⟩); (· intro A p i j hj; exact rrG_plain p i j hj); (intro A1 hnew1)))
  | (((with_reducible apply go_callX 5 (f := 40) (hf := Tryz.call40)); (· intro S; cbv; try rfl); (· intro wc S hbc hxc hrc; exact h4 wc hbc); (· intro A; rfl); (· intro A; rfl); (· rfl); (· rfl); (· exact ⟨fun _ _ => rfl, trivial⟩); (· exact hc5 A1); (· intro A; exact ⟨fun j hj => rfl, trivial⟩); (· intro A p i j hj; exact rrG_plain p i j hj); (intro A2 hnew2)))
  | ((with_reducible apply go_callRv (f := 30) (hf := Tryz.call30)); (· intro S; cbv; try rfl); (· intro wc S hbc hxc hrc; exact h7 wc A1 A2 _ _ hxc (hrc 0 _ rfl) (hrc 1 _ rfl)))
  | fail)
 all_goals first | rfl | (refine bool_eq ?_; simp_all) | trace_state
end Go.Proofs.YtmceonmlgcbcmaaGreat
