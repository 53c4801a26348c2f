/- Layer 19: the reference's answers; ConstrainFinds, the walk. No condition. -/
import Derived.Test.YtmceonmlgcbcmaaGreatCnA
import Derived.Test.YtmceonmlgcbcmaaGreatCnD
import Derived.Test.YtmceonmlgcbcmaaGreatW3
import Derived.Test.YtmceonmlgcbcmaaGreatW1
import Derived.Test.YtmceonmlgcbcmaaGreatSvD
namespace Go.Proofs.YtmceonmlgcbcmaaGreat
set_option maxRecDepth 100000
open Go.RowKit
set_option linter.unusedVariables false
set_option linter.unusedSimpArgs false
theorem wCnE_0 {p : Prop} (h : p := by (first | (cbv; (try simp only [true_and, and_true]); (try ((repeat' apply And.intro) <;> (first | trivial | rfl | exact RowLe.rfl' _ | decide | (rw [wrap_nat har _ (by omega)]; done) | ((exact rowLe_of rfl (fun j hj => ⟨by rw [hz (by assumption) j]; rfl, trivial⟩))) | fail))); done) | fail)) : Pf p := ⟨h⟩
set_option maxHeartbeats 4000000 in
theorem own19C (F : GFun) (w : World) (hF : F.At w) (hO : F.Ok) (L : Nat) (hL : L < F.ln) :
 Calls Tryz.prog 69 #[F.val, .int .i64 (.ofNat L)] w (RetR w (funX F) (.pt (.one (.rs 0))) [⟨stN F.sn F.bn, 1, fun j => [.bool (ownB F L j)]⟩]) := by
 have h1 (wc : World) (hk : KB ⟨w, []⟩ wc) := rRef19C F (.ofNat L) wc (hF.later hk) (Int.natCast_nonneg L) (Int.ofNat_lt.2 hL)
 have h20 (wc : World) (hk : KB ⟨w, []⟩ wc) := rLives16C F wc (hF.later hk) hO L hL
 have h3 (wc : World) (hk : KB ⟨w, []⟩ wc) := sizeC F wc (hF.later hk) hO.small
 have hN9 := hO.pts
 obtain ⟨N, hN⟩ : ∃ N, N = stN F.sn F.bn := ⟨_, rfl⟩
 obtain ⟨ow, how⟩ : ∃ f : Nat → Bool, f = ownB F L := ⟨_, rfl⟩
 obtain ⟨rk, hrk⟩ : ∃ b : Bool, b = isRef (F.lk L) := ⟨_, rfl⟩
 have h1 (wc : World) (hk : KB ⟨w, []⟩ wc) : Calls Tryz.prog 47 #[F.val, .int .i64 (.ofNat L)] wc (Ret wc (.bool rk)) := by rw [hrk]; exact h1 wc hk
 have h2 (wc : World) (hk : KB ⟨w, []⟩ wc) (hr : rk = true) : Calls Tryz.prog 97 #[F.val, .int .i64 (.ofNat L)] wc (RetR wc (funX F) (.pt (.one (.rs 0))) [⟨N, 1, fun j => [.bool (ow j)]⟩]) := by
  have e : ow = (liveG F).liB L := by
   rw [how]; funext j
   unfold ownB
   rw [show isRefK (F.lk L) = true from by rw [hrk] at hr; exact hr, Bool.true_and]
  rw [hN, e]; exact h20 wc hk
 have hz : rk = false → ∀ j, ow j = false := fun hr j => by
  rw [how]; unfold ownB
  rw [show isRefK (F.lk L) = false from by rw [hrk] at hr; exact hr]; rfl
 rw [← hN] at h3 hN9 ⊢
 rw [← how]
 clear h20 how hrk hN hO hL
 obtain ⟨pa, un, lA, ln, lc, lk, lt, bA, bn, bc, sA, sn, sc, s, jA, jn, jc, ja, jk, jo, jf, jx, je, jd⟩ := F
 obtain ⟨hX, hl, hb, hs, hj⟩ := hF
 simp only at hl hb hs hj
 refine go_start (args := [.pt (.agg (GFun.dat _)), .pt (.one (.int .i64 (.ofNat L)))]) (c := (funX _)) Tryz.func69 rfl hX rfl rfl ?_
 obtain ⟨nd, hnd, nt, hnt, ar, har, cm, hcm, mx, hmx, mn, hmn, ar01, ar12, zpl, hzpl, zjn, hzjn, zup, hzup, zmi, hzmi, zdp, hzdp, hT⟩ := t0_all
 repeat' (first
  | refine go1 ?_ | refine go2 (fun h => ?_) (fun h => ?_)
  | ((with_reducible apply go_ret_rowsP hT); (· (cbv; try rfl)); (· (cbv; try rfl)); (· exact wCnE_0); (· exact wCnE_0); (· rfl))
  | ((with_reducible refine go_ob ?_ ?_); (· first | trivial | (refine ⟨trivial, ?_⟩; omega) | (rw [hzpl]; refine ⟨trivial, ?_⟩; show _ + _ ≤ 1073741824; omega) | (rw [hzpl]; show _ + _ ≤ 1073741824; omega) | ((exact ⟨Int.natCast_nonneg N, (show (N : Int) ≤ 1073741824 by omega)⟩))))
  | ((with_reducible apply go_call (f := 47) (hf := Tryz.call47)); (· (cbv; try rfl)); (· intro wc hbc hxc; exact h1 wc hbc))
  | ((with_reducible apply go_call (f := 46) (hf := Tryz.call46)); (· (cbv; try rfl)); (· intro wc hbc hxc; exact h3 wc hbc))
  | ((with_reducible apply go_callR (f := 97) (hf := Tryz.call97)); (· intro S; cbv; try rfl); (· intro wc S hbc hxc hrc; exact h2 wc hbc (by assumption)); (· rfl))
  | fail)
 all_goals trace_state

set_option maxHeartbeats 8000000 in
theorem rlives19C (F : GFun) (w : World) (hF : F.At w) (hK : F.Ty8) (hO : F.Ok) :
 Calls Tryz.prog 27 #[F.val] w (RetX w (fun _ : AdF => .tup [.one (.rs 0), .one (.int .i64 0)]) (fun A => [⟨F.ln, 1, fun j => [.val (.slice (A j).1 (stN F.sn F.bn) (A j).2)]⟩]) (fun A => rrG A (nnN F.ln (stN F.sn F.bn)) (ownB F))) := by
 have h1 (wc : World) (hk : KB ⟨w, []⟩ wc) := rFnChk F wc (hF.later hk) hK
 rw [rchk_eq, show fchkV F = 0 from hO] at h1
 have h20 (wc : World) (hk : KB ⟨w, []⟩ wc) (L : Nat) (hL : L < F.ln) := own19C F wc (hF.later hk) hO L hL
 have hl16 := hO.ln16
 have hN0 := pts_pos hO
 obtain ⟨N, hN⟩ : ∃ N, N = stN F.sn F.bn := ⟨_, rfl⟩
 obtain ⟨ow, how⟩ : ∃ f : Nat → Nat → Bool, f = ownB F := ⟨_, rfl⟩
 obtain ⟨tg, th, tu, htg, t0, tp, tz, h3, h4, hup, hu1, hu2, huN, tN⟩ := famLetters N ow
 have h2 (wc : World) (hk : KB ⟨w, []⟩ wc) {c : Nat → Nat → Row} (L : Nat) (hL : L < F.ln) : Calls Tryz.prog 69 #[F.val, .int .i64 (.ofNat L)] wc (RetR wc c (.pt (.one (.rs 0))) [⟨N, 1, fun j => [.bool (ow L j)]⟩]) := by
  rw [hN, how]; exact Calls.to (c' := c) ⟨fun _ _ => rfl, trivial⟩ rfl (h20 wc hk L hL)
 have hG : (fun A : AdF => rrG A (nnN F.ln N) ow) = fun A => tg F.ln A := by rw [htg]
 rw [← hN, ← how, hG]
 rw [← hN] at hN0
 clear hG htg h20 hN how hO hK
 obtain ⟨pa, un, lA, ln, lc, lk, lt, bA, bn, bc, sA, sn, sc, s, jA, jn, jc, ja, jk, jo, jf, jx, je, jd⟩ := F
 obtain ⟨hX, hl, hb, hs, hj⟩ := hF
 simp only at hl hb hs hj
 simp only at h1 h2 hl16
 refine go_start (args := [.pt (.agg (GFun.dat ⟨pa, un, lA, ln, lc, lk, lt, bA, bn, bc, sA, sn, sc, s, jA, jn, jc, ja, jk, jo, jf, jx, je, jd⟩))]) (c := (funX ⟨pa, un, lA, ln, lc, lk, lt, bA, bn, bc, sA, sn, sc, s, jA, jn, jc, ja, jk, jo, jf, jx, je, jd⟩)) Tryz.func27 rfl hX rfl rfl ?_
 obtain ⟨nd, hnd, nt, hnt, ar, har, cm, hcm, mx, hmx, mn, hmn, ar01, ar12, zpl, hzpl, zjn, hzjn, zup, hzup, zmi, hzmi, zdp, hzdp, hT⟩ := t0_all
 have hc4 : ∀ q i j, q < 4 → j < (funX ⟨pa, un, lA, ln, lc, lk, lt, bA, bn, bc, sA, sn, sc, s, jA, jn, jc, ja, jk, jo, jf, jx, je, jd⟩ q i).n → qbL 4 ((funX ⟨pa, un, lA, ln, lc, lk, lt, bA, bn, bc, sA, sn, sc, s, jA, jn, jc, ja, jk, jo, jf, jx, je, jd⟩ q i).el j) = true := fun q i j hq hj => by
  match q, hq with
  | 0, _ => rfl
  | 1, _ => rfl
  | 2, _ => rfl
  | 3, _ => rfl
 refine go_famZ 4 t0 rfl rfl trivial (funX_qb _) ?_
 have hz0 : (0 : Nat) ≤ ln ∧ ∀ j : Nat, NewA w ((fun _ => ((none : Option Addr), 0) : AdF) j).1 := ⟨Nat.zero_le _, fun j b p h => (by cases h)⟩
 have hsn : ∀ i (A : AdF) (a : Option Addr) (cap : Nat), RowLe ⟨zpl i 1, 1, zjn i (fun j => [.val (.slice (A j).1 N (A j).2)]) (fun j => cutL [.val (.slice a N cap)] (0 + j * 1) 1)⟩ ⟨i + 1, 1, fun j => [.val (.slice (tu A i (a, cap) j).1 N (tu A i (a, cap) j).2)]⟩ := fun i A a cap => by
  refine rowLe_snoc hzpl hzjn rfl (fun j hj => ?_) ?_
  · rw [hu1 A i _ j hj]; exact leCL_rfl _
  · rw [hu2]; exact leCL_rfl _
 repeat' (first
  | refine go1 ?_ | refine gobn ?_ | refine go3 (fun hlt => ?_) (fun hge => ?_)
  | ((with_reducible refine go_ob ?_ ?_); (· first | trivial | (refine ⟨trivial, ?_⟩; omega) | (rw [hzpl]; refine ⟨trivial, ?_⟩; show _ + _ ≤ 1073741824; omega) | (rw [hzpl]; show _ + _ ≤ 1073741824; omega) | ((rw [hzpl]; show i + 1 ≤ 1073741824; omega))))
  | ((with_reducible apply go_call (f := 36) (hf := Tryz.call36)); (· (cbv; try rfl)); (· intro wc hbc hxc; exact h1 wc hbc))
  | ((with_reducible apply go_callR (f := 69) (hf := Tryz.call69)); (· intro S; cbv; try rfl); (· intro wc S hbc hxc hrc; exact h2 wc hbc i (by assumption)); (· rfl))
  | ((with_reducible apply go_row 5 1); (· (cbv; try rfl)))
  | (((with_reducible refine go_loopX (σ := {x : Nat × AdF // x.1 ≤ ln ∧ ∀ j, NewA w (x.2 j).1}) (fun x => chiG (funX ⟨pa, un, lA, ln, lc, lk, lt, bA, bn, bc, sA, sn, sc, s, jA, jn, jc, ja, jk, jo, jf, jx, je, jd⟩) 4 (tg x.1.1 x.1.2)) [12, 13, 14, 15, 16, 17, 18, 19, 20, 21, 22, 23, 24] (fun x => [(6, .pt (.one (.int .i64 (.ofNat x.1.1))))]) (fun x => []) (fun x => [(0, ⟨x.1.1, 1, fun j => [.val (.slice (x.1.2 j).1 N (x.1.2 j).2)]⟩)]) (fun x => ln - x.1.1) ⟨(0, fun _ => (none, 0)), hz0⟩ rfl rfl ?_ ?_ ?_ ?_); (· (refine le_mk ?_ ?_ ?_ ?_ <;> (cbv; (try simp only [true_and, and_true]); (try ((repeat' apply And.intro) <;> (first | trivial | rfl | exact RowLe.rfl' _ | exact rowLe_of rfl (fun j hj => absurd hj (Nat.not_lt_zero _))))))))  ; (· (cbv; try rfl)); (· simp); (rintro ⟨⟨i, A⟩, hi, hA⟩ mm hmm)))
  | ((refine go_again (go_freeze 1 0 i (fun a cap => th i A (a, cap)) (R := ⟨N, 1, fun k => [.bool (ow i k)]⟩) rfl (RowLe.rfl' _) rfl (fun v => rfl) ⟨fun _ _ => rfl, trivial⟩ (fun j hj => rfl) hc4 (fun p j k h => tp i A p j k h) (tz i A) (fun a cap p' i' h => h3 i A a cap p' i' h) (fun a cap => h4 i A a cap) (fun a1 c1 hn1 => ?_))))
  | (((with_reducible refine go_stopX (⟨(i + 1, tu A i (a1, c1)), Nat.succ_le_of_lt (by assumption), huN hA hn1⟩ : {x : Nat × AdF // x.1 ≤ ln ∧ ∀ j, NewA w (x.2 j).1}) (by rw [hup]) ?_ ?_ ?_ ?_); (· exact Nat.lt_of_lt_of_eq (show ln - (i + 1) < ln - i by omega) (Eq.symm (by assumption))); (· (refine le_mk ?_ ?_ ?_ ?_ <;> (cbv; (try simp only [true_and, and_true]); (try ((repeat' apply And.intro) <;> (first | trivial | rfl | exact RowLe.rfl' _ | (rw [wrap_nat har _ (by omega)]) | (exact hsn _ _ _ _))))))); (· (cbv; try rfl)); (· simp)))
  | (((have hi_ : i ≤ ln := hi); (have e_ : i = ln := (by omega)); (subst e_); (with_reducible apply go_ret_fams hT A); (· (cbv; try rfl)); (· (cbv; try rfl)); (· (cbv; (try simp only [true_and, and_true]); (try ((repeat' apply And.intro) <;> (first | trivial | rfl | decide))))); (· (cbv; (try simp only [true_and, and_true]); (try ((repeat' apply And.intro) <;> (first | trivial | rfl | exact RowLe.rfl' _))))); (· rfl); (· exact fun p j k h => tp i A p j k h); (· exact fun p j => tN hA p j); (· exact ⟨fun _ _ => rfl, trivial⟩); (· rfl)))
  | fail)
 all_goals trace_state
theorem wCnE_5 {p : Prop} (h : p := by (first | (cbv; (try simp only [true_and, and_true]); (try ((repeat' apply And.intro) <;> (first | trivial | rfl | exact RowLe.rfl' _ | decide | (rw [wrap_nat har _ (by omega)]; done) | ((rw [hin k (hk3 k (by assumption))]; done)) | ((refine rowLe_of (by rw [x0, hln]; rfl) (fun j hj => absurd hj (Nat.not_lt_zero _)))) | ((exact hj1 n k (by assumption))) | ((rw [x2 n k (by assumption)]; exact RowLe.rfl' _)) | ((rw [← x3 n, ← hk4 k hk (by assumption)]; exact RowLe.rfl' _)) | ((have haN : n = N := (by omega); subst haN; exact RowLe.rfl' _)) | fail))); done) | fail)) : Pf p := ⟨h⟩
set_option maxHeartbeats 4000000 in
theorem found19C (F : GFun) (w : World) (hF : F.At w) (hO : F.Ok) :
 Calls Tryz.prog 71 #[F.val] w (RetR w (funX F) (.pt (.one (.rs 0))) [conR (allCon F)]) := by
 have h1 (wc : World) (hk : KB ⟨w, []⟩ wc) := sizeC F wc (hF.later hk) hO.small
 have h20 (wc : World) (hk : KB ⟨w, []⟩ wc) (n : Nat) (hn : n < stN F.sn F.bn) (k : Nat) (hk3 : k < 3) := why19C F n wc (hF.later hk) hO hn k hk3
 have hN9 := hO.pts
 rw [allCon_to]
 obtain ⟨N, hN⟩ : ∃ N, N = stN F.sn F.bn := ⟨_, rfl⟩
 obtain ⟨X, hXX⟩ : ∃ f : Nat → Nat → List KCon, f = fun n k => conTo F n ++ whL F n k := ⟨_, rfl⟩
 obtain ⟨wb, hwb⟩ : ∃ f : Nat → Nat → Bool, f = fun n k => (whV F n k).2 := ⟨_, rfl⟩
 obtain ⟨kk, hkk⟩ : ∃ f : Nat → Nat → KCon, f = fun n k => (whV F n k).1 := ⟨_, rfl⟩
 obtain ⟨ln_, hln⟩ : ∃ f : List KCon → Nat, f = List.length := ⟨_, rfl⟩
 obtain ⟨gt_, hgt⟩ : ∃ f : List KCon → Nat → KCon, f = fun L j => L.getD j .zero := ⟨_, rfl⟩
 have h2 (wc : World) (hk : KB ⟨w, []⟩ wc) (n : Nat) (hn : n < N) (k : Nat) (hk3 : k < 3) : Calls Tryz.prog 99 #[F.val, .int .i64 (.ofNat n), .int .u8 (.ofNat (k + 1))] wc (Ret wc (.tuple #[.agg #[.int .i64 (kk n k).fr, .int .i64 (kk n k).to, .int .i64 (kk n k).at_, .int .u8 (kk n k).why], .bool (wb n k)])) := by
  rw [hkk, hwb]; exact h20 wc hk n (hN ▸ hn) k hk3
 have x0 : X 0 0 = [] := by rw [hXX]; rfl
 have x1 : ∀ n k, wb n k = true → X n (k + 1) = X n k ++ [kk n k] := fun n k h => by
  have h : (whV F n k).2 = true := by rw [hwb] at h; exact h
  rw [hXX, hkk]; simp only [whL]; rw [if_pos h, List.append_assoc]
 have x2 : ∀ n k, wb n k = false → X n (k + 1) = X n k := fun n k h => by
  have h : (whV F n k).2 = false := by rw [hwb] at h; exact h
  rw [hXX]; simp only [whL]; rw [if_neg (by rw [h]; decide), List.append_nil]
 have x3 : ∀ n, X n 3 = X (n + 1) 0 := fun n => by
  rw [hXX]; simp only [whL_con, conTo]; rw [whL, List.append_nil]
 have xN : conTo F (stN F.sn F.bn) = X N 0 := by rw [hXX, hN]; simp only [whL, List.append_nil]
 have xl : ∀ n k, ln_ (X n k) ≤ 2 * n + k := fun n k => by
  rw [hln, hXX]; simp only [List.length_append]
  have h1 := conTo_len F n
  have h2 : (whL F n k).length ≤ k := by
   induction k with
   | zero => simp [whL]
   | succ k ih => simp only [whL, List.length_append]; split <;> simp <;> omega
  omega
 have hRc : ∀ L, conR L = ⟨ln_ L, 4, fun j => (gt_ L j).sc⟩ := fun L => by rw [conR, hln, hgt]
 have hgx : ∀ n k j, j < ln_ (X n k) → ∀ b, gt_ (X n k ++ b) j = gt_ (X n k) j := fun n k j hj b => by
  rw [hgt]; rw [hln] at hj
  simp [List.getD, List.getElem?_append_left hj]
 have hgy : ∀ n k b, gt_ (X n k ++ [b]) (ln_ (X n k)) = b := fun n k b => by
  rw [hgt, hln]
  simp [List.getD]
 rw [xN, hRc]
 rw [← hN] at h1 hN9
 clear h20 hN hXX hwb hkk hRc xN hO
 obtain ⟨pa, un, lA, ln, lc, lk, lt, bA, bn, bc, sA, sn, sc, s, jA, jn, jc, ja, jk, jo, jf, jx, je, jd⟩ := F
 obtain ⟨hX, hl, hb, hs, hj⟩ := hF
 simp only at hl hb hs hj
 refine go_start (args := [.pt (.agg (GFun.dat _))]) (c := (funX _)) Tryz.func71 rfl hX rfl rfl ?_
 obtain ⟨nd, hnd, nt, hnt, ar, har, cm, hcm, mx, hmx, mn, hmn, ar01, ar12, zpl, hzpl, zjn, hzjn, zup, hzup, zmi, hzmi, zdp, hzdp, hT⟩ := t0_all
 have hj1 : ∀ n k, wb n k = true → RowLe ⟨zpl (ln_ (X n k)) 1, 4, zjn (ln_ (X n k)) (fun j => (gt_ (X n k) j).sc) (fun j => cutL [.int .i64 (kk n k).fr, .int .i64 (kk n k).to, .int .i64 (kk n k).at_, .int .u8 (kk n k).why] (0 + j * 4) 4)⟩ ⟨ln_ (X n (k + 1)), 4, fun j => (gt_ (X n (k + 1)) j).sc⟩ := fun n k g => by
  rw [x1 n k g]
  refine rowLe_snoc hzpl hzjn (by rw [hln]; simp) (fun j hj => ?_) ?_
  · show leCL (gt_ (X n k) j).sc (gt_ (X n k ++ [kk n k]) j).sc
    rw [hgx n k j hj]; exact leCL_rfl _
  · show leCL _ (gt_ (X n k ++ [kk n k]) (ln_ (X n k))).sc
    rw [hgy]; exact leCL_rfl _
 have hk3 : ∀ k : Nat, cm .leq (.ofNat (k + 1)) 3 = true → k < 3 := fun k h => by
  rw [hcm] at h
  have := of_decide_eq_true (show decide (((k + 1 : Nat) : Int) ≤ 3) = true from h)
  omega
 have hk4 : ∀ k : Nat, k ≤ 3 → cm .leq (.ofNat (k + 1)) 3 = false → k = 3 := fun k hk h => by
  rw [hcm] at h
  have := of_decide_eq_false (show decide (((k + 1 : Nat) : Int) ≤ 3) = false from h)
  omega
 have hin : ∀ k : Nat, k < 3 → ar .add .u8 (.ofNat (k + 1)) 1 = .ofNat (k + 1 + 1) := fun k hk => by
  rw [har]
  match k, hk with
  | 0, _ => decide
  | 1, _ => decide
  | 2, _ => decide
 repeat' (first
  | refine go1 ?_ | refine go3 (fun hlt => ?_) (fun hge => ?_) | refine go2 (fun h => ?_) (fun h => ?_)
  | ((with_reducible apply go_ret_rowsP hT); (· (cbv; try rfl)); (· (cbv; try rfl)); (· exact wCnE_5); (· exact wCnE_5); (· rfl))
  | ((with_reducible refine go_ob ?_ ?_); (· first | trivial | (refine ⟨trivial, ?_⟩; omega) | (rw [hzpl]; refine ⟨trivial, ?_⟩; show _ + _ ≤ 1073741824; omega) | (rw [hzpl]; show _ + _ ≤ 1073741824; omega) | ((rw [hzpl]; exact Nat.le_trans (Nat.add_le_add_right (xl n k) 1) (show 2 * n + k + 1 ≤ 1073741824 from by omega)))))
  | ((with_reducible apply go_call (f := 46) (hf := Tryz.call46)); (· (cbv; try rfl)); (· intro wc hbc hxc; exact h1 wc hbc))
  | ((with_reducible apply go_call (f := 99) (hf := Tryz.call99)); (· (cbv; try rfl)); (· intro wc hbc hxc; exact h2 wc hbc n (by assumption) k (hk3 k (by assumption))))
  | ((with_reducible apply go_row 3 4); (· (cbv; try rfl)))
  | ((with_reducible refine go_loopk (σ := {n : Nat // n ≤ N}) [5, 6, 7, 8, 9, 10, 11, 12, 13, 14, 15, 16, 17, 18, 19, 20, 21, 22, 23, 24, 25, 26, 27, 28, 29] (fun x => [(4, .pt (.one (.int .i64 (.ofNat x.1))))]) (fun x => []) (fun x => [(0, ⟨ln_ (X x.1 0), 4, fun j => (gt_ (X x.1 0) j).sc⟩)]) (fun x => N - x.1) ⟨0, Nat.zero_le _⟩ ?_ ?_ ?_ ?_); (· exact le_mkP wCnE_5 wCnE_5 wCnE_5 wCnE_5); (· (cbv; try rfl)); (· simp); (rintro ⟨n, hn⟩ mm hmm))
  | ((with_reducible refine go_loopk (σ := {k : Nat // k ≤ 3}) [6, 7, 14, 15, 16, 17, 18, 19, 20, 21, 22, 23, 24, 25, 26, 27, 28, 29] (fun x => [(5, .pt (.one (.int .u8 (.ofNat (x.1 + 1)))))]) (fun x => []) (fun x => [(0, ⟨ln_ (X n x.1), 4, fun j => (gt_ (X n x.1) j).sc⟩)]) (fun x => 3 - x.1) ⟨0, Nat.zero_le _⟩ ?_ ?_ ?_ ?_); (· exact le_mkP wCnE_5 wCnE_5 wCnE_5 wCnE_5); (· (cbv; try rfl)); (· simp); (rintro ⟨k, hk⟩ mm hmm))
  | ((with_reducible refine go_stop (⟨k + 1, Nat.succ_le_of_lt (hk3 k (by assumption))⟩ : {k : Nat // k ≤ 3}) ?_ ?_ ?_ ?_); (· subst hmm; (show 3 - (k + 1) < 3 - k; (have := hk3 k (by assumption); omega))); (· exact le_mkP wCnE_5 wCnE_5 wCnE_5 wCnE_5); (· (cbv; try rfl)); (· simp))
  | ((with_reducible refine go_stop (⟨n + 1, Nat.succ_le_of_lt (by assumption)⟩ : {n : Nat // n ≤ N}) ?_ ?_ ?_ ?_); (· exact Nat.lt_of_lt_of_eq (show N - (n + 1) < N - n from by omega) (Eq.symm (by assumption))); (· exact le_mkP wCnE_5 wCnE_5 wCnE_5 wCnE_5); (· (cbv; try rfl)); (· simp))
  | fail)
 all_goals trace_state
end Go.Proofs.YtmceonmlgcbcmaaGreat
