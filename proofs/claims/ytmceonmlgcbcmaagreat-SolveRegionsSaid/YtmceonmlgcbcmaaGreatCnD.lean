/- Layer 19 of the reference: the constraint of each kind that a point has, all constraints of a function. No condition. -/
import Derived.Test.YtmceonmlgcbcmaaGreatN6
import Derived.Test.YtmceonmlgcbcmaaGreatPtA
namespace Go.Proofs.YtmceonmlgcbcmaaGreat
set_option maxRecDepth 100000
open Go.RowKit
set_option linter.unusedVariables false
set_option linter.unusedSimpArgs false
theorem chunks : ∃ zA zB zC : Nat, zA = zB + 4 ∧ zB = zC + 4 ∧ zC = 400 := ⟨_, _, _, rfl, rfl, rfl⟩
section
variable {P : Program} {Q : Exit → Act → World → Prop} {c : Nat → Nat → Row} {w0 : Base}
theorem out_eq {o o' : Out} (h : o = o') (g : OutOk P Q c w0 o') : OutOk P Q c w0 o := by rw [h]; exact g
end
theorem loanPts_ix {F : GFun} {n : Nat} : ∀ N i, i < (loanPts F N).length → (loanPts F N).getD i 0 = n → (isAt F n = true ∧ (stAt F n).k = 1 ∧ (stAt F n).r.k = 4) ∧ i = (loanPts F n).length
 | 0, i, h, _ => by simp [loanPts] at h
 | N + 1, i, h, e => by
   simp only [loanPts] at h e
   by_cases g : i < (loanPts F N).length
   · rw [getD_app _ _ _ g] at e
     exact loanPts_ix N i g e
   · rw [List.length_append] at h
     split at h
     · rename_i hl
       simp only [List.length_cons, List.length_nil] at h
       have hi : i = (loanPts F N).length + 0 := by omega
       rw [hi, getD_app2, if_pos hl] at e
       have e : N = n := by simpa using e
       subst e
       exact ⟨hl, by omega⟩
     · simp only [List.length_nil] at h; omega
def loanI (F : GFun) (n : Nat) : Int := if isAt F n = true ∧ (stAt F n).k = 1 ∧ (stAt F n).r.k = 4 then .ofNat (loanPts F n).length else -1
def whM (ln : Nat) (lo : Int) (n : Nat) (ir : Int → Bool) (wp : Int → Bool → Int → Bool) (s : GStmt) : Nat → KCon × Bool
 | 0 => (⟨s.r.a.p.l, s.p.l, .ofNat n, 1⟩, s.r.k == 1 && s.r.a.k != 1 && wp s.r.a.p.l s.r.a.p.d s.r.a.p.f && ir s.r.a.p.l && ir s.p.l)
 | 1 => (⟨.ofNat ln + lo, s.p.l, .ofNat n, 2⟩, s.r.k == 4)
 | _ => (⟨s.r.p.l, s.p.l, .ofNat n, 3⟩, s.r.k == 4 && s.r.p.d && ir s.r.p.l)
def whK (F : GFun) (n : Nat) (k : Nat) : KCon × Bool := whM F.ln (loanI F n) n (fun l => isRef (F.lk l.toNat)) (fun l d f => wholeP ⟨l, d, f⟩) (stAt F n) k
def whV (F : GFun) (n k : Nat) : KCon × Bool := if isAt F n = true ∧ (stAt F n).k = 1 ∧ wholeP (stAt F n).p = true then whK F n k else (.zero, false)
def whT (x : KCon × Bool) : Value := .tuple #[.agg #[.int .i64 x.1.fr, .int .i64 x.1.to, .int .i64 x.1.at_, .int .u8 x.1.why], .bool x.2]
def whL (F : GFun) (n : Nat) : Nat → List KCon
 | 0 => []
 | k + 1 => whL F n k ++ if (whV F n k).2 = true then [(whV F n k).1] else []
theorem whL_con (F : GFun) (n : Nat) : whL F n 3 = conN F n := by
 unfold conN
 simp only [whL, whV]
 by_cases h : isAt F n = true ∧ (stAt F n).k = 1
 · rw [if_pos h]
   unfold ofL
   by_cases h2 : wholeP (stAt F n).p = true
   · have h3 : isAt F n = true ∧ (stAt F n).k = 1 ∧ wholeP (stAt F n).p = true := ⟨h.1, h.2, h2⟩
     have h2' : (stAt F n).p.whole = true := h2
     simp only [if_pos h3, if_pos h2', whK, whM, loanI]
     by_cases h4 : (stAt F n).r.k = 4
     · have h5 : isAt F n = true ∧ (stAt F n).k = 1 ∧ (stAt F n).r.k = 4 := ⟨h.1, h.2, h4⟩
       have e1 : ((stAt F n).r.k == 1) = false := by rw [h4]; rfl
       have e2 : ((stAt F n).r.k == 4) = true := by rw [h4]; rfl
       simp only [if_pos h5, e1, e2, Bool.false_and, Bool.true_and, if_true, List.nil_append, Bool.false_eq_true, if_false]
       rfl
     · have e2 : ((stAt F n).r.k == 4) = false := by simpa using h4
       simp only [e2, Bool.false_and, Bool.false_eq_true, if_false, List.append_nil, List.nil_append]
       rfl
   · have h3 : ¬ (isAt F n = true ∧ (stAt F n).k = 1 ∧ wholeP (stAt F n).p = true) := fun g => h2 g.2.2
     have h2' : ¬ (stAt F n).p.whole = true := h2
     simp only [if_neg h3, if_neg h2', Bool.false_eq_true, if_false, List.append_nil]
 · rw [if_neg h]
   have h3 : ¬ (isAt F n = true ∧ (stAt F n).k = 1 ∧ wholeP (stAt F n).p = true) := fun g => h ⟨g.1, g.2.1⟩
   simp only [if_neg h3, Bool.false_eq_true, if_false, List.append_nil]
theorem rRef19C (F : GFun) (l : Int) (w : World) (hF : F.At w) (h0 : 0 ≤ l) (h1 : l < F.ln) :
 Calls Tryz.prog 47 #[F.val, .int .i64 l] w (Ret w (.bool (isRef (F.lk l.toNat)))) := by
 obtain ⟨n, rfl⟩ : ∃ n : Nat, l = .ofNat n := ⟨l.toNat, by simp only [Int.ofNat_eq_natCast]; omega⟩
 have h1 : n < F.ln := by simp only [Int.ofNat_eq_natCast] at h1; omega
 show Calls Tryz.prog 47 #[F.val, .int .i64 (.ofNat n)] w (Ret w (.bool (isRef (F.lk n))))
 clear h0
 have h2 (wc : World) : Calls Tryz.prog 82 #[.agg #[.int .u8 (F.lk n), .int .u8 (F.lt n)]] wc (Ret wc (.bool (isRef (F.lk n)))) := rReference (F.lk n) (F.lt n) wc
 obtain ⟨pa, un, lA, ln, lc, lk, lt, bA, bn, bc, sA, sn, sc, s, jA, jn, jc, ja, jk, jo, jf, jx, je, jd⟩ := F
 obtain ⟨hX, hl, hb, hs, hj⟩ := hF
 simp only at hl hb hs hj
 simp only at h1 h2
 generalize isRef (lk n) = b at h2 ⊢
 refine go_start (args := [.pt (.agg (GFun.dat _)), .pt (.one (.int .i64 (.ofNat n)))]) (c := (funX _)) Tryz.func47 rfl hX rfl rfl ?_
 obtain ⟨nd, hnd, nt, hnt, ar, har, cm, hcm, mx, hmx, mn, hmn, ar01, ar12, zpl, hzpl, zjn, hzjn, zup, hzup, zmi, hzmi, zdp, hzdp, hT⟩ := t0_all
 repeat' (first
  | refine go1 ?_ | refine gobt ?_ | refine gobn ?_ | refine go3 (fun hlt => ?_) (fun hge => ?_) | refine go2 (fun h => ?_) (fun h => ?_) | exact go0 | refine god ?_ | refine gof ?_ | refine gob ?_ | (with_reducible refine fork_cons ?_ ?_)
  | ((with_reducible apply go_call (f := 82) (hf := Tryz.call82)); (· (cbv; try rfl)); (· intro wc hbc hxc; exact h2 wc))
  | ((with_reducible apply go_callq (f := 82) (hf := Tryz.call82)); (· (cbv; try rfl)); (· intro wc hbc hxc; exact h2 wc))
  | fail)
 all_goals rfl
set_option maxHeartbeats 4000000 in
theorem loan19C (F : GFun) (n : Nat) (w : World) (hF : F.At w) (hO : F.Ok) (hn : n < stN F.sn F.bn) :
 Calls Tryz.prog 130 #[F.val, .int .i64 (.ofNat n)] w (Ret w (.int .i64 (loanI F n))) := by
 have h1 (wc : World) (hk : KB ⟨w, []⟩ wc) := loanPtsC F wc (hF.later hk) hO.small
 obtain ⟨P, hP⟩ : ∃ P, P = (loanPts F (stN F.sn F.bn)).length := ⟨_, rfl⟩
 obtain ⟨pt, hpt⟩ : ∃ f : Nat → Nat, f = fun j => (loanPts F (stN F.sn F.bn)).getD j 0 := ⟨_, rfl⟩
 obtain ⟨v, hv⟩ : ∃ v, v = loanI F n := ⟨_, rfl⟩
 have hPR : natR (loanPts F (stN F.sn F.bn)) = ⟨P, 1, fun j => [.int .i64 (.ofNat (pt j))]⟩ := by rw [natR, hP, hpt]
 rw [hPR] at h1
 have hP9 : P ≤ 600 := by have := loanPts_len F (stN F.sn F.bn); have := hO.pts; omega
 have k1 : ∀ i, i < P → pt i = n → v = .ofNat i := fun i hi e => by
  rw [hP] at hi; rw [hpt] at e
  obtain ⟨e1, e2⟩ := loanPts_ix (F := F) (n := n) _ i hi e
  rw [hv, loanI, if_pos e1, e2]
 have k2 : (∀ i, i < P → pt i ≠ n) → v = -1 := fun h => by
  rw [hv, loanI]
  split
  · rename_i g
    obtain ⟨e1, e2⟩ := loanPts_at g.1 g.2.1 g.2.2 _ hn
    exact absurd (by rw [hpt]; exact e2) (h _ (by rw [hP]; exact e1))
  · rfl
 rw [← hv]
 clear hPR hv hpt hP hO hn
 obtain ⟨pa, un, lA, ln, lc, lk, lt, bA, bn, bc, sA, sn, sc, s, jA, jn, jc, ja, jk, jo, jf, jx, je, jd⟩ := F
 obtain ⟨hX, hl, hb, hs, hj⟩ := hF
 simp only at hl hb hs hj
 refine go_start (args := [.pt (.agg (GFun.dat _)), .pt (.one (.int .i64 (.ofNat n)))]) (c := (funX _)) Tryz.func130 rfl hX rfl rfl ?_
 obtain ⟨nd, hnd, nt, hnt, ar, har, cm, hcm, mx, hmx, mn, hmn, ar01, ar12, zpl, hzpl, zjn, hzjn, zup, hzup, zmi, hzmi, zdp, hzdp, hT⟩ := t0_all
 have hne : ∀ {i : Nat}, decide (Int.ofNat (pt i) = Int.ofNat n) = false → pt i ≠ n := fun {i} h e => of_decide_eq_false h (by rw [e])
 repeat' (first
  | refine go1 ?_ | refine gobt ?_ | refine gobn ?_ | refine go3 (fun hlt => ?_) (fun hge => ?_) | refine go2 (fun h => ?_) (fun h => ?_) | exact go0 | refine god ?_ | refine gof ?_ | refine gob ?_ | (with_reducible refine fork_cons ?_ ?_)
  | ((with_reducible apply go_callR (f := 45) (hf := Tryz.call45)); (· intro S; cbv; try rfl); (· intro wc S hbc hxc hrc; exact h1 wc hbc); (· rfl))
  | ((with_reducible refine go_loopk (σ := {i : Nat // i ≤ P ∧ ∀ j, j < i → pt j ≠ n}) [4, 9, 10, 11, 12, 13, 14, 15, 16, 17, 18, 19, 20, 21] (fun x => [(6, .pt (.one (.int .i64 (.ofNat x.1))))]) (fun x => []) (fun x => []) (fun x => P - x.1) ⟨0, Nat.zero_le _, fun j h => absurd h (Nat.not_lt_zero _)⟩ ?_ ?_ ?_ ?_); (· exact le_mkP gole gole gole gole); (· (cbv; try rfl)); (· simp); (rintro ⟨i, hi, hok⟩ mm hmm))
  | ((with_reducible refine go_stop ⟨i + 1, Nat.succ_le_of_lt (by assumption), all_succ hok (hne (by assumption))⟩ ?_ ?_ ?_ ?_); (· exact Nat.lt_of_lt_of_eq (show P - (i + 1) < P - i from by omega) (Eq.symm (by assumption))); (· exact le_mkP gole gole gole gole); (· (cbv; try rfl)); (· simp))
  | fail)
 all_goals first
  | (rw [k1 i (by assumption) (Int.ofNat.inj (of_decide_eq_true (by assumption)))])
  | (rw [k2 (fun j hj => hok j (Nat.lt_of_lt_of_le hj (by assumption)))])
set_option maxHeartbeats 4000000 in
theorem why19C (F : GFun) (n : Nat) (w : World) (hF : F.At w) (hO : F.Ok) (hn : n < stN F.sn F.bn) (k : Nat) (hk3 : k < 3) :
 Calls Tryz.prog 99 #[F.val, .int .i64 (.ofNat n), .int .u8 (.ofNat (k + 1))] w (Ret w (whT (whV F n k))) := by
 have h1 (wc : World) (hk : KB ⟨w, []⟩ wc) := stmtN F wc (hF.later hk) hO.small n hn
 have h2 (wc : World) (hk : KB ⟨w, []⟩ wc) := loan19C F n wc (hF.later hk) hO hn
 have h3 (wc : World) (hk : KB ⟨w, []⟩ wc) (l : Int) (g0 : 0 ≤ l) (g1 : l < F.ln) := rRef19C F l wc (hF.later hk) g0 g1
 have hq := fun (x1 : isAt F n = true) (x2 : (stAt F n).k = 1) => hO.nearAt hn x1 x2
 have hl16 := hO.ln16
 have hlo : -1 ≤ loanI F n ∧ loanI F n ≤ 600 := by
  unfold loanI
  have := loanPts_len F n
  have := hO.pts
  split
  · simp only [Int.ofNat_eq_natCast]; omega
  · omega
 obtain ⟨V, hV⟩ : ∃ V, V = whT (whV F n k) := ⟨_, rfl⟩
 rw [← hV]
 unfold whV at hV
 obtain ⟨lo, hlo'⟩ : ∃ x, x = loanI F n := ⟨_, rfl⟩
 obtain ⟨ia, hia⟩ : ∃ x, x = isAt F n := ⟨_, rfl⟩
 obtain ⟨sa, hsa⟩ : ∃ x, x = stAt F n := ⟨_, rfl⟩
 obtain ⟨ir, hir⟩ : ∃ f : Int → Bool, f = fun l => isRef (F.lk l.toNat) := ⟨_, rfl⟩
 have h3 (wc : World) (hk : KB ⟨w, []⟩ wc) (l : Int) (g0 : 0 ≤ l) (g1 : l < F.ln) : Calls Tryz.prog 47 #[F.val, .int .i64 l] wc (Ret wc (.bool (ir l))) := by rw [hir]; exact h3 wc hk l g0 g1
 obtain ⟨wp, hwp⟩ : ∃ f : Int → Bool → Int → Bool, f = fun l d f => wholeP ⟨l, d, f⟩ := ⟨_, rfl⟩
 have h4 (l : Int) (d : Bool) (f : Int) (wc : World) : Calls Tryz.prog 50 #[.agg #[.int .i64 l, .bool d, .int .u8 f]] wc (Ret wc (.bool (wp l d f))) := by rw [hwp]; exact rWholeC _ _ _ wc
 have hVk : V = whT (if ia = true ∧ sa.k = 1 ∧ wp sa.p.l sa.p.d sa.p.f = true then whM F.ln lo n ir wp sa k else (.zero, false)) := by
  rw [hV, hia, hsa, hlo', hir, hwp]; rfl
 rw [← hia, ← hsa] at h1 hq
 rw [← hlo'] at h2 hlo
 clear hV hlo' hia hsa hir hwp hO hn
 obtain ⟨pa, un, lA, ln, lc, lk, lt, bA, bn, bc, sA, sn, sc, s, jA, jn, jc, ja, jk, jo, jf, jx, je, jd⟩ := F
 obtain ⟨hX, hl, hb, hs, hj⟩ := hF
 simp only at hl hb hs hj
 simp only at h1 h2 h3 hq hl16 hVk
 have v0 : ia = false → V = Value.tuple #[.agg #[.int .i64 0, .int .i64 0, .int .i64 0, .int .u8 0], .bool false] := fun h => by rw [hVk, if_neg (fun g => Bool.noConfusion (g.1.symm.trans h))]; rfl
 have v1 : decide (sa.k = 1) = false → V = Value.tuple #[.agg #[.int .i64 0, .int .i64 0, .int .i64 0, .int .u8 0], .bool false] := fun h => by rw [hVk, if_neg (fun g => of_decide_eq_false h g.2.1)]; rfl
 have v2 : wp sa.p.l sa.p.d sa.p.f = false → V = Value.tuple #[.agg #[.int .i64 0, .int .i64 0, .int .i64 0, .int .u8 0], .bool false] := fun h => by rw [hVk, if_neg (fun g => Bool.noConfusion (g.2.2.symm.trans h))]; rfl
 have v3 : ia = true → decide (sa.k = 1) = true → wp sa.p.l sa.p.d sa.p.f = true → V = whT (whM ln lo n ir wp sa k) := fun a b c => by rw [hVk, if_pos ⟨a, of_decide_eq_true b, c⟩]
 clear hVk
 match k, hk3 with
 | 0, _ =>
   refine go_start (args := [.pt (.agg (GFun.dat ⟨pa, un, lA, ln, lc, lk, lt, bA, bn, bc, sA, sn, sc, s, jA, jn, jc, ja, jk, jo, jf, jx, je, jd⟩)), .pt (.one (.int .i64 (.ofNat n))), .pt (.one (.int .u8 1))]) (c := (funX ⟨pa, un, lA, ln, lc, lk, lt, bA, bn, bc, sA, sn, sc, s, jA, jn, jc, ja, jk, jo, jf, jx, je, jd⟩)) Tryz.func99 rfl hX rfl rfl ?_
   obtain ⟨nd, hnd, nt, hnt, ar, har, cm, hcm, mx, hmx, mn, hmn, ar01, ar12, zpl, hzpl, zjn, hzjn, zup, hzup, zmi, hzmi, zdp, hzdp, hT⟩ := t0_all
   have b0 : ∀ x, (sa.r.k == 1 && sa.r.a.k != 1 && wp sa.r.a.p.l sa.r.a.p.d sa.r.a.p.f && ir sa.r.a.p.l && ir sa.p.l) = x → whT (whM ln lo n ir wp sa 0) = Value.tuple #[.agg #[.int .i64 (sa.r.a.p.l), .int .i64 sa.p.l, .int .i64 (.ofNat n), .int .u8 1], .bool (x)] := fun x h => by rw [← h]; rfl
   have b1 : decide (sa.r.k = 1) = false → (sa.r.k == 1 && sa.r.a.k != 1 && wp sa.r.a.p.l sa.r.a.p.d sa.r.a.p.f && ir sa.r.a.p.l && ir sa.p.l) = false := fun h => by rw [show (sa.r.k == 1) = false from h]; rfl
   have b2 : decide (sa.r.a.k = 1) = true → (sa.r.k == 1 && sa.r.a.k != 1 && wp sa.r.a.p.l sa.r.a.p.d sa.r.a.p.f && ir sa.r.a.p.l && ir sa.p.l) = false := fun h => by rw [show (sa.r.a.k != 1) = false from by rw [of_decide_eq_true h]; rfl, Bool.and_false]; rfl
   have b3 : wp sa.r.a.p.l sa.r.a.p.d sa.r.a.p.f = false → (sa.r.k == 1 && sa.r.a.k != 1 && wp sa.r.a.p.l sa.r.a.p.d sa.r.a.p.f && ir sa.r.a.p.l && ir sa.p.l) = false := fun h => by rw [h, Bool.and_false]; rfl
   have b4 : ir sa.r.a.p.l = false → (sa.r.k == 1 && sa.r.a.k != 1 && wp sa.r.a.p.l sa.r.a.p.d sa.r.a.p.f && ir sa.r.a.p.l && ir sa.p.l) = false := fun h => by rw [h, Bool.and_false]; rfl
   have b5 : decide (sa.r.k = 1) = true → decide (sa.r.a.k = 1) = false → wp sa.r.a.p.l sa.r.a.p.d sa.r.a.p.f = true → ir sa.r.a.p.l = true → (sa.r.k == 1 && sa.r.a.k != 1 && wp sa.r.a.p.l sa.r.a.p.d sa.r.a.p.f && ir sa.r.a.p.l && ir sa.p.l) = ir sa.p.l := fun g1 g2 g3 g4 => by rw [show (sa.r.k == 1) = true from g1, show (sa.r.a.k != 1) = true from by (show (!(sa.r.a.k == 1)) = true); rw [show (sa.r.a.k == 1) = false from g2]; rfl, g3, g4]; rfl
   obtain ⟨zA, zB, zC, hzA, hzB, hzC⟩ := chunks
   refine go_fam 4 rfl rfl trivial (funX_qb _) ?_
   repeat' (first
    | refine go1 ?_ | refine gobt ?_ | refine gobn ?_ | refine go3 (fun hlt => ?_) (fun hge => ?_) | refine go2 (fun h => ?_) (fun h => ?_) | exact go0 | refine gof ?_ | refine gob ?_ | (with_reducible refine fork_cons ?_ ?_)
    | ((with_reducible apply go_call (f := 49) (hf := Tryz.call49)); (· (cbv; try rfl)); (· intro wc hbc hxc; exact h1 wc hbc))
    | ((with_reducible apply go_callq (f := 49) (hf := Tryz.call49)); (· (cbv; try rfl)); (· intro wc hbc hxc; exact h1 wc hbc))
    | ((with_reducible apply go_call (f := 50) (hf := Tryz.call50)); (· (cbv; try rfl)); (· intro wc hbc hxc; exact h4 _ _ _ wc))
    | ((with_reducible apply go_callq (f := 50) (hf := Tryz.call50)); (· (cbv; try rfl)); (· intro wc hbc hxc; exact h4 _ _ _ wc))
    | fail)
   all_goals try (first | (exact (v0 (by assumption)).symm) | (exact (v1 (by assumption)).symm) | (exact (v2 (by assumption)).symm))
   all_goals (with_reducible refine go_drawE (by kernel_rfl) ?_)
   all_goals (refine go_boxT 3 4 rfl rfl rfl rfl rfl trivial rfl (fam_qb (funX_qb _)) fam_n (fun a0 _ => ?_))
   all_goals (refine go_boxT 8 5 rfl rfl rfl rfl rfl trivial rfl (box_qb (fam_qb (funX_qb _)) rfl qbL_up) box_n (fun a1 _ => ?_))
   all_goals (refine go_boxT 10 6 rfl rfl rfl rfl rfl trivial rfl (box_qb (box_qb (fam_qb (funX_qb _)) rfl qbL_up) rfl qbL_up) box_n (fun a2 _ => ?_))
   all_goals (refine go_boxT 11 7 rfl rfl rfl rfl rfl trivial rfl (box_qb (box_qb (box_qb (fam_qb (funX_qb _)) rfl qbL_up) rfl qbL_up) rfl qbL_up) box_n (fun a3 _ => ?_))
   repeat' (first
    | refine go1 ?_ | refine gobt ?_ | refine gobn ?_ | refine go3 (fun hlt => ?_) (fun hge => ?_) | refine go2 (fun h => ?_) (fun h => ?_) | exact go0 | refine god ?_ | refine gof ?_ | refine gob ?_ | (with_reducible refine fork_cons ?_ ?_)
    | ((with_reducible apply go_call (f := 50) (hf := Tryz.call50)); (· (cbv; try rfl)); (· intro wc hbc hxc; exact h4 _ _ _ wc))
    | ((with_reducible apply go_callq (f := 50) (hf := Tryz.call50)); (· (cbv; try rfl)); (· intro wc hbc hxc; exact h4 _ _ _ wc))
    | ((with_reducible apply go_call (f := 47) (hf := Tryz.call47)); (· (cbv; try rfl)); (· intro wc hbc hxc; exact h3 wc hbc _ (by first | exact (hq (by assumption) (of_decide_eq_true (by assumption))).2.2.1 | exact (hq (by assumption) (of_decide_eq_true (by assumption))).1.1) (by first | exact (hq (by assumption) (of_decide_eq_true (by assumption))).2.2.2 | exact (hq (by assumption) (of_decide_eq_true (by assumption))).1.2)))
    | ((with_reducible apply go_callq (f := 47) (hf := Tryz.call47)); (· (cbv; try rfl)); (· intro wc hbc hxc; exact h3 wc hbc _ (by first | exact (hq (by assumption) (of_decide_eq_true (by assumption))).2.2.1 | exact (hq (by assumption) (of_decide_eq_true (by assumption))).1.1) (by first | exact (hq (by assumption) (of_decide_eq_true (by assumption))).2.2.2 | exact (hq (by assumption) (of_decide_eq_true (by assumption))).1.2)))
    | (((with_reducible apply go_ev hT (zA + 4)); (· cbv); (try with_reducible refine out_eq (by rewrite [hzA]; cbv) ?_); (try with_reducible refine out_eq (by rewrite [hzB]; cbv) ?_); (try with_reducible refine out_eq (by rewrite [hzC]; cbv) ?_)))
    | fail)
   all_goals first
    | (exact ((v3 (by assumption) (by assumption) (by assumption)).trans (b0 _ (b1 (by assumption)))).symm)
    | (exact ((v3 (by assumption) (by assumption) (by assumption)).trans (b0 _ (b2 (by assumption)))).symm)
    | (exact ((v3 (by assumption) (by assumption) (by assumption)).trans (b0 _ (b3 (by assumption)))).symm)
    | (exact ((v3 (by assumption) (by assumption) (by assumption)).trans (b0 _ (b4 (by assumption)))).symm)
    | (exact ((v3 (by assumption) (by assumption) (by assumption)).trans (b0 _ (b5 (by assumption) (by assumption) (by assumption) (by assumption)))).symm)
   all_goals trace_state
 | 1, _ =>
   refine go_start (args := [.pt (.agg (GFun.dat ⟨pa, un, lA, ln, lc, lk, lt, bA, bn, bc, sA, sn, sc, s, jA, jn, jc, ja, jk, jo, jf, jx, je, jd⟩)), .pt (.one (.int .i64 (.ofNat n))), .pt (.one (.int .u8 2))]) (c := (funX ⟨pa, un, lA, ln, lc, lk, lt, bA, bn, bc, sA, sn, sc, s, jA, jn, jc, ja, jk, jo, jf, jx, je, jd⟩)) Tryz.func99 rfl hX rfl rfl ?_
   obtain ⟨nd, hnd, nt, hnt, ar, har, cm, hcm, mx, hmx, mn, hmn, ar01, ar12, zpl, hzpl, zjn, hzjn, zup, hzup, zmi, hzmi, zdp, hzdp, hT⟩ := t0_all
   have hwr : ar .add .i64 (.ofNat ln) lo = .ofNat ln + lo := by
    rw [har]
    show IntKind.i64.wrap ((ln : Int) + lo) = (ln : Int) + lo
    rw [Go.IntWalk.i64_in _ (by omega)]
   have b0 : whT (whM ln lo n ir wp sa 1) = Value.tuple #[.agg #[.int .i64 (ar .add .i64 (.ofNat ln) lo), .int .i64 sa.p.l, .int .i64 (.ofNat n), .int .u8 2], .bool (decide (sa.r.k = 4))] := by rw [hwr]; rfl
   refine go_fam 4 rfl rfl trivial (funX_qb _) ?_
   repeat' (first
    | refine go1 ?_ | refine gobt ?_ | refine gobn ?_ | refine go3 (fun hlt => ?_) (fun hge => ?_) | refine go2 (fun h => ?_) (fun h => ?_) | exact go0 | refine gof ?_ | refine gob ?_ | (with_reducible refine fork_cons ?_ ?_)
    | ((with_reducible apply go_call (f := 49) (hf := Tryz.call49)); (· (cbv; try rfl)); (· intro wc hbc hxc; exact h1 wc hbc))
    | ((with_reducible apply go_callq (f := 49) (hf := Tryz.call49)); (· (cbv; try rfl)); (· intro wc hbc hxc; exact h1 wc hbc))
    | ((with_reducible apply go_call (f := 50) (hf := Tryz.call50)); (· (cbv; try rfl)); (· intro wc hbc hxc; exact h4 _ _ _ wc))
    | ((with_reducible apply go_callq (f := 50) (hf := Tryz.call50)); (· (cbv; try rfl)); (· intro wc hbc hxc; exact h4 _ _ _ wc))
    | fail)
   all_goals try (first | (exact (v0 (by assumption)).symm) | (exact (v1 (by assumption)).symm) | (exact (v2 (by assumption)).symm))
   all_goals (with_reducible refine go_drawE (by kernel_rfl) ?_)
   all_goals (refine go_boxT 3 4 rfl rfl rfl rfl rfl trivial rfl (fam_qb (funX_qb _)) fam_n (fun a0 _ => ?_))
   repeat' (first
    | refine go1 ?_ | refine gobt ?_ | refine gobn ?_ | refine go3 (fun hlt => ?_) (fun hge => ?_) | refine go2 (fun h => ?_) (fun h => ?_) | exact go0 | refine god ?_ | refine gof ?_ | refine gob ?_ | (with_reducible refine fork_cons ?_ ?_)
    | ((with_reducible apply go_call (f := 130) (hf := Tryz.call130)); (· (cbv; try rfl)); (· intro wc hbc hxc; exact h2 wc hbc))
    | ((with_reducible apply go_callq (f := 130) (hf := Tryz.call130)); (· (cbv; try rfl)); (· intro wc hbc hxc; exact h2 wc hbc))
    | fail)
   all_goals first
    | (exact ((v3 (by assumption) (by assumption) (by assumption)).trans (b0)).symm)
   all_goals trace_state
 | 2, _ =>
   refine go_start (args := [.pt (.agg (GFun.dat ⟨pa, un, lA, ln, lc, lk, lt, bA, bn, bc, sA, sn, sc, s, jA, jn, jc, ja, jk, jo, jf, jx, je, jd⟩)), .pt (.one (.int .i64 (.ofNat n))), .pt (.one (.int .u8 3))]) (c := (funX ⟨pa, un, lA, ln, lc, lk, lt, bA, bn, bc, sA, sn, sc, s, jA, jn, jc, ja, jk, jo, jf, jx, je, jd⟩)) Tryz.func99 rfl hX rfl rfl ?_
   obtain ⟨nd, hnd, nt, hnt, ar, har, cm, hcm, mx, hmx, mn, hmn, ar01, ar12, zpl, hzpl, zjn, hzjn, zup, hzup, zmi, hzmi, zdp, hzdp, hT⟩ := t0_all
   have b0 : ∀ x, (sa.r.k == 4 && sa.r.p.d && ir sa.r.p.l) = x → whT (whM ln lo n ir wp sa 2) = Value.tuple #[.agg #[.int .i64 (sa.r.p.l), .int .i64 sa.p.l, .int .i64 (.ofNat n), .int .u8 3], .bool (x)] := fun x h => by rw [← h]; rfl
   have b1 : decide (sa.r.k = 4) = false → (sa.r.k == 4 && sa.r.p.d && ir sa.r.p.l) = false := fun h => by rw [show (sa.r.k == 4) = false from h]; rfl
   have b2 : sa.r.p.d = false → (sa.r.k == 4 && sa.r.p.d && ir sa.r.p.l) = false := fun h => by rw [h, Bool.and_false]; rfl
   have b3 : decide (sa.r.k = 4) = true → sa.r.p.d = true → (sa.r.k == 4 && sa.r.p.d && ir sa.r.p.l) = ir sa.r.p.l := fun g1 g2 => by rw [show (sa.r.k == 4) = true from g1, g2]; rfl
   obtain ⟨zA, zB, zC, hzA, hzB, hzC⟩ := chunks
   refine go_fam 4 rfl rfl trivial (funX_qb _) ?_
   repeat' (first
    | refine go1 ?_ | refine gobt ?_ | refine gobn ?_ | refine go3 (fun hlt => ?_) (fun hge => ?_) | refine go2 (fun h => ?_) (fun h => ?_) | exact go0 | refine gof ?_ | refine gob ?_ | (with_reducible refine fork_cons ?_ ?_)
    | ((with_reducible apply go_call (f := 49) (hf := Tryz.call49)); (· (cbv; try rfl)); (· intro wc hbc hxc; exact h1 wc hbc))
    | ((with_reducible apply go_callq (f := 49) (hf := Tryz.call49)); (· (cbv; try rfl)); (· intro wc hbc hxc; exact h1 wc hbc))
    | ((with_reducible apply go_call (f := 50) (hf := Tryz.call50)); (· (cbv; try rfl)); (· intro wc hbc hxc; exact h4 _ _ _ wc))
    | ((with_reducible apply go_callq (f := 50) (hf := Tryz.call50)); (· (cbv; try rfl)); (· intro wc hbc hxc; exact h4 _ _ _ wc))
    | fail)
   all_goals try (first | (exact (v0 (by assumption)).symm) | (exact (v1 (by assumption)).symm) | (exact (v2 (by assumption)).symm))
   all_goals (with_reducible refine go_drawE (by kernel_rfl) ?_)
   all_goals (refine go_boxT 3 4 rfl rfl rfl rfl rfl trivial rfl (fam_qb (funX_qb _)) fam_n (fun a0 _ => ?_))
   all_goals (refine go_boxT 8 5 rfl rfl rfl rfl rfl trivial rfl (box_qb (fam_qb (funX_qb _)) rfl qbL_up) box_n (fun a1 _ => ?_))
   all_goals (refine go_boxT 10 6 rfl rfl rfl rfl rfl trivial rfl (box_qb (box_qb (fam_qb (funX_qb _)) rfl qbL_up) rfl qbL_up) box_n (fun a2 _ => ?_))
   repeat' (first
    | refine go1 ?_ | refine gobt ?_ | refine gobn ?_ | refine go3 (fun hlt => ?_) (fun hge => ?_) | refine go2 (fun h => ?_) (fun h => ?_) | exact go0 | refine god ?_ | refine gof ?_ | refine gob ?_ | (with_reducible refine fork_cons ?_ ?_)
    | ((with_reducible apply go_call (f := 47) (hf := Tryz.call47)); (· (cbv; try rfl)); (· intro wc hbc hxc; exact h3 wc hbc _ (hq (by assumption) (of_decide_eq_true (by assumption))).2.1.1 (hq (by assumption) (of_decide_eq_true (by assumption))).2.1.2))
    | ((with_reducible apply go_callq (f := 47) (hf := Tryz.call47)); (· (cbv; try rfl)); (· intro wc hbc hxc; exact h3 wc hbc _ (hq (by assumption) (of_decide_eq_true (by assumption))).2.1.1 (hq (by assumption) (of_decide_eq_true (by assumption))).2.1.2))
    | (((with_reducible apply go_ev hT (zA + 4)); (· cbv); (try with_reducible refine out_eq (by rewrite [hzA]; cbv) ?_); (try with_reducible refine out_eq (by rewrite [hzB]; cbv) ?_); (try with_reducible refine out_eq (by rewrite [hzC]; cbv) ?_)))
    | fail)
   all_goals first
    | (exact ((v3 (by assumption) (by assumption) (by assumption)).trans (b0 _ (b1 (by assumption)))).symm)
    | (exact ((v3 (by assumption) (by assumption) (by assumption)).trans (b0 _ (b2 (by assumption)))).symm)
    | (exact ((v3 (by assumption) (by assumption) (by assumption)).trans (b0 _ (b3 (by assumption) (by assumption)))).symm)
   all_goals trace_state
end Go.Proofs.YtmceonmlgcbcmaaGreat

