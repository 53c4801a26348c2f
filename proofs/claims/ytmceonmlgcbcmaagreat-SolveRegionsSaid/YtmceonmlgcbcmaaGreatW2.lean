/- Texts joined: LwG LwH LwI. No condition. -/
import Derived.Test.YtmceonmlgcbcmaaGreatLwF
/- Layer 6 of the reference: which locals a jump uses. No condition. -/
namespace Go.Proofs.YtmceonmlgcbcmaaGreat
open Go.RowKit
set_option linter.unusedVariables false
set_option linter.unusedSimpArgs false
theorem jm_opK {F : GFun} {b : Nat} (hok : (F.jump b).ok = true) : ∀ i, i < F.jn b → (F.ja b i).k = 1 ∨ (F.ja b i).k = 2 ∨ (F.ja b i).k = 3 := fun i hi => by
 by_cases hk : F.jk b = 4
 · simp only [GJump.ok, GFun.jump, Bool.or_eq_true, Bool.and_eq_true, beq_iff_eq, decide_eq_true_eq] at hok
   have : (argL (F.jn b) (F.ja b)).all GOper.ok = true := by grind
   rw [argL, List.all_map, List.all_eq_true] at this
   exact ok_opK (this i (List.mem_range.2 hi))
 · exfalso
   simp only [GJump.ok, GJump.bare, GPlace.eqB, GFun.jump, Bool.or_eq_true, Bool.and_eq_true, beq_iff_eq, decide_eq_true_eq] at hok
   have hl := argL_len (F.jn b) (F.ja b)
   have hn : (argL (F.jn b) (F.ja b)).isEmpty = true := by grind
   rw [List.isEmpty_iff] at hn
   rw [hn] at hl
   simp at hl; omega
theorem wLwG_0 {p : Prop} (h : p := by (first | (cbv; (try simp only [true_and, and_true]); (try ((repeat' apply And.intro) <;> (first | trivial | rfl | exact RowLe.rfl' _ | decide | (rw [wrap_nat har _ (by omega)]; done) | ((rw [t0]; done)) | ((rw [t1 i (hP1 i (by assumption) (of_decide_eq_false (by assumption)) (of_decide_eq_false (by assumption)))]; done)) | ((rw [wrap_nat har i (by have := hj b; omega)])) | fail))); done) | fail)) : Pf p := ⟨h⟩
theorem wLwG_1 {p : Prop} (h : p := by (first | (cbv; (try simp only [true_and, and_true]); (try ((repeat' apply And.intro) <;> (first | trivial | rfl | exact RowLe.rfl' _ | decide | (rw [wrap_nat har _ (by omega)]; done) | ((rw [t0]; done)) | ((rw [t1 i (hP1 i (by assumption) (of_decide_eq_false (by assumption)) (of_decide_eq_false (by assumption)))]; done)) | ((rw [wrap_nat har i (by have := hj b; omega)])) | fail))); done) | fail)) : Pf p := ⟨h⟩
theorem wLwG_2 {p : Prop} (h : p := by (first | (cbv; (try simp only [true_and, and_true]); (try ((repeat' apply And.intro) <;> (first | trivial | rfl | exact RowLe.rfl' _ | decide | (rw [wrap_nat har _ (by omega)]; done) | ((rw [t0]; done)) | ((rw [t1 i (hP1 i (by assumption) (of_decide_eq_false (by assumption)) (of_decide_eq_false (by assumption)))]; done)) | ((rw [wrap_nat har i (by have := hj b; omega)])) | fail))); done) | fail)) : Pf p := ⟨h⟩
set_option maxRecDepth 100000 in
set_option maxHeartbeats 8000000 in
theorem rUsed06N (F : GFun) (b : Nat) (w : World) (hF : F.At w) (hok : (F.jump b).ok = true) (hk2 : F.jk b ≠ 2) :
 Calls Tryz.prog 162 #[jmpV F b] w (Ret w (arrV (jmS F b))) := by
 have h3 := jm_in3 hok
 have hO := jm_opK hok
 have hd := jm_inD hok
 have h5 (wc : World) := rWhole05C (F.jd b).l (F.jd b).f (F.jd b).d wc
 obtain ⟨z, hz⟩ : ∃ z, z = wholeP (F.jd b) := ⟨_, rfl⟩
 have hw : wholeP ⟨(F.jd b).l, (F.jd b).d, (F.jd b).f⟩ = z := hz.symm
 rw [hw] at h5
 rw [← hz] at hd
 obtain ⟨T, hT0⟩ : ∃ T, T = opsS (F.ja b) := ⟨_, rfl⟩
 have t0 : T 0 = fun _ => false := by rw [hT0]; rfl
 have t1 : ∀ i, (F.ja b i).k = 1 → T (i + 1) = T i := fun i h => by rw [hT0]; simp only [opsS, if_pos h]
 have t2 : ∀ i, (F.ja b i).k ≠ 1 → T (i + 1) = turn (T i) (F.ja b i).p.l.toNat true := fun i h => by rw [hT0]; simp only [opsS, if_neg h]
 obtain ⟨y, hy⟩ : ∃ y : Nat → Bool, y = if z = true then (if F.jk b = 3 then turn (T (F.jn b)) 0 true else T (F.jn b)) else turn (if F.jk b = 3 then turn (T (F.jn b)) 0 true else T (F.jn b)) (F.jd b).l.toNat true := ⟨_, rfl⟩
 have e : jmS F b = y := by
  rw [hy]; unfold jmS tdS; rw [if_neg hk2, hT0, hz]
 rw [e]
 clear e hT0 hz hw hok
 have hP1 : ∀ i, i < F.jn b → (F.ja b i).k ≠ 2 → (F.ja b i).k ≠ 3 → (F.ja b i).k = 1 := fun i hi h1 h2 => by have := hO i hi; omega
 have hP2 : ∀ i, (F.ja b i).k = 2 ∨ (F.ja b i).k = 3 → (F.ja b i).k ≠ 1 := fun i h => by omega
 clear hO
 have q2' : decide (F.jk b = 2) = false := decide_eq_false hk2
 clear hk2
 by_cases hk3 : F.jk b = 3
 · have hz : z = true := by
    cases z
    · have := (hd rfl).1; omega
    · rfl
   subst hz
   simp only [if_true, if_pos hk3] at hy
   have q3' : decide (F.jk b = 3) = true := decide_eq_true hk3
   clear hd
   obtain ⟨pa, un, lA, ln, lc, lk, lt, bA, bn, bc, sA, sn, sc, s, jA, jn, jc, ja, jk, jo, jf, jx, je, jd⟩ := F
   obtain ⟨hX, hl, hb, hs, hj⟩ := hF
   simp only at hl hb hs hj
   simp only at h3 h5 t1 t2 hy hP1 hP2 q2' q3' hk3
   refine go_start (args := [.pt (.agg [.int .u8 (jk b), .int .u8 (jo b).k, .int .i64 (jo b).n, .int .i64 (jo b).p.l, .bool (jo b).p.d, .int .u8 (jo b).p.f, .int .i64 (jf b), .int .i64 (jx b), .int .i64 (je b), .xs 3 b, .int .i64 (jd b).l, .bool (jd b).d, .int .u8 (jd b).f])]) (c := (funX ⟨pa, un, lA, ln, lc, lk, lt, bA, bn, bc, sA, sn, sc, s, jA, jn, jc, ja, jk, jo, jf, jx, je, jd⟩)) Tryz.func162 rfl hX rfl rfl ?_
   obtain ⟨nd, hnd, nt, hnt, ar, har, cm, hcm, mx, hmx, mn, hmn, ar01, ar12, zpl, hzpl, zjn, hzjn, zup, hzup, zmi, hzmi, zdp, hzdp, hT⟩ := t0_all
   repeat' (first
    | refine go1 ?_ | refine gobt ?_ | refine gobn ?_ | refine go3 (fun hlt => ?_) (fun hge => ?_) | refine go2 (fun h => ?_) (fun h => ?_) | refine gof ?_
    | ((with_reducible apply go_inline (f := 136) (hf := Tryz.func136) (hr := Tryz.results136) (hcall := Tryz.call136)); (· rfl); (· (cbv; try rfl)))
    | ((with_reducible apply go_inline (f := 135) (hf := Tryz.func135) (hr := Tryz.results135) (hcall := Tryz.call135)); (· rfl); (· (cbv; try rfl)))
    | ((with_reducible apply go_call (f := 185) (hf := Tryz.call185)); (· (cbv; try rfl)); (· intro wc hbc hxc; exact h5 wc))
    | ((with_reducible refine go_loopk (σ := {i : Nat // i ≤ jn b}) [8, 9, 10, 11, 12, 13, 14, 15, 16, 17, 18, 19, 20, 21, 22, 23, 24, 25] (fun x => [(5, .pt (.one (.int .i64 (.ofNat x.1))))]) (fun x => [(2, arrB (T x.1))]) (fun x => []) (fun x => jn b - x.1) ⟨0, by omega⟩ ?_ ?_ ?_ ?_); (· exact le_mkP wLwG_0 wLwG_0 wLwG_0 wLwG_0); (· (cbv; try rfl)); (· simp); (rintro ⟨i, hi⟩ mm hmm))
    | ((with_reducible refine go_stop (⟨i + 1, by omega⟩ : {i : Nat // i ≤ jn b}) ?_ ?_ ?_ ?_); (· exact Nat.lt_of_lt_of_eq (show jn b - (i + 1) < jn b - i from by omega) (Eq.symm (by assumption))); (· exact le_mkP wLwG_0 wLwG_0 wLwG_0 wLwG_0); (· (cbv; try rfl)); (· simp))
    | (((with_reducible apply go_need); (· exact (h3 _ (by assumption) (hP2 i (by first | exact .inl (of_decide_eq_true (by assumption)) | exact .inr (of_decide_eq_true (by assumption))))).1); (· have hq := (h3 _ (by assumption) (hP2 i (by first | exact .inl (of_decide_eq_true (by assumption)) | exact .inr (of_decide_eq_true (by assumption))))).2; omega)))
    | (((with_reducible apply go_askB (arrB (T (i + 1)))); (· have hq := h3 i (by assumption) (hP2 i (by first | exact .inl (of_decide_eq_true (by assumption)) | exact .inr (of_decide_eq_true (by assumption)))); exact lt_of_eq_of_lt (off2 (ja b i).p.l) (by show _ < 16; omega)); (· have hk := hP2 i (by first | exact .inl (of_decide_eq_true (by assumption)) | exact .inr (of_decide_eq_true (by assumption))); have hq := h3 i (by assumption) hk; have hp := arrB_putL (T i) true (o := (ja b i).p.l.toNat) (by omega); rw [t2 i hk]; exact Eq.mpr (congrArg (fun o => leCL (pasteL (arrB (T i)) o [.lit true]) (arrB (turn (T i) (ja b i).p.l.toNat true))) (off2 (ja b i).p.l)) hp); (· rfl); (· simp)))
    | (((with_reducible apply go_askB (arrB y)); (· exact Nat.zero_lt_succ _); (· have e : i = jn b := (by omega); subst e; rw [hy]; exact arrB_putL (T (jn b)) true (o := 0) (by decide)); (· rfl); (· simp)))
    | fail)
   all_goals (first | rfl | (have e : i = jn b := (by omega); subst e; rw [hy]; rfl))
 · have q3' : decide (F.jk b = 3) = false := decide_eq_false hk3
   simp only [if_neg hk3] at hy
   cases z
   · have hd := hd rfl
     simp only [Bool.false_eq_true, if_false] at hy
     obtain ⟨pa, un, lA, ln, lc, lk, lt, bA, bn, bc, sA, sn, sc, s, jA, jn, jc, ja, jk, jo, jf, jx, je, jd⟩ := F
     obtain ⟨hX, hl, hb, hs, hj⟩ := hF
     simp only at hl hb hs hj
     simp only at h3 h5 t1 t2 hy hP1 hP2 q2' q3' hd
     have q4' : decide (jk b = 4) = true := decide_eq_true hd.1
     refine go_start (args := [.pt (.agg [.int .u8 (jk b), .int .u8 (jo b).k, .int .i64 (jo b).n, .int .i64 (jo b).p.l, .bool (jo b).p.d, .int .u8 (jo b).p.f, .int .i64 (jf b), .int .i64 (jx b), .int .i64 (je b), .xs 3 b, .int .i64 (jd b).l, .bool (jd b).d, .int .u8 (jd b).f])]) (c := (funX ⟨pa, un, lA, ln, lc, lk, lt, bA, bn, bc, sA, sn, sc, s, jA, jn, jc, ja, jk, jo, jf, jx, je, jd⟩)) Tryz.func162 rfl hX rfl rfl ?_
     obtain ⟨nd, hnd, nt, hnt, ar, har, cm, hcm, mx, hmx, mn, hmn, ar01, ar12, zpl, hzpl, zjn, hzjn, zup, hzup, zmi, hzmi, zdp, hzdp, hT⟩ := t0_all
     repeat' (first
      | refine go1 ?_ | refine gobt ?_ | refine gobn ?_ | refine go3 (fun hlt => ?_) (fun hge => ?_) | refine go2 (fun h => ?_) (fun h => ?_) | refine gof ?_
      | ((with_reducible apply go_inline (f := 136) (hf := Tryz.func136) (hr := Tryz.results136) (hcall := Tryz.call136)); (· rfl); (· (cbv; try rfl)))
      | ((with_reducible apply go_inline (f := 135) (hf := Tryz.func135) (hr := Tryz.results135) (hcall := Tryz.call135)); (· rfl); (· (cbv; try rfl)))
      | ((with_reducible apply go_call (f := 185) (hf := Tryz.call185)); (· (cbv; try rfl)); (· intro wc hbc hxc; exact h5 wc))
      | ((with_reducible refine go_loopk (σ := {i : Nat // i ≤ jn b}) [8, 9, 10, 11, 12, 13, 14, 15, 16, 17, 18, 19, 20, 21, 22, 23, 24, 25] (fun x => [(5, .pt (.one (.int .i64 (.ofNat x.1))))]) (fun x => [(2, arrB (T x.1))]) (fun x => []) (fun x => jn b - x.1) ⟨0, by omega⟩ ?_ ?_ ?_ ?_); (· exact le_mkP wLwG_1 wLwG_1 wLwG_1 wLwG_1); (· (cbv; try rfl)); (· simp); (rintro ⟨i, hi⟩ mm hmm))
      | ((with_reducible refine go_stop (⟨i + 1, by omega⟩ : {i : Nat // i ≤ jn b}) ?_ ?_ ?_ ?_); (· exact Nat.lt_of_lt_of_eq (show jn b - (i + 1) < jn b - i from by omega) (Eq.symm (by assumption))); (· exact le_mkP wLwG_1 wLwG_1 wLwG_1 wLwG_1); (· (cbv; try rfl)); (· simp))
      | (((with_reducible apply go_need); (· exact (h3 _ (by assumption) (hP2 i (by first | exact .inl (of_decide_eq_true (by assumption)) | exact .inr (of_decide_eq_true (by assumption))))).1); (· have hq := (h3 _ (by assumption) (hP2 i (by first | exact .inl (of_decide_eq_true (by assumption)) | exact .inr (of_decide_eq_true (by assumption))))).2; omega)))
      | (((with_reducible apply go_askB (arrB (T (i + 1)))); (· have hq := h3 i (by assumption) (hP2 i (by first | exact .inl (of_decide_eq_true (by assumption)) | exact .inr (of_decide_eq_true (by assumption)))); exact lt_of_eq_of_lt (off2 (ja b i).p.l) (by show _ < 16; omega)); (· have hk := hP2 i (by first | exact .inl (of_decide_eq_true (by assumption)) | exact .inr (of_decide_eq_true (by assumption))); have hq := h3 i (by assumption) hk; have hp := arrB_putL (T i) true (o := (ja b i).p.l.toNat) (by omega); rw [t2 i hk]; exact Eq.mpr (congrArg (fun o => leCL (pasteL (arrB (T i)) o [.lit true]) (arrB (turn (T i) (ja b i).p.l.toNat true))) (off2 (ja b i).p.l)) hp); (· rfl); (· simp)))
      | (((with_reducible apply go_need); (· exact hd.2.1); (· have := hd.2.2; omega)))
      | (((with_reducible apply go_askB (arrB y)); (· exact lt_of_eq_of_lt (off2 (jd b).l) (by have := hd.2; show _ < 16; omega)); (· have e : i = jn b := (by omega); subst e; have hq := arrB_putL (T (jn b)) true (o := (jd b).l.toNat) (by have := hd.2; omega); rw [hy]; exact Eq.mpr (congrArg (fun o => leCL (pasteL (arrB (T (jn b))) o [.lit true]) (arrB (turn (T (jn b)) (jd b).l.toNat true))) (off2 (jd b).l)) hq); (· rfl); (· simp)))
      | fail)
     all_goals (first | rfl | (have e : i = jn b := (by omega); subst e; rw [hy]; rfl))
   · simp only [if_true] at hy
     clear hd
     obtain ⟨pa, un, lA, ln, lc, lk, lt, bA, bn, bc, sA, sn, sc, s, jA, jn, jc, ja, jk, jo, jf, jx, je, jd⟩ := F
     obtain ⟨hX, hl, hb, hs, hj⟩ := hF
     simp only at hl hb hs hj
     simp only at h3 h5 t1 t2 hy hP1 hP2 q2' q3'
     refine go_start (args := [.pt (.agg [.int .u8 (jk b), .int .u8 (jo b).k, .int .i64 (jo b).n, .int .i64 (jo b).p.l, .bool (jo b).p.d, .int .u8 (jo b).p.f, .int .i64 (jf b), .int .i64 (jx b), .int .i64 (je b), .xs 3 b, .int .i64 (jd b).l, .bool (jd b).d, .int .u8 (jd b).f])]) (c := (funX ⟨pa, un, lA, ln, lc, lk, lt, bA, bn, bc, sA, sn, sc, s, jA, jn, jc, ja, jk, jo, jf, jx, je, jd⟩)) Tryz.func162 rfl hX rfl rfl ?_
     obtain ⟨nd, hnd, nt, hnt, ar, har, cm, hcm, mx, hmx, mn, hmn, ar01, ar12, zpl, hzpl, zjn, hzjn, zup, hzup, zmi, hzmi, zdp, hzdp, hT⟩ := t0_all
     repeat' (first
      | refine go1 ?_ | refine gobt ?_ | refine gobn ?_ | refine go3 (fun hlt => ?_) (fun hge => ?_) | refine go2 (fun h => ?_) (fun h => ?_) | refine gof ?_
      | ((with_reducible apply go_inline (f := 136) (hf := Tryz.func136) (hr := Tryz.results136) (hcall := Tryz.call136)); (· rfl); (· (cbv; try rfl)))
      | ((with_reducible apply go_inline (f := 135) (hf := Tryz.func135) (hr := Tryz.results135) (hcall := Tryz.call135)); (· rfl); (· (cbv; try rfl)))
      | ((with_reducible apply go_call (f := 185) (hf := Tryz.call185)); (· (cbv; try rfl)); (· intro wc hbc hxc; exact h5 wc))
      | ((with_reducible refine go_loopk (σ := {i : Nat // i ≤ jn b}) [8, 9, 10, 11, 12, 13, 14, 15, 16, 17, 18, 19, 20, 21, 22, 23, 24, 25] (fun x => [(5, .pt (.one (.int .i64 (.ofNat x.1))))]) (fun x => [(2, arrB (T x.1))]) (fun x => []) (fun x => jn b - x.1) ⟨0, by omega⟩ ?_ ?_ ?_ ?_); (· exact le_mkP wLwG_2 wLwG_2 wLwG_2 wLwG_2); (· (cbv; try rfl)); (· simp); (rintro ⟨i, hi⟩ mm hmm))
      | ((with_reducible refine go_stop (⟨i + 1, by omega⟩ : {i : Nat // i ≤ jn b}) ?_ ?_ ?_ ?_); (· exact Nat.lt_of_lt_of_eq (show jn b - (i + 1) < jn b - i from by omega) (Eq.symm (by assumption))); (· exact le_mkP wLwG_2 wLwG_2 wLwG_2 wLwG_2); (· (cbv; try rfl)); (· simp))
      | (((with_reducible apply go_need); (· exact (h3 _ (by assumption) (hP2 i (by first | exact .inl (of_decide_eq_true (by assumption)) | exact .inr (of_decide_eq_true (by assumption))))).1); (· have hq := (h3 _ (by assumption) (hP2 i (by first | exact .inl (of_decide_eq_true (by assumption)) | exact .inr (of_decide_eq_true (by assumption))))).2; omega)))
      | (((with_reducible apply go_askB (arrB (T (i + 1)))); (· have hq := h3 i (by assumption) (hP2 i (by first | exact .inl (of_decide_eq_true (by assumption)) | exact .inr (of_decide_eq_true (by assumption)))); exact lt_of_eq_of_lt (off2 (ja b i).p.l) (by show _ < 16; omega)); (· have hk := hP2 i (by first | exact .inl (of_decide_eq_true (by assumption)) | exact .inr (of_decide_eq_true (by assumption))); have hq := h3 i (by assumption) hk; have hp := arrB_putL (T i) true (o := (ja b i).p.l.toNat) (by omega); rw [t2 i hk]; exact Eq.mpr (congrArg (fun o => leCL (pasteL (arrB (T i)) o [.lit true]) (arrB (turn (T i) (ja b i).p.l.toNat true))) (off2 (ja b i).p.l)) hp); (· rfl); (· simp)))
      | fail)
     all_goals (first | rfl | (have e : i = jn b := (by omega); subst e; rw [hy]; rfl))
end Go.Proofs.YtmceonmlgcbcmaaGreat
/- Layer 6 of the reference: which locals a branch uses; a point's. No condition. -/
namespace Go.Proofs.YtmceonmlgcbcmaaGreat
open Go.RowKit
set_option linter.unusedVariables false
set_option linter.unusedSimpArgs false
set_option maxRecDepth 100000 in
set_option maxHeartbeats 8000000 in
theorem rUsed06B (F : GFun) (b : Nat) (w : World) (hF : F.At w) (hok : (F.jump b).ok = true) (hk2 : F.jk b = 2) :
 Calls Tryz.prog 162 #[jmpV F b] w (Ret w (arrV (jmS F b))) := by
 have h3 := jm_in2 hok hk2
 have hO : (F.jo b).k = 1 ∨ (F.jo b).k = 2 ∨ (F.jo b).k = 3 := by
  have : (F.jo b).ok = true := by
   simp only [GJump.ok, GFun.jump, Bool.or_eq_true, Bool.and_eq_true, beq_iff_eq, decide_eq_true_eq] at hok
   grind
  exact ok_opK this
 have hd := jm_inD hok
 have hz : wholeP (F.jd b) = true := by
  cases h : wholeP (F.jd b)
  · have := (hd h).1; omega
  · rfl
 obtain ⟨y, hy⟩ : ∃ y : Nat → Bool, y = if (F.jo b).k = 1 then (fun _ => false) else turn (fun _ => false) (F.jo b).p.l.toNat true := ⟨_, rfl⟩
 have e : jmS F b = y := by
  rw [hy]; unfold jmS tdS; rw [if_pos hk2, hz, if_neg (show ¬ F.jk b = 3 by omega)]; rfl
 rw [e]
 have hP1 : (F.jo b).k ≠ 2 → (F.jo b).k ≠ 3 → (F.jo b).k = 1 := fun h1 h2 => by omega
 have hP2 : (F.jo b).k = 2 ∨ (F.jo b).k = 3 → (F.jo b).k ≠ 1 := fun h => by omega
 have q2' : decide (F.jk b = 2) = true := decide_eq_true hk2
 have q3' : decide (F.jk b = 3) = false := decide_eq_false (by omega)
 have q4' : decide (F.jk b = 4) = false := decide_eq_false (by omega)
 clear e hd hz hok hO hk2
 obtain ⟨pa, un, lA, ln, lc, lk, lt, bA, bn, bc, sA, sn, sc, s, jA, jn, jc, ja, jk, jo, jf, jx, je, jd⟩ := F
 obtain ⟨hX, hl, hb, hs, hj⟩ := hF
 simp only at hl hb hs hj
 simp only at h3 hy hP1 hP2 q2' q3' q4'
 refine go_start (args := [.pt (.agg [.int .u8 (jk b), .int .u8 (jo b).k, .int .i64 (jo b).n, .int .i64 (jo b).p.l, .bool (jo b).p.d, .int .u8 (jo b).p.f, .int .i64 (jf b), .int .i64 (jx b), .int .i64 (je b), .xs 3 b, .int .i64 (jd b).l, .bool (jd b).d, .int .u8 (jd b).f])]) (c := (funX ⟨pa, un, lA, ln, lc, lk, lt, bA, bn, bc, sA, sn, sc, s, jA, jn, jc, ja, jk, jo, jf, jx, je, jd⟩)) Tryz.func162 rfl hX rfl rfl ?_
 obtain ⟨nd, hnd, nt, hnt, ar, har, cm, hcm, mx, hmx, mn, hmn, ar01, ar12, zpl, hzpl, zjn, hzjn, zup, hzup, zmi, hzmi, zdp, hzdp, hT⟩ := t0_all
 repeat' (first
  | ((with_reducible apply go_ev hT 400); (· (cbv; try rfl)); (fail_if_success with_reducible apply stuck_id); (try simp only [ar01, ar12]))
  | refine go1 ?_ | refine gobt ?_ | refine go2 (fun h => ?_) (fun h => ?_) | refine gof ?_
  | ((with_reducible apply go_inline (f := 136) (hf := Tryz.func136) (hr := Tryz.results136) (hcall := Tryz.call136)); (· rfl); (· (cbv; try rfl)))
  | ((with_reducible apply go_inline (f := 135) (hf := Tryz.func135) (hr := Tryz.results135) (hcall := Tryz.call135)); (· rfl); (· (cbv; try rfl)))
  | (with_reducible apply go_rounds 3)
  | (((with_reducible apply go_need); (· exact (h3 (hP2 (by first | exact .inl (of_decide_eq_true (by assumption)) | exact .inr (of_decide_eq_true (by assumption))))).1); (· have hq := (h3 (hP2 (by first | exact .inl (of_decide_eq_true (by assumption)) | exact .inr (of_decide_eq_true (by assumption))))).2; omega)))
  | (((with_reducible apply go_askB (arrB y)); (· have hq := h3 (hP2 (by first | exact .inl (of_decide_eq_true (by assumption)) | exact .inr (of_decide_eq_true (by assumption)))); exact lt_of_eq_of_lt (off2 (jo b).p.l) (by show _ < 16; omega)); (· have hk := (hP2 (by first | exact .inl (of_decide_eq_true (by assumption)) | exact .inr (of_decide_eq_true (by assumption)))); have hq := h3 hk; have hp := arr0_putL true (o := (jo b).p.l.toNat) (by omega); rw [hy, if_neg hk]; (have ho := off2 (jo b).p.l); refine (congrArg (fun o => leCL (pasteL [.lit false, .lit false, .lit false, .lit false, .lit false, .lit false, .lit false, .lit false, .lit false, .lit false, .lit false, .lit false, .lit false, .lit false, .lit false, .lit false] o [.lit true]) (arrB (turn (fun _ => false) (jo b).p.l.toNat true))) ho).mpr hp); (· rfl); (· simp)))
  | fail)
 all_goals (first | rfl | (rw [hy, if_pos (hP1 (of_decide_eq_false (by assumption)) (of_decide_eq_false (by assumption)))]; rfl) | trace_state)
theorem rUsed06C (F : GFun) (b : Nat) (w : World) (hF : F.At w) (hok : (F.jump b).ok = true) :
 Calls Tryz.prog 162 #[jmpV F b] w (Ret w (arrV (jmS F b))) := by
 by_cases h : F.jk b = 2
 · exact rUsed06B F b w hF hok h
 · exact rUsed06N F b w hF hok h
end Go.Proofs.YtmceonmlgcbcmaaGreat
/- Layer 16 of the reference: which locals a point uses. No condition. -/
namespace Go.Proofs.YtmceonmlgcbcmaaGreat
open Go.RowKit
set_option linter.unusedVariables false
set_option linter.unusedSimpArgs false
theorem us_at {F : GFun} {n : Nat} : (fun l => usC F (pbN F n) (piN F n) l) = if isAt F n = true then usS (stAt F n) else fun l => decide (l < 16) && jmS F (pbN F n) l := by
 unfold usC isAt stAt
 by_cases h : piN F n < F.sn (pbN F n)
 · simp only [if_pos h, decide_eq_true h, if_true]
 · simp only [if_neg h, decide_eq_false h, Bool.false_eq_true, if_false]
set_option maxRecDepth 100000 in
set_option maxHeartbeats 8000000 in
theorem rUsed16C (F : GFun) (w : World) (hF : F.At w) (hO : F.Ok) (n : Nat) (hn : n < stN F.sn F.bn) :
 Calls Tryz.prog 127 #[F.val, .int .i64 (.ofNat n)] w (Ret w (arrV (fun l => uB F (pbN F n) (piN F n) l))) := by
 have hS0 (wc : World) (hk : KB ⟨w, []⟩ wc) := stmtN F wc (hF.later hk) hO.small n hn
 have h1 (wc : World) (hk : KB ⟨w, []⟩ wc) := rJumpC F wc (hF.later hk) hO.small n hn
 have h2 (wc : World) (hk : KB ⟨w, []⟩ wc) := rUsed06C F (pbN F n) wc (hF.later hk) (hO.okJ (num_pt hn).1)
 have h3 (hi : isAt F n = true) (wc : World) := rUsed05C (stAt F n) (by
  have hi := of_decide_eq_true hi
  unfold stAt; rw [if_pos hi]; exact hO.okS (num_pt hn).1 hi) wc
 obtain ⟨U, hU⟩ : ∃ U, U = fun l => uB F (pbN F n) (piN F n) l := ⟨_, rfl⟩
 rw [← hU]
 have hU2 : U = if isAt F n = true then usS (stAt F n) else fun l => decide (l < 16) && jmS F (pbN F n) l := by
  rw [hU, ← us_at]; funext l; exact uB_is _ _ _ _
 clear hU
 obtain ⟨J, hJ⟩ : ∃ J, J = jmS F (pbN F n) := ⟨_, rfl⟩
 rw [← hJ] at h2 hU2
 obtain ⟨s, hs'⟩ : ∃ s, s = stAt F n := ⟨_, rfl⟩
 rw [← hs'] at hS0 hU2 h3
 obtain ⟨ia, hi'⟩ : ∃ s, s = isAt F n := ⟨_, rfl⟩
 rw [← hi'] at hS0 hU2 h3
 obtain ⟨T, hT0⟩ : ∃ T, T = usS s := ⟨_, rfl⟩
 rw [← hT0] at h3 hU2
 have hS (wc : World) (hk : KB ⟨w, []⟩ wc) : Calls Tryz.prog 49 #[F.val, .int .i64 (.ofNat n)] wc (Ret wc (.tuple #[s.val, .bool ia])) := hS0 wc hk
 obtain ⟨pb, hb'⟩ : ∃ b, b = pbN F n := ⟨_, rfl⟩
 rw [← hb'] at h1 h2
 clear hb' hS0 hs' hi' hn hO hJ hT0
 obtain ⟨yk, ⟨ql, qd, qf⟩, ⟨rk, ro, rb, ⟨ak, an, ⟨al, ad, af⟩⟩, ⟨ek, en, ⟨el, ed, ef⟩⟩, ⟨gl, gd, gf⟩⟩, ⟨ck, cn, ⟨cl, cd, cf⟩⟩, yl⟩ := s
 cases ia
 · have e : arrV U = arrV J := arrV_ext fun l hl => by rw [hU2]; simp [hl]
   rw [e]
   clear h3 hU2 e
   obtain ⟨pa, un, lA, ln, lc, lk, lt, bA, bn, bc, sA, sn, sc, s, jA, jn, jc, ja, jk, jo, jf, jx, je, jd⟩ := F
   obtain ⟨hX, hl, hb, hs, hj⟩ := hF
   simp only at hl hb hs hj
   refine go_start (args := [.pt (.agg (GFun.dat ⟨pa, un, lA, ln, lc, lk, lt, bA, bn, bc, sA, sn, sc, s, jA, jn, jc, ja, jk, jo, jf, jx, je, jd⟩)), .pt (.one (.int .i64 (.ofNat n)))]) (c := (funX ⟨pa, un, lA, ln, lc, lk, lt, bA, bn, bc, sA, sn, sc, s, jA, jn, jc, ja, jk, jo, jf, jx, je, jd⟩)) Tryz.func127 rfl hX rfl rfl ?_
   obtain ⟨nd, hnd, nt, hnt, ar, har, cm, hcm, mx, hmx, mn, hmn, ar01, ar12, zpl, hzpl, zjn, hzjn, zup, hzup, zmi, hzmi, zdp, hzdp, hT⟩ := t0_all
   repeat' (first
    | refine go1 ?_ | refine gobt ?_
    | ((with_reducible apply go_call (f := 49) (hf := Tryz.call49)); (· (cbv; try rfl)); (· intro wc hbc hxc; exact hS wc hbc))
    | ((with_reducible apply go_call (f := 163) (hf := Tryz.call163)); (· (cbv; try rfl)); (· intro wc hbc hxc; exact h1 wc hbc))
    | ((with_reducible apply go_call (f := 162) (hf := Tryz.call162)); (· (cbv; try rfl)); (· intro wc hbc hxc; exact h2 wc hbc))
    | fail)
   all_goals rfl
 · have h3 := h3 rfl
   have e : U = T := by rw [hU2]; simp
   rw [e]
   clear hU2 e
   obtain ⟨pa, un, lA, ln, lc, lk, lt, bA, bn, bc, sA, sn, sc, s, jA, jn, jc, ja, jk, jo, jf, jx, je, jd⟩ := F
   obtain ⟨hX, hl, hb, hs, hj⟩ := hF
   simp only at hl hb hs hj
   refine go_start (args := [.pt (.agg (GFun.dat ⟨pa, un, lA, ln, lc, lk, lt, bA, bn, bc, sA, sn, sc, s, jA, jn, jc, ja, jk, jo, jf, jx, je, jd⟩)), .pt (.one (.int .i64 (.ofNat n)))]) (c := (funX ⟨pa, un, lA, ln, lc, lk, lt, bA, bn, bc, sA, sn, sc, s, jA, jn, jc, ja, jk, jo, jf, jx, je, jd⟩)) Tryz.func127 rfl hX rfl rfl ?_
   obtain ⟨nd, hnd, nt, hnt, ar, har, cm, hcm, mx, hmx, mn, hmn, ar01, ar12, zpl, hzpl, zjn, hzjn, zup, hzup, zmi, hzmi, zdp, hzdp, hT⟩ := t0_all
   repeat' (first
    | refine go1 ?_ | refine gobt ?_
    | ((with_reducible apply go_call (f := 49) (hf := Tryz.call49)); (· (cbv; try rfl)); (· intro wc hbc hxc; exact hS wc hbc))
    | ((with_reducible apply go_call (f := 161) (hf := Tryz.call161)); (· (cbv; try rfl)); (· intro wc hbc hxc; exact h3 wc))
    | fail)
   all_goals rfl
end Go.Proofs.YtmceonmlgcbcmaaGreat
