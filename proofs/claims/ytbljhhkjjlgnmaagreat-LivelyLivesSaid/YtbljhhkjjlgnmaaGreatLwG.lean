/- Layer 6 of the reference: which locals a jump uses. No condition. -/
import Derived.Test.YtbljhhkjjlgnmaaGreatLwF
namespace Go.Proofs.YtbljhhkjjlgnmaaGreat
open Go.RowKit
set_option linter.unusedVariables false
set_option linter.unusedSimpArgs false

theorem jm_opK {F : GFun} {b : Nat} (hok : (F.jump b).ok = true) : ∀ i, i < F.jn b → (F.ja b i).k = 1 ∨ (F.ja b i).k = 2 ∨ (F.ja b i).k = 3 := fun i hi => by
  by_cases hk : F.jk b = 4
  · simp only [GJump.ok, GFun.jump, Bool.or_eq_true, Bool.and_eq_true, beq_iff_eq, decide_eq_true_eq] at hok
    have : (argL (F.jn b) (F.ja b)).all GOper.ok = true := by grind
    rw [argL, List.all_map, List.all_eq_true] at this
    exact ok_opK (this i (List.mem_range.2 hi))
  · exfalso
    simp only [GJump.ok, GJump.bare, GPlace.eqB, GFun.jump, Bool.or_eq_true, Bool.and_eq_true, beq_iff_eq, decide_eq_true_eq] at hok
    have hl := argL_len (F.jn b) (F.ja b)
    have hn : (argL (F.jn b) (F.ja b)).isEmpty = true := by grind
    rw [List.isEmpty_iff] at hn
    rw [hn] at hl
    simp at hl; omega

theorem wLwG_0 {p : Prop} (h : p := by (first | (cbv; (try simp only [true_and, and_true]); (try ((repeat' apply And.intro) <;> (first | trivial | rfl | exact RowLe.rfl' _ | decide | (rw [wrap_nat har _ (by omega)]; done) | ((rw [t0]; done)) | ((rw [t1 i (hP1 i (by assumption) (of_decide_eq_false (by assumption)) (of_decide_eq_false (by assumption)))]; done)) | ((rw [wrap_nat har i (by have := hj b; omega)])) | fail))); done) | fail)) : Pf p := ⟨h⟩
theorem wLwG_1 {p : Prop} (h : p := by (first | (cbv; (try simp only [true_and, and_true]); (try ((repeat' apply And.intro) <;> (first | trivial | rfl | exact RowLe.rfl' _ | decide | (rw [wrap_nat har _ (by omega)]; done) | ((rw [t0]; done)) | ((rw [t1 i (hP1 i (by assumption) (of_decide_eq_false (by assumption)) (of_decide_eq_false (by assumption)))]; done)) | ((rw [wrap_nat har i (by have := hj b; omega)])) | fail))); done) | fail)) : Pf p := ⟨h⟩
theorem wLwG_2 {p : Prop} (h : p := by (first | (cbv; (try simp only [true_and, and_true]); (try ((repeat' apply And.intro) <;> (first | trivial | rfl | exact RowLe.rfl' _ | decide | (rw [wrap_nat har _ (by omega)]; done) | ((rw [t0]; done)) | ((rw [t1 i (hP1 i (by assumption) (of_decide_eq_false (by assumption)) (of_decide_eq_false (by assumption)))]; done)) | ((rw [wrap_nat har i (by have := hj b; omega)])) | fail))); done) | fail)) : Pf p := ⟨h⟩
set_option maxRecDepth 100000 in
set_option maxHeartbeats 8000000 in
theorem rUsed06N (F : GFun) (b : Nat) (w : World) (hF : F.At w) (hok : (F.jump b).ok = true) (hk2 : F.jk b ≠ 2) :
    Calls Tryz.prog 104 #[jmpV F b] w (Ret w (arrV (jmS F b))) := by
  have h3 := jm_in3 hok
  have hO := jm_opK hok
  have hd := jm_inD hok
  have h5 (wc : World) := rWhole05C (F.jd b).l (F.jd b).f (F.jd b).d wc
  obtain ⟨z, hz⟩ : ∃ z, z = wholeP (F.jd b) := ⟨_, rfl⟩
  have hw : wholeP ⟨(F.jd b).l, (F.jd b).d, (F.jd b).f⟩ = z := hz.symm
  rw [hw] at h5
  rw [← hz] at hd
  obtain ⟨T, hT0⟩ : ∃ T, T = opsS (F.ja b) := ⟨_, rfl⟩
  have t0 : T 0 = fun _ => false := by rw [hT0]; rfl
  have t1 : ∀ i, (F.ja b i).k = 1 → T (i + 1) = T i := fun i h => by rw [hT0]; simp only [opsS, if_pos h]
  have t2 : ∀ i, (F.ja b i).k ≠ 1 → T (i + 1) = turn (T i) (F.ja b i).p.l.toNat true := fun i h => by rw [hT0]; simp only [opsS, if_neg h]
  obtain ⟨y, hy⟩ : ∃ y : Nat → Bool, y = if z = true then (if F.jk b = 3 then turn (T (F.jn b)) 0 true else T (F.jn b)) else turn (if F.jk b = 3 then turn (T (F.jn b)) 0 true else T (F.jn b)) (F.jd b).l.toNat true := ⟨_, rfl⟩
  have e : jmS F b = y := by
    rw [hy]; unfold jmS tdS; rw [if_neg hk2, hT0, hz]
  rw [e]
  clear e hT0 hz hw hok
  have hP1 : ∀ i, i < F.jn b → (F.ja b i).k ≠ 2 → (F.ja b i).k ≠ 3 → (F.ja b i).k = 1 := fun i hi h1 h2 => by have := hO i hi; omega
  have hP2 : ∀ i, (F.ja b i).k = 2 ∨ (F.ja b i).k = 3 → (F.ja b i).k ≠ 1 := fun i h => by omega
  clear hO
  have q2' : decide (F.jk b = 2) = false := decide_eq_false hk2
  clear hk2
  by_cases hk3 : F.jk b = 3
  · have hz : z = true := by
      cases z
      · have := (hd rfl).1; omega
      · rfl
    subst hz
    simp only [if_true, if_pos hk3] at hy
    have q3' : decide (F.jk b = 3) = true := decide_eq_true hk3
    clear hd
    obtain ⟨pa, un, lA, ln, lc, lk, lt, bA, bn, bc, sA, sn, sc, s, jA, jn, jc, ja, jk, jo, jf, jx, je, jd⟩ := F
    obtain ⟨hX, hl, hb, hs, hj⟩ := hF
    simp only at hl hb hs hj
    simp only at h3 h5 t1 t2 hy hP1 hP2 q2' q3' hk3
    refine go_start (args := [.pt (.agg [.int .u8 (jk b), .int .u8 (jo b).k, .int .i64 (jo b).n, .int .i64 (jo b).p.l, .bool (jo b).p.d, .int .u8 (jo b).p.f, .int .i64 (jf b), .int .i64 (jx b), .int .i64 (je b), .xs 3 b, .int .i64 (jd b).l, .bool (jd b).d, .int .u8 (jd b).f])]) (c := (funX ⟨pa, un, lA, ln, lc, lk, lt, bA, bn, bc, sA, sn, sc, s, jA, jn, jc, ja, jk, jo, jf, jx, je, jd⟩)) Tryz.func104 rfl hX rfl rfl ?_
    obtain ⟨nd, hnd, nt, hnt, ar, har, cm, hcm, mx, hmx, mn, hmn, ar01, ar12, zpl, hzpl, zjn, hzjn, zup, hzup, zmi, hzmi, zdp, hzdp, hT⟩ := t0_all
    repeat' (first
      | refine go1 ?_ | refine gobt ?_ | refine gobn ?_ | refine go3 (fun hlt => ?_) (fun hge => ?_) | refine go2 (fun h => ?_) (fun h => ?_) | exact go0 | refine god ?_ | refine gof ?_ | refine gob ?_ | (with_reducible refine fork_cons ?_ ?_)
      | ((first | with_reducible apply go_fin_rowsP hT | with_reducible apply go_ret_rowsP hT); (· (cbv; try rfl)); (· (cbv; try rfl)); (· exact wLwG_0); (· exact wLwG_0); (· rfl))
      | ((with_reducible apply go_inline (f := 91) (hf := Tryz.func91) (hr := Tryz.results91) (hcall := Tryz.call91)); (· rfl); (· (cbv; try rfl)))
      | ((with_reducible apply go_inline (f := 120) (hf := Tryz.func120) (hr := Tryz.results120) (hcall := Tryz.call120)); (· rfl); (· (cbv; try rfl)))
      | ((with_reducible apply go_call (f := 105) (hf := Tryz.call105)); (· (cbv; try rfl)); (· intro wc hbc hxc; exact h5 wc))
      | ((with_reducible apply go_callq (f := 105) (hf := Tryz.call105)); (· (cbv; try rfl)); (· intro wc hbc hxc; exact h5 wc))
      | ((with_reducible refine go_loopk (σ := {i : Nat // i ≤ jn b}) [8, 9, 10, 11, 12, 13, 14, 15, 16, 17, 18, 19, 20, 21, 22, 23, 24, 25] (fun x => [(5, .pt (.one (.int .i64 (.ofNat x.1))))]) (fun x => [(2, arrB (T x.1))]) (fun x => []) (fun x => jn b - x.1) ⟨0, by omega⟩ ?_ ?_ ?_ ?_); (· exact le_mkP wLwG_0 wLwG_0 wLwG_0 wLwG_0); (· (cbv; try rfl)); (· simp); (rintro ⟨i, hi⟩ mm hmm))
      | ((with_reducible refine go_stop (⟨i + 1, by omega⟩ : {i : Nat // i ≤ jn b}) ?_ ?_ ?_ ?_); (· exact Nat.lt_of_lt_of_eq (show jn b - (i + 1) < jn b - i from by omega) (Eq.symm (by assumption))); (· exact le_mkP wLwG_0 wLwG_0 wLwG_0 wLwG_0); (· (cbv; try rfl)); (· simp))
      | (((with_reducible apply go_need); (· exact (h3 _ (by assumption) (hP2 i (by first | exact .inl (of_decide_eq_true (by assumption)) | exact .inr (of_decide_eq_true (by assumption))))).1); (· have hq := (h3 _ (by assumption) (hP2 i (by first | exact .inl (of_decide_eq_true (by assumption)) | exact .inr (of_decide_eq_true (by assumption))))).2; omega)))
      | (((with_reducible apply go_askB (arrB (T (i + 1)))); (· have hq := h3 i (by assumption) (hP2 i (by first | exact .inl (of_decide_eq_true (by assumption)) | exact .inr (of_decide_eq_true (by assumption)))); exact lt_of_eq_of_lt (off2 (ja b i).p.l) (by show _ < 16; omega)); (· have hk := hP2 i (by first | exact .inl (of_decide_eq_true (by assumption)) | exact .inr (of_decide_eq_true (by assumption))); have hq := h3 i (by assumption) hk; have hp := arrB_putL (T i) true (o := (ja b i).p.l.toNat) (by omega); rw [t2 i hk]; exact Eq.mpr (congrArg (fun o => leCL (pasteL (arrB (T i)) o [.lit true]) (arrB (turn (T i) (ja b i).p.l.toNat true))) (off2 (ja b i).p.l)) hp); (· rfl); (· simp)))
      | (((with_reducible apply go_askB (arrB y)); (· exact Nat.zero_lt_succ _); (· have e : i = jn b := (by omega); subst e; rw [hy]; exact arrB_putL (T (jn b)) true (o := 0) (by decide)); (· rfl); (· simp)))
      | fail)
    all_goals (first | rfl | (have e : i = jn b := (by omega); subst e; rw [hy]; rfl))
  · have q3' : decide (F.jk b = 3) = false := decide_eq_false hk3
    simp only [if_neg hk3] at hy
    cases z
    · have hd := hd rfl
      simp only [Bool.false_eq_true, if_false] at hy
      obtain ⟨pa, un, lA, ln, lc, lk, lt, bA, bn, bc, sA, sn, sc, s, jA, jn, jc, ja, jk, jo, jf, jx, je, jd⟩ := F
      obtain ⟨hX, hl, hb, hs, hj⟩ := hF
      simp only at hl hb hs hj
      simp only at h3 h5 t1 t2 hy hP1 hP2 q2' q3' hd
      have q4' : decide (jk b = 4) = true := decide_eq_true hd.1
      refine go_start (args := [.pt (.agg [.int .u8 (jk b), .int .u8 (jo b).k, .int .i64 (jo b).n, .int .i64 (jo b).p.l, .bool (jo b).p.d, .int .u8 (jo b).p.f, .int .i64 (jf b), .int .i64 (jx b), .int .i64 (je b), .xs 3 b, .int .i64 (jd b).l, .bool (jd b).d, .int .u8 (jd b).f])]) (c := (funX ⟨pa, un, lA, ln, lc, lk, lt, bA, bn, bc, sA, sn, sc, s, jA, jn, jc, ja, jk, jo, jf, jx, je, jd⟩)) Tryz.func104 rfl hX rfl rfl ?_
      obtain ⟨nd, hnd, nt, hnt, ar, har, cm, hcm, mx, hmx, mn, hmn, ar01, ar12, zpl, hzpl, zjn, hzjn, zup, hzup, zmi, hzmi, zdp, hzdp, hT⟩ := t0_all
      repeat' (first
        | refine go1 ?_ | refine gobt ?_ | refine gobn ?_ | refine go3 (fun hlt => ?_) (fun hge => ?_) | refine go2 (fun h => ?_) (fun h => ?_) | exact go0 | refine god ?_ | refine gof ?_ | refine gob ?_ | (with_reducible refine fork_cons ?_ ?_)
        | ((first | with_reducible apply go_fin_rowsP hT | with_reducible apply go_ret_rowsP hT); (· (cbv; try rfl)); (· (cbv; try rfl)); (· exact wLwG_1); (· exact wLwG_1); (· rfl))
        | ((with_reducible apply go_inline (f := 91) (hf := Tryz.func91) (hr := Tryz.results91) (hcall := Tryz.call91)); (· rfl); (· (cbv; try rfl)))
        | ((with_reducible apply go_inline (f := 120) (hf := Tryz.func120) (hr := Tryz.results120) (hcall := Tryz.call120)); (· rfl); (· (cbv; try rfl)))
        | ((with_reducible apply go_call (f := 105) (hf := Tryz.call105)); (· (cbv; try rfl)); (· intro wc hbc hxc; exact h5 wc))
        | ((with_reducible apply go_callq (f := 105) (hf := Tryz.call105)); (· (cbv; try rfl)); (· intro wc hbc hxc; exact h5 wc))
        | ((with_reducible refine go_loopk (σ := {i : Nat // i ≤ jn b}) [8, 9, 10, 11, 12, 13, 14, 15, 16, 17, 18, 19, 20, 21, 22, 23, 24, 25] (fun x => [(5, .pt (.one (.int .i64 (.ofNat x.1))))]) (fun x => [(2, arrB (T x.1))]) (fun x => []) (fun x => jn b - x.1) ⟨0, by omega⟩ ?_ ?_ ?_ ?_); (· exact le_mkP wLwG_1 wLwG_1 wLwG_1 wLwG_1); (· (cbv; try rfl)); (· simp); (rintro ⟨i, hi⟩ mm hmm))
        | ((with_reducible refine go_stop (⟨i + 1, by omega⟩ : {i : Nat // i ≤ jn b}) ?_ ?_ ?_ ?_); (· exact Nat.lt_of_lt_of_eq (show jn b - (i + 1) < jn b - i from by omega) (Eq.symm (by assumption))); (· exact le_mkP wLwG_1 wLwG_1 wLwG_1 wLwG_1); (· (cbv; try rfl)); (· simp))
        | (((with_reducible apply go_need); (· exact (h3 _ (by assumption) (hP2 i (by first | exact .inl (of_decide_eq_true (by assumption)) | exact .inr (of_decide_eq_true (by assumption))))).1); (· have hq := (h3 _ (by assumption) (hP2 i (by first | exact .inl (of_decide_eq_true (by assumption)) | exact .inr (of_decide_eq_true (by assumption))))).2; omega)))
        | (((with_reducible apply go_askB (arrB (T (i + 1)))); (· have hq := h3 i (by assumption) (hP2 i (by first | exact .inl (of_decide_eq_true (by assumption)) | exact .inr (of_decide_eq_true (by assumption)))); exact lt_of_eq_of_lt (off2 (ja b i).p.l) (by show _ < 16; omega)); (· have hk := hP2 i (by first | exact .inl (of_decide_eq_true (by assumption)) | exact .inr (of_decide_eq_true (by assumption))); have hq := h3 i (by assumption) hk; have hp := arrB_putL (T i) true (o := (ja b i).p.l.toNat) (by omega); rw [t2 i hk]; exact Eq.mpr (congrArg (fun o => leCL (pasteL (arrB (T i)) o [.lit true]) (arrB (turn (T i) (ja b i).p.l.toNat true))) (off2 (ja b i).p.l)) hp); (· rfl); (· simp)))
        | (((with_reducible apply go_need); (· exact hd.2.1); (· have := hd.2.2; omega)))
        | (((with_reducible apply go_askB (arrB y)); (· exact lt_of_eq_of_lt (off2 (jd b).l) (by have := hd.2; show _ < 16; omega)); (· have e : i = jn b := (by omega); subst e; have hq := arrB_putL (T (jn b)) true (o := (jd b).l.toNat) (by have := hd.2; omega); rw [hy]; exact Eq.mpr (congrArg (fun o => leCL (pasteL (arrB (T (jn b))) o [.lit true]) (arrB (turn (T (jn b)) (jd b).l.toNat true))) (off2 (jd b).l)) hq); (· rfl); (· simp)))
        | fail)
      all_goals (first | rfl | (have e : i = jn b := (by omega); subst e; rw [hy]; rfl))
    · simp only [if_true] at hy
      clear hd
      obtain ⟨pa, un, lA, ln, lc, lk, lt, bA, bn, bc, sA, sn, sc, s, jA, jn, jc, ja, jk, jo, jf, jx, je, jd⟩ := F
      obtain ⟨hX, hl, hb, hs, hj⟩ := hF
      simp only at hl hb hs hj
      simp only at h3 h5 t1 t2 hy hP1 hP2 q2' q3'
      refine go_start (args := [.pt (.agg [.int .u8 (jk b), .int .u8 (jo b).k, .int .i64 (jo b).n, .int .i64 (jo b).p.l, .bool (jo b).p.d, .int .u8 (jo b).p.f, .int .i64 (jf b), .int .i64 (jx b), .int .i64 (je b), .xs 3 b, .int .i64 (jd b).l, .bool (jd b).d, .int .u8 (jd b).f])]) (c := (funX ⟨pa, un, lA, ln, lc, lk, lt, bA, bn, bc, sA, sn, sc, s, jA, jn, jc, ja, jk, jo, jf, jx, je, jd⟩)) Tryz.func104 rfl hX rfl rfl ?_
      obtain ⟨nd, hnd, nt, hnt, ar, har, cm, hcm, mx, hmx, mn, hmn, ar01, ar12, zpl, hzpl, zjn, hzjn, zup, hzup, zmi, hzmi, zdp, hzdp, hT⟩ := t0_all
      repeat' (first
        | refine go1 ?_ | refine gobt ?_ | refine gobn ?_ | refine go3 (fun hlt => ?_) (fun hge => ?_) | refine go2 (fun h => ?_) (fun h => ?_) | exact go0 | refine god ?_ | refine gof ?_ | refine gob ?_ | (with_reducible refine fork_cons ?_ ?_)
        | ((first | with_reducible apply go_fin_rowsP hT | with_reducible apply go_ret_rowsP hT); (· (cbv; try rfl)); (· (cbv; try rfl)); (· exact wLwG_2); (· exact wLwG_2); (· rfl))
        | ((with_reducible apply go_inline (f := 91) (hf := Tryz.func91) (hr := Tryz.results91) (hcall := Tryz.call91)); (· rfl); (· (cbv; try rfl)))
        | ((with_reducible apply go_inline (f := 120) (hf := Tryz.func120) (hr := Tryz.results120) (hcall := Tryz.call120)); (· rfl); (· (cbv; try rfl)))
        | ((with_reducible apply go_call (f := 105) (hf := Tryz.call105)); (· (cbv; try rfl)); (· intro wc hbc hxc; exact h5 wc))
        | ((with_reducible apply go_callq (f := 105) (hf := Tryz.call105)); (· (cbv; try rfl)); (· intro wc hbc hxc; exact h5 wc))
        | ((with_reducible refine go_loopk (σ := {i : Nat // i ≤ jn b}) [8, 9, 10, 11, 12, 13, 14, 15, 16, 17, 18, 19, 20, 21, 22, 23, 24, 25] (fun x => [(5, .pt (.one (.int .i64 (.ofNat x.1))))]) (fun x => [(2, arrB (T x.1))]) (fun x => []) (fun x => jn b - x.1) ⟨0, by omega⟩ ?_ ?_ ?_ ?_); (· exact le_mkP wLwG_2 wLwG_2 wLwG_2 wLwG_2); (· (cbv; try rfl)); (· simp); (rintro ⟨i, hi⟩ mm hmm))
        | ((with_reducible refine go_stop (⟨i + 1, by omega⟩ : {i : Nat // i ≤ jn b}) ?_ ?_ ?_ ?_); (· exact Nat.lt_of_lt_of_eq (show jn b - (i + 1) < jn b - i from by omega) (Eq.symm (by assumption))); (· exact le_mkP wLwG_2 wLwG_2 wLwG_2 wLwG_2); (· (cbv; try rfl)); (· simp))
        | (((with_reducible apply go_need); (· exact (h3 _ (by assumption) (hP2 i (by first | exact .inl (of_decide_eq_true (by assumption)) | exact .inr (of_decide_eq_true (by assumption))))).1); (· have hq := (h3 _ (by assumption) (hP2 i (by first | exact .inl (of_decide_eq_true (by assumption)) | exact .inr (of_decide_eq_true (by assumption))))).2; omega)))
        | (((with_reducible apply go_askB (arrB (T (i + 1)))); (· have hq := h3 i (by assumption) (hP2 i (by first | exact .inl (of_decide_eq_true (by assumption)) | exact .inr (of_decide_eq_true (by assumption)))); exact lt_of_eq_of_lt (off2 (ja b i).p.l) (by show _ < 16; omega)); (· have hk := hP2 i (by first | exact .inl (of_decide_eq_true (by assumption)) | exact .inr (of_decide_eq_true (by assumption))); have hq := h3 i (by assumption) hk; have hp := arrB_putL (T i) true (o := (ja b i).p.l.toNat) (by omega); rw [t2 i hk]; exact Eq.mpr (congrArg (fun o => leCL (pasteL (arrB (T i)) o [.lit true]) (arrB (turn (T i) (ja b i).p.l.toNat true))) (off2 (ja b i).p.l)) hp); (· rfl); (· simp)))
        | fail)
      all_goals (first | rfl | (have e : i = jn b := (by omega); subst e; rw [hy]; rfl))

end Go.Proofs.YtbljhhkjjlgnmaaGreat
