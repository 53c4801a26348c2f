/- Layer 6 of the reference: which locals a branch uses; a point's. No condition. -/
import Derived.Test.YtbljhhkjjlgnmaaGreatLwG
namespace Go.Proofs.YtbljhhkjjlgnmaaGreat
open Go.RowKit
set_option linter.unusedVariables false
set_option linter.unusedSimpArgs false

set_option maxRecDepth 100000 in
set_option maxHeartbeats 8000000 in
theorem rUsed06B (F : GFun) (b : Nat) (w : World) (hF : F.At w) (hok : (F.jump b).ok = true) (hk2 : F.jk b = 2) :
    Calls Tryz.prog 104 #[jmpV F b] w (Ret w (arrV (jmS F b))) := by
  have h3 := jm_in2 hok hk2
  have hO : (F.jo b).k = 1 ∨ (F.jo b).k = 2 ∨ (F.jo b).k = 3 := by
    have : (F.jo b).ok = true := by
      simp only [GJump.ok, GFun.jump, Bool.or_eq_true, Bool.and_eq_true, beq_iff_eq, decide_eq_true_eq] at hok
      grind
    exact ok_opK this
  have hd := jm_inD hok
  have hz : wholeP (F.jd b) = true := by
    cases h : wholeP (F.jd b)
    · have := (hd h).1; omega
    · rfl
  obtain ⟨y, hy⟩ : ∃ y : Nat → Bool, y = if (F.jo b).k = 1 then (fun _ => false) else turn (fun _ => false) (F.jo b).p.l.toNat true := ⟨_, rfl⟩
  have e : jmS F b = y := by
    rw [hy]; unfold jmS tdS; rw [if_pos hk2, hz, if_neg (show ¬ F.jk b = 3 by omega)]; rfl
  rw [e]
  have hP1 : (F.jo b).k ≠ 2 → (F.jo b).k ≠ 3 → (F.jo b).k = 1 := fun h1 h2 => by omega
  have hP2 : (F.jo b).k = 2 ∨ (F.jo b).k = 3 → (F.jo b).k ≠ 1 := fun h => by omega
  have q2' : decide (F.jk b = 2) = true := decide_eq_true hk2
  have q3' : decide (F.jk b = 3) = false := decide_eq_false (by omega)
  have q4' : decide (F.jk b = 4) = false := decide_eq_false (by omega)
  clear e hd hz hok hO hk2
  obtain ⟨pa, un, lA, ln, lc, lk, lt, bA, bn, bc, sA, sn, sc, s, jA, jn, jc, ja, jk, jo, jf, jx, je, jd⟩ := F
  obtain ⟨hX, hl, hb, hs, hj⟩ := hF
  simp only at hl hb hs hj
  simp only at h3 hy hP1 hP2 q2' q3' q4'
  refine go_start (args := [.pt (.agg [.int .u8 (jk b), .int .u8 (jo b).k, .int .i64 (jo b).n, .int .i64 (jo b).p.l, .bool (jo b).p.d, .int .u8 (jo b).p.f, .int .i64 (jf b), .int .i64 (jx b), .int .i64 (je b), .xs 3 b, .int .i64 (jd b).l, .bool (jd b).d, .int .u8 (jd b).f])]) (c := (funX ⟨pa, un, lA, ln, lc, lk, lt, bA, bn, bc, sA, sn, sc, s, jA, jn, jc, ja, jk, jo, jf, jx, je, jd⟩)) Tryz.func104 rfl hX rfl rfl ?_
  obtain ⟨nd, hnd, nt, hnt, ar, har, cm, hcm, mx, hmx, mn, hmn, ar01, ar12, zpl, hzpl, zjn, hzjn, zup, hzup, zmi, hzmi, zdp, hzdp, hT⟩ := t0_all
  repeat' (first
    | ((with_reducible apply go_ev hT 400); (· (cbv; try rfl)); (fail_if_success with_reducible apply stuck_id); (try simp only [ar01, ar12]))
    | refine go1 ?_ | refine gobt ?_ | refine gobn ?_ | refine go3 (fun hlt => ?_) (fun hge => ?_) | refine go2 (fun h => ?_) (fun h => ?_) | exact go0 | refine god ?_ | refine gof ?_ | refine gob ?_ | (with_reducible refine fork_cons ?_ ?_)
    | ((with_reducible apply go_inline (f := 91) (hf := Tryz.func91) (hr := Tryz.results91) (hcall := Tryz.call91)); (· rfl); (· (cbv; try rfl)))
    | ((with_reducible apply go_inline (f := 120) (hf := Tryz.func120) (hr := Tryz.results120) (hcall := Tryz.call120)); (· rfl); (· (cbv; try rfl)))
    | (with_reducible apply go_rounds 3)
    | (((with_reducible apply go_need); (· exact (h3 (hP2 (by first | exact .inl (of_decide_eq_true (by assumption)) | exact .inr (of_decide_eq_true (by assumption))))).1); (· have hq := (h3 (hP2 (by first | exact .inl (of_decide_eq_true (by assumption)) | exact .inr (of_decide_eq_true (by assumption))))).2; omega)))
    | (((with_reducible apply go_askB (arrB y)); (· have hq := h3 (hP2 (by first | exact .inl (of_decide_eq_true (by assumption)) | exact .inr (of_decide_eq_true (by assumption)))); exact lt_of_eq_of_lt (off2 (jo b).p.l) (by show _ < 16; omega)); (· have hk := (hP2 (by first | exact .inl (of_decide_eq_true (by assumption)) | exact .inr (of_decide_eq_true (by assumption)))); have hq := h3 hk; have hp := arr0_putL true (o := (jo b).p.l.toNat) (by omega); rw [hy, if_neg hk]; (have ho := off2 (jo b).p.l); refine (congrArg (fun o => leCL (pasteL [.lit false, .lit false, .lit false, .lit false, .lit false, .lit false, .lit false, .lit false, .lit false, .lit false, .lit false, .lit false, .lit false, .lit false, .lit false, .lit false] o [.lit true]) (arrB (turn (fun _ => false) (jo b).p.l.toNat true))) ho).mpr hp); (· rfl); (· simp)))
    | fail)
  all_goals (first | rfl | (rw [hy, if_pos (hP1 (of_decide_eq_false (by assumption)) (of_decide_eq_false (by assumption)))]; rfl) | trace_state)
theorem rUsed06C (F : GFun) (b : Nat) (w : World) (hF : F.At w) (hok : (F.jump b).ok = true) :
    Calls Tryz.prog 104 #[jmpV F b] w (Ret w (arrV (jmS F b))) := by
  by_cases h : F.jk b = 2
  · exact rUsed06B F b w hF hok h
  · exact rUsed06N F b w hF hok h

end Go.Proofs.YtbljhhkjjlgnmaaGreat
