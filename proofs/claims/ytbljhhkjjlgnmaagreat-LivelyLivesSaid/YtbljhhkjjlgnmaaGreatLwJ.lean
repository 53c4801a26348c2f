/- Layer 16 of the reference: masks of locals, what a point uses and sets. No condition. -/
import Derived.Test.YtbljhhkjjlgnmaaGreatLwI
import Derived.Test.YtbljhhkjjlgnmaaGreatLwB
namespace Go.Proofs.YtbljhhkjjlgnmaaGreat
open Go.RowKit
set_option linter.unusedVariables false
set_option linter.unusedSimpArgs false

theorem mk_more {S : Nat → Bool} {n m : Nat} (hn : n ≤ m) (h : ∀ l, n ≤ l → l < m → S l = false) : mk S m = mk S n := by
  refine Nat.eq_of_testBit_eq fun l => ?_
  rw [mk_bit, mk_bit]
  by_cases g : l < n
  · rw [decide_eq_true g, decide_eq_true (show l < m by omega)]
  · rw [decide_eq_false g]
    by_cases g2 : l < m
    · rw [h l (by omega) g2, Bool.and_false, Bool.false_and]
    · rw [decide_eq_false g2]
theorem uB_out {F : GFun} (hO : F.Ok) {b i l : Nat} (hb : b < F.bn) (hl : F.ln ≤ l) : uB F b i l = false := by
  cases g : uB F b i l
  · rfl
  · unfold uB at g
    rw [List.contains_iff_mem] at g
    have := (uL_in hO hb g).2
    simp only [Int.ofNat_eq_natCast] at this
    omega

theorem wLwJ_0 {p : Prop} (h : p := by (first | (cbv; (try simp only [true_and, and_true]); (try ((repeat' apply And.intro) <;> (first | trivial | rfl | exact RowLe.rfl' _ | decide | (rw [wrap_nat har _ (by omega)]; done) | ((exact x0)) | ((exact hk2 i (hlt (by assumption)) (by assumption))) | ((rw [x1 i (by assumption)])) | fail))); done) | fail)) : Pf p := ⟨h⟩
set_option maxRecDepth 100000 in
set_option maxHeartbeats 4000000 in
theorem rMask16C (S : Nat → Bool) (w : World) :
    Calls Tryz.prog 72 #[arrV S] w (Ret w (.int .u32 (.ofNat (mk S 16)))) := by
  obtain ⟨X, hX'⟩ : ∃ f : Nat → Nat, f = mk S := ⟨_, rfl⟩
  have x0 : (0 : Int) = .ofNat (X 0) := by rw [hX']; rfl
  have x1 : ∀ i, S i = false → X (i + 1) = X i := fun i h => by rw [hX']; simp only [mk, h, Bool.false_eq_true, if_false, Nat.add_zero]
  have x2 : ∀ i, S i = true → X (i + 1) = X i + 2 ^ i := fun i h => by rw [hX']; simp only [mk, if_pos h]
  have xl : ∀ i, X i < 2 ^ i := fun i => by rw [hX']; exact mk_lt _ i
  rw [← hX']
  clear hX'
  refine go_start (args := [.pt (.agg (arrB S))]) (c := NoRows) Tryz.func72 rfl (noRows_ok _) rfl rfl ?_
  obtain ⟨nd, hnd, nt, hnt, ar, har, cm, hcm, mx, hmx, mn, hmn, ar01, ar12, zpl, hzpl, zjn, hzjn, zup, hzup, zmi, hzmi, zdp, hzdp, hT⟩ := t0_all
  have hlt : ∀ {i : Nat}, cm .lss (.ofNat i) 16 = true → i < 16 := fun {i} h => by rw [hcm] at h; have := of_decide_eq_true h; simp only [Int.ofNat_eq_natCast] at this; omega
  have hge : ∀ {i : Nat}, cm .lss (.ofNat i) 16 = false → 16 ≤ i := fun {i} h => by rw [hcm] at h; have := of_decide_eq_false h; simp only [Int.ofNat_eq_natCast] at this; omega
  have qn : ∀ {i : Nat}, i < 16 → ar .quo .u64 (.ofNat i) 0 = .ofNat i := fun {i} h => quo_u64L har (x := Int.ofNat i) (Int.natCast_nonneg i) (by simp only [Int.ofNat_eq_natCast]; omega)
  have hk2 : ∀ i, i < 16 → S i = true → ar .add .u32 (.ofNat (X i)) (ar .shl .u32 1 (ar .quo .u64 (.ofNat i) 0)) = .ofNat (X (i + 1)) := fun i hi h => by
    have h1 := xl i
    have h2 := Nat.pow_le_pow_right (n := 2) (by decide) (show i ≤ 15 by omega)
    rw [qn hi, u32_shl har (by omega), u32_add har (by omega), x2 i h]
  have n1 : ∀ {i : Nat}, i < 16 → 0 ≤ ar .quo .u64 (.ofNat i) 0 := fun {i} h => by rw [qn h]; exact Int.natCast_nonneg _
  have hnn : ∀ X : Int, 0 ≤ X → X < X.toNat + 1 := fun X h => by omega
  repeat' (first
    | refine go1 ?_ | refine gobt ?_ | refine gobn ?_ | refine go3 (fun hlt => ?_) (fun hge => ?_) | refine go2 (fun h => ?_) (fun h => ?_) | exact go0 | refine god ?_ | refine gof ?_ | refine gob ?_ | (with_reducible refine fork_cons ?_ ?_)
    | ((first | with_reducible apply go_fin_rowsP hT | with_reducible apply go_ret_rowsP hT); (· (cbv; try rfl)); (· (cbv; try rfl)); (· exact wLwJ_0); (· exact wLwJ_0); (· rfl))
    | ((with_reducible refine go_loopk (σ := {i : Nat // i ≤ 16}) [5, 6, 7, 8, 9, 10, 11, 12, 13, 14, 15, 16] (fun x => [(4, .pt (.one (.int .i64 (.ofNat x.1)))), (3, .pt (.one (.int .u32 (.ofNat (X x.1)))))]) (fun x => []) (fun x => []) (fun x => 16 - x.1) ⟨0, by omega⟩ ?_ ?_ ?_ ?_); (· exact le_mkP wLwJ_0 wLwJ_0 wLwJ_0 wLwJ_0); (· (cbv; try rfl)); (· simp); (rintro ⟨i, hi⟩ mm hmm))
    | (((with_reducible refine go_ask (.bool (S i)) ?_ rfl ?_); (· exact (congrArg (fun o => (arrB S)[o]?) (off2 (.ofNat i))).trans (arrB_get S (hlt (by assumption))))))
    | (((with_reducible apply go_need); (· exact Int.natCast_nonneg _); (· have q := hlt (by assumption); show (i : Int) < 16; omega)))
    | (((with_reducible apply go_need); (· exact n1 (hlt (by assumption))); (· exact hnn _ (n1 (hlt (by assumption))))))
    | ((with_reducible refine go_stop (⟨i + 1, Nat.succ_le_of_lt (hlt (by assumption))⟩ : {i : Nat // i ≤ 16}) ?_ ?_ ?_ ?_); (· subst hmm; (have q := hlt (by assumption); show 16 - (i + 1) < 16 - i; omega)); (· exact le_mkP wLwJ_0 wLwJ_0 wLwJ_0 wLwJ_0); (· (cbv; try rfl)); (· simp))
    | (fail)
    | fail)
  all_goals
    have g := hge (by assumption)
    have haN : i = 16 := by omega
    subst haN
    rfl

set_option maxRecDepth 100000 in
set_option maxHeartbeats 4000000 in
theorem rUses16C (F : GFun) (w : World) (hF : F.At w) (hK : F.Ty8) (hO : F.Ok) (n : Nat) (hn : n < stN F.sn F.bn) :
    Calls Tryz.prog 39 #[F.val, .int .i64 (.ofNat n)] w (Ret w (.tuple #[.int .u32 (.ofNat (umN F n)), .int .i64 (smN F n), .int .i64 0])) := by
  have h1 (wc : World) (hk : KB ⟨w, []⟩ wc) := rFnChk F wc (hF.later hk) hK
  rw [show rchkV F = 0 from (rchk_eq F).trans hO] at h1
  have h2 (wc : World) (hk : KB ⟨w, []⟩ wc) := sizeC F wc (hF.later hk) hO.small
  have h3 (wc : World) (hk : KB ⟨w, []⟩ wc) := rUsed16C F wc (hF.later hk) hO n hn
  have h4 (wc : World) (hk : KB ⟨w, []⟩ wc) := rSet16C F wc (hF.later hk) hO n hn
  have h5 := rMask16C (fun l => uB F (pbN F n) (piN F n) l)
  rw [show mk (fun l => uB F (pbN F n) (piN F n) l) 16 = umN F n from mk_more hO.ln16 fun l hl _ => uB_out hO (num_pt hn).1 hl] at h5
  generalize umN F n = um at h5 ⊢
  generalize smN F n = sm at h4 ⊢
  generalize (fun l => uB F (pbN F n) (piN F n) l) = U at h3 h5
  generalize stN F.sn F.bn = N at h2 hn
  clear hO hK
  obtain ⟨pa, un, lA, ln, lc, lk, lt, bA, bn, bc, sA, sn, sc, s, jA, jn, jc, ja, jk, jo, jf, jx, je, jd⟩ := F
  obtain ⟨hX, hl, hb, hs, hj⟩ := hF
  simp only at hl hb hs hj
  try simp only at h1 h2 h3 h4
  refine go_start (args := [.pt (.agg (GFun.dat ⟨pa, un, lA, ln, lc, lk, lt, bA, bn, bc, sA, sn, sc, s, jA, jn, jc, ja, jk, jo, jf, jx, je, jd⟩)), .pt (.one (.int .i64 (.ofNat n)))]) (c := (funX ⟨pa, un, lA, ln, lc, lk, lt, bA, bn, bc, sA, sn, sc, s, jA, jn, jc, ja, jk, jo, jf, jx, je, jd⟩)) Tryz.func39 rfl hX rfl rfl ?_
  obtain ⟨nd, hnd, nt, hnt, ar, har, cm, hcm, mx, hmx, mn, hmn, ar01, ar12, zpl, hzpl, zjn, hzjn, zup, hzup, zmi, hzmi, zdp, hzdp, hT⟩ := t0_all
  have c1 : cm .lss (.ofNat n) 0 = false := by rw [hcm]; exact decide_eq_false (fun g => absurd (Int.natCast_nonneg n) (Int.not_le.2 g))
  have c2 : cm .geq (.ofNat n) (.ofNat N) = false := by rw [hcm]; exact decide_eq_false (fun g => absurd (Int.ofNat_le.1 g) (Nat.not_le.2 hn))
  repeat' (first
    | refine go1 ?_ | refine gobt ?_ | refine gobn ?_ | refine go3 (fun hlt => ?_) (fun hge => ?_) | refine go2 (fun h => ?_) (fun h => ?_) | exact go0 | refine god ?_ | refine gof ?_ | refine gob ?_ | (with_reducible refine fork_cons ?_ ?_)
    | ((with_reducible apply go_call (f := 23) (hf := Tryz.call23)); (· (cbv; try rfl)); (· intro wc hbc hxc; exact h1 wc hbc))
    | ((with_reducible apply go_callq (f := 23) (hf := Tryz.call23)); (· (cbv; try rfl)); (· intro wc hbc hxc; exact h1 wc hbc))
    | ((with_reducible apply go_call (f := 24) (hf := Tryz.call24)); (· (cbv; try rfl)); (· intro wc hbc hxc; exact h2 wc hbc))
    | ((with_reducible apply go_callq (f := 24) (hf := Tryz.call24)); (· (cbv; try rfl)); (· intro wc hbc hxc; exact h2 wc hbc))
    | ((with_reducible apply go_call (f := 73) (hf := Tryz.call73)); (· (cbv; try rfl)); (· intro wc hbc hxc; exact h3 wc hbc))
    | ((with_reducible apply go_callq (f := 73) (hf := Tryz.call73)); (· (cbv; try rfl)); (· intro wc hbc hxc; exact h3 wc hbc))
    | ((with_reducible apply go_call (f := 43) (hf := Tryz.call43)); (· (cbv; try rfl)); (· intro wc hbc hxc; exact h4 wc hbc))
    | ((with_reducible apply go_callq (f := 43) (hf := Tryz.call43)); (· (cbv; try rfl)); (· intro wc hbc hxc; exact h4 wc hbc))
    | ((with_reducible apply go_call (f := 72) (hf := Tryz.call72)); (· (cbv; try rfl)); (· intro wc hbc hxc; exact h5 wc))
    | ((with_reducible apply go_callq (f := 72) (hf := Tryz.call72)); (· (cbv; try rfl)); (· intro wc hbc hxc; exact h5 wc))
    | fail)
  all_goals rfl

set_option maxRecDepth 100000 in
set_option maxHeartbeats 4000000 in
theorem rUses16Out (F : GFun) (w : World) (hF : F.At w) (hK : F.Ty8) (hO : F.Ok) (at_ : Int) (ha : at_ < 0 ∨ (stN F.sn F.bn : Int) ≤ at_) :
    Calls Tryz.prog 39 #[F.val, .int .i64 at_] w (Ret w (.tuple #[.int .u32 0, .int .i64 0, .int .i64 2])) := by
  have h1 (wc : World) (hk : KB ⟨w, []⟩ wc) := rFnChk F wc (hF.later hk) hK
  rw [show rchkV F = 0 from (rchk_eq F).trans hO] at h1
  have h2 (wc : World) (hk : KB ⟨w, []⟩ wc) := sizeC F wc (hF.later hk) hO.small
  generalize stN F.sn F.bn = N at h2 ha
  clear hO hK
  obtain ⟨pa, un, lA, ln, lc, lk, lt, bA, bn, bc, sA, sn, sc, s, jA, jn, jc, ja, jk, jo, jf, jx, je, jd⟩ := F
  obtain ⟨hX, hl, hb, hs, hj⟩ := hF
  simp only at hl hb hs hj
  refine go_start (args := [.pt (.agg (GFun.dat ⟨pa, un, lA, ln, lc, lk, lt, bA, bn, bc, sA, sn, sc, s, jA, jn, jc, ja, jk, jo, jf, jx, je, jd⟩)), .pt (.one (.int .i64 at_))]) (c := (funX ⟨pa, un, lA, ln, lc, lk, lt, bA, bn, bc, sA, sn, sc, s, jA, jn, jc, ja, jk, jo, jf, jx, je, jd⟩)) Tryz.func39 rfl hX rfl rfl ?_
  obtain ⟨nd, hnd, nt, hnt, ar, har, cm, hcm, mx, hmx, mn, hmn, ar01, ar12, zpl, hzpl, zjn, hzjn, zup, hzup, zmi, hzmi, zdp, hzdp, hT⟩ := t0_all
  have c1 : cm .lss at_ 0 = true ∨ (cm .lss at_ 0 = false ∧ cm .geq at_ (.ofNat N) = true) := by
    rw [hcm]
    by_cases g : at_ < 0
    · exact .inl (decide_eq_true g)
    · exact .inr ⟨decide_eq_false g, decide_eq_true (by show (N : Int) ≤ at_; omega)⟩
  rcases c1 with c1 | ⟨c1, c2⟩
  all_goals
    repeat' (first
      | refine go1 ?_ | refine gobt ?_ | refine gobn ?_ | refine go3 (fun hlt => ?_) (fun hge => ?_) | refine go2 (fun h => ?_) (fun h => ?_) | exact go0 | refine god ?_ | refine gof ?_ | refine gob ?_ | (with_reducible refine fork_cons ?_ ?_)
      | ((with_reducible apply go_call (f := 23) (hf := Tryz.call23)); (· (cbv; try rfl)); (· intro wc hbc hxc; exact h1 wc hbc))
      | ((with_reducible apply go_callq (f := 23) (hf := Tryz.call23)); (· (cbv; try rfl)); (· intro wc hbc hxc; exact h1 wc hbc))
      | ((with_reducible apply go_call (f := 24) (hf := Tryz.call24)); (· (cbv; try rfl)); (· intro wc hbc hxc; exact h2 wc hbc))
      | ((with_reducible apply go_callq (f := 24) (hf := Tryz.call24)); (· (cbv; try rfl)); (· intro wc hbc hxc; exact h2 wc hbc))
      | fail)
  all_goals rfl

set_option maxRecDepth 100000 in
set_option maxHeartbeats 4000000 in
theorem rUses16Bad (F : GFun) (w : World) (hF : F.At w) (hK : F.Ty8) (hz : rchkV F ≠ 0) (at_ : Int) :
    Calls Tryz.prog 39 #[F.val, .int .i64 at_] w (Ret w (.tuple #[.int .u32 0, .int .i64 0, .int .i64 (rchkV F)])) := by
  have h1 (wc : World) (hk : KB ⟨w, []⟩ wc) := rFnChk F wc (hF.later hk) hK
  generalize rchkV F = z at h1 hz ⊢
  have hq : decide (z = 0) = false := decide_eq_false hz
  clear hz hK
  obtain ⟨pa, un, lA, ln, lc, lk, lt, bA, bn, bc, sA, sn, sc, s, jA, jn, jc, ja, jk, jo, jf, jx, je, jd⟩ := F
  obtain ⟨hX, hl, hb, hs, hj⟩ := hF
  simp only at hl hb hs hj
  refine go_start (args := [.pt (.agg (GFun.dat ⟨pa, un, lA, ln, lc, lk, lt, bA, bn, bc, sA, sn, sc, s, jA, jn, jc, ja, jk, jo, jf, jx, je, jd⟩)), .pt (.one (.int .i64 at_))]) (c := (funX ⟨pa, un, lA, ln, lc, lk, lt, bA, bn, bc, sA, sn, sc, s, jA, jn, jc, ja, jk, jo, jf, jx, je, jd⟩)) Tryz.func39 rfl hX rfl rfl ?_
  obtain ⟨nd, hnd, nt, hnt, ar, har, cm, hcm, mx, hmx, mn, hmn, ar01, ar12, zpl, hzpl, zjn, hzjn, zup, hzup, zmi, hzmi, zdp, hzdp, hT⟩ := t0_all
  repeat' (first
    | refine go1 ?_ | refine gobt ?_ | refine gobn ?_ | refine go3 (fun hlt => ?_) (fun hge => ?_) | refine go2 (fun h => ?_) (fun h => ?_) | exact go0 | refine god ?_ | refine gof ?_ | refine gob ?_ | (with_reducible refine fork_cons ?_ ?_)
    | ((with_reducible apply go_call (f := 23) (hf := Tryz.call23)); (· (cbv; try rfl)); (· intro wc hbc hxc; exact h1 wc hbc))
    | ((with_reducible apply go_callq (f := 23) (hf := Tryz.call23)); (· (cbv; try rfl)); (· intro wc hbc hxc; exact h1 wc hbc))
    | fail)
  all_goals rfl

end Go.Proofs.YtbljhhkjjlgnmaaGreat
