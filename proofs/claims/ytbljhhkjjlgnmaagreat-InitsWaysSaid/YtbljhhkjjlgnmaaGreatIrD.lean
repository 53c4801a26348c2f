/- Layer 15 of the reference: the first local that a point reads and that is not set. No condition. -/
import Derived.Test.YtbljhhkjjlgnmaaGreatInD
namespace Go.Proofs.YtbljhhkjjlgnmaaGreat
open Go.RowKit
set_option linter.unusedVariables false
set_option linter.unusedSimpArgs false

set_option maxRecDepth 100000 in
set_option maxHeartbeats 8000000 in
theorem rBadA (F : GFun) (w : World) (hF : F.At w) (n : Nat) (m : Nat) (g : Nat → GOper) (hm : m ≤ 8) (hop : ∀ wc, KB ⟨w, []⟩ wc → Calls Tryz.prog 57 #[F.val, .int .i64 (.ofNat n)] wc (RetR wc (funX F) (.pt (.one (.rs 0))) [⟨m, 5, fun i => (g i).sc⟩])) (hin : ∀ i, i < m → opIn F.ln (g i)) (hl16 : F.ln ≤ 16) (S : Nat → Bool) (L : List Int) (hL : ∀ x ∈ L, 0 ≤ x ∧ x < F.ln) (hL9 : L.length ≤ 1000)
    (hrd : ∀ wc, KB ⟨w, []⟩ wc → Calls Tryz.prog 58 #[F.val, .int .i64 (.ofNat n)] wc (RetR wc (funX F) (.pt (.one (.rs 0))) [intR L])) (BZ : Int)
    (hit1 : ∀ k, okOps g S k → k < m → (g k).k ≠ 1 → (S (g k).p.l.toNat = false ∨ mvS g k (g k).p.l.toNat = true) → BZ = (g k).p.l)
    (hit2 : okOps g S (m) → ∀ j, j < L.length → plN g (m) ≤ j → tlP g (m) S (L.getD j 0) = true → (∀ i, i < j → i < plN g (m) ∨ tlP g (m) S (L.getD i 0) = false) → BZ = L.getD j 0)
    (hno : okOps g S (m) → (∀ i, i < L.length → i < plN g (m) ∨ tlP g (m) S (L.getD i 0) = false) → BZ = -1) :
    Calls Tryz.prog 25 #[F.val, .int .i64 (.ofNat n), .int .u32 (.ofNat (mk S F.ln))] w (Ret w (.int .i64 BZ)) := by
  have hpl (wc : World) (v : Value) (c : Nat → Nat → Row) (h : RowIs c wc ⟨m, 5, fun i => (g i).sc⟩ v) : Calls Tryz.prog 59 #[v] wc (Ret wc (.int .i64 (.ofNat (plN g m)))) := by
    obtain ⟨a, cap, rfl, hX⟩ := h.one (fun j _ => rfl)
    exact placedC m g hm c wc a cap hX
  generalize hpcc : plN g m = pcc at hpl
  obtain ⟨ln', hln'⟩ : ∃ m, m = F.ln := ⟨_, rfl⟩
  rw [← hln'] at hin hl16 hL ⊢
  obtain ⟨rn, hrn⟩ : ∃ m, m = L.length := ⟨_, rfl⟩
  obtain ⟨rl, hrl⟩ : ∃ f : Nat → Int, f = fun j => L.getD j 0 := ⟨_, rfl⟩
  have hrd (wc : World) (hk : KB ⟨w, []⟩ wc) : Calls Tryz.prog 58 #[F.val, .int .i64 (.ofNat n)] wc (RetR wc (funX F) (.pt (.one (.rs 0))) [⟨rn, 1, fun j => [.int .i64 (rl j)]⟩]) := by
    have := hrd wc hk
    rw [hrn, hrl]; exact this
  have hrb : ∀ j, j < rn → 0 ≤ rl j ∧ rl j < ln' := fun j hj => by
    rw [hrn] at hj; rw [hrl]
    refine hL _ ?_
    simp only [List.getD, List.getElem?_eq_getElem hj, Option.getD_some]
    exact List.getElem_mem hj
  rw [← hrn] at hL9
  obtain ⟨pc, hpc⟩ : ∃ p, p = plN g (m) := ⟨_, rfl⟩
  rw [hpcc] at hpc
  subst hpc
  obtain ⟨tp, htp⟩ : ∃ f : Nat → Bool, f = fun j => tlP g (m) S (rl j) := ⟨_, rfl⟩
  obtain ⟨OK, hOK⟩ : ∃ f : Nat → Prop, f = okOps g S := ⟨_, rfl⟩
  obtain ⟨MV, hMV⟩ : ∃ f : Nat → Nat → Bool, f = mvS g := ⟨_, rfl⟩
  have hit2 : OK (m) → ∀ j, j < rn → pc ≤ j → tp j = true → (∀ i, i < j → i < pc ∨ tp i = false) → BZ = rl j := by rw [hOK, hrn, htp, hrl, ← hpcc]; exact hit2
  have hno : OK (m) → (∀ i, i < rn → i < pc ∨ tp i = false) → BZ = -1 := by rw [hOK, hrn, htp, hrl, ← hpcc]; exact hno
  have hit1 : ∀ k, OK k → k < m → (g k).k ≠ 1 → (S (g k).p.l.toNat = false ∨ MV k (g k).p.l.toNat = true) → BZ = (g k).p.l := by rw [hOK, hMV]; exact hit1
  have tpe : ∀ j, tp j = !(S (rl j).toNat && !MV (m) (rl j).toNat) := fun j => by rw [htp, hMV]; rfl
  have ok0 : OK 0 := by rw [hOK]; intro i hi; omega
  have ok1 : ∀ k, OK k → ((g k).k = 1 ∨ (S (g k).p.l.toNat = true ∧ MV k (g k).p.l.toNat = false)) → OK (k + 1) := fun k h1 h2 => by
    rw [hOK] at h1 ⊢; rw [hMV] at h2
    intro i hi
    rcases Nat.lt_or_eq_of_le (Nat.le_of_lt_succ hi) with h | rfl
    · exact h1 i h
    · exact h2
  have mv0 : ∀ l, MV 0 l = false := fun l => by rw [hMV]; rfl
  have mv1 : ∀ k l, MV (k + 1) l = (MV k l || (decide ((g k).k = 3) && decide (l = (g k).p.l.toNat))) := fun k l => by rw [hMV]; rfl
  have hin2 : ∀ k, k < m → decide ((g k).k = 1) = false → 0 ≤ (g k).p.l ∧ (g k).p.l < ln' := fun k hk h => by
    rcases hin k hk with g1 | g1
    · exact absurd g1 (of_decide_eq_false h)
    · exact g1.2
  obtain ⟨mm, hmm0⟩ : ∃ f : Nat → Nat, f = fun k => mk (MV k) ln' := ⟨_, rfl⟩
  obtain ⟨sm, hsm⟩ : ∃ x, x = mk S ln' := ⟨_, rfl⟩
  rw [← hsm]
  clear hln' hrl hrn hpcc htp hOK hMV hin hL
  obtain ⟨pa, un, lA, ln, lc, lk, lt, bA, bn, bc, sA, sn, sc, s, jA, jn, jc, ja, jk, jo, jf, jx, je, jd⟩ := F
  obtain ⟨hX, hl, hb, hs, hj⟩ := hF
  simp only at hl hb hs hj
  try simp only at hpl hop hit1 hit2 hno ok1 mv1 hin2 tpe hrd hm
  refine go_start (args := [.pt (.agg (GFun.dat ⟨pa, un, lA, ln, lc, lk, lt, bA, bn, bc, sA, sn, sc, s, jA, jn, jc, ja, jk, jo, jf, jx, je, jd⟩)), .pt (.one (.int .i64 (.ofNat n))), .pt (.one (.int .u32 (.ofNat sm)))]) (c := (funX ⟨pa, un, lA, ln, lc, lk, lt, bA, bn, bc, sA, sn, sc, s, jA, jn, jc, ja, jk, jo, jf, jx, je, jd⟩)) Tryz.func25 rfl hX rfl rfl ?_
  obtain ⟨nd, hnd⟩ : ∃ f : Bool → Bool → Bool, f = and := ⟨_, rfl⟩
  obtain ⟨nt, hnt⟩ : ∃ f : Bool → Bool, f = not := ⟨_, rfl⟩
  obtain ⟨ar, har⟩ : ∃ f : BinOp → IntKind → Int → Int → Int, f = rAr := ⟨_, rfl⟩
  obtain ⟨cm, hcm⟩ : ∃ f : BinOp → Int → Int → Bool, f = rCm := ⟨_, rfl⟩
  obtain ⟨mx, hmx⟩ : ∃ f : Int → Int → Int, f = rMx := ⟨_, rfl⟩
  obtain ⟨mn, hmn⟩ : ∃ f : Int → Int → Int, f = rMn := ⟨_, rfl⟩
  have ar01 : ar .add .i64 0 1 = 1 := by rw [har]; decide
  have ar12 : ar .add .i64 1 1 = 2 := by rw [har]; decide
  obtain ⟨zpl, hzpl⟩ : ∃ f : Nat → Nat → Nat, f = fun x y => x + y := ⟨_, rfl⟩
  obtain ⟨zjn, hzjn⟩ : ∃ f : Nat → (Nat → List SC) → (Nat → List SC) → Nat → List SC, f = rJn := ⟨_, rfl⟩
  obtain ⟨zup, hzup⟩ : ∃ f : (Nat → List SC) → Nat → Nat → List SC → Nat → List SC, f = rUp := ⟨_, rfl⟩
  obtain ⟨zmi, hzmi⟩ : ∃ f : Nat → Nat → Nat, f = fun x y => x - y := ⟨_, rfl⟩
  obtain ⟨zdp, hzdp⟩ : ∃ f : Nat → (Nat → List SC) → Nat → List SC, f = rDp := ⟨_, rfl⟩
  have hT := T0_ok hnd hnt har hcm hmx hmn hzpl hzjn hzup hzmi hzdp
  have hbit : ∀ x : Int, 0 ≤ x → x < ln' → ar .shl .u32 1 (ar .quo .u64 x 0) = .ofNat (mk (fun l => decide (l = x.toNat)) ln') := fun x h0 h1 => by
    rw [quo_u64 har h0 (by omega), ← mk_one (show x.toNat < ln' by omega)]
    exact u32_shl har (show x.toNat < 32 by omega)
  have hz : ∀ (T : Nat → Bool) (x : Int), 0 ≤ x → x < ln' → decide (ar .and .u32 (.ofNat (mk T ln')) (ar .shl .u32 1 (ar .quo .u64 x 0)) = 0) = !T x.toNat := fun T x h0 h1 => by
    rw [hbit x h0 h1, mk_and har (by omega)]
    cases hT : T x.toNat
    · refine decide_eq_true ?_
      have : mk (fun l => T l && decide (l = x.toNat)) ln' = 0 := by
        refine Eq.trans (mk_ext (T := fun _ => false) fun l hl => ?_) mk_none.symm
        by_cases e : l = x.toNat
        · rw [e, hT]; rfl
        · simp [e]
      rw [this]; rfl
    · refine decide_eq_false fun h => ?_
      have h : mk (fun l => T l && decide (l = x.toNat)) ln' = 0 := Int.ofNat.inj h
      have := mk_zero h (show x.toNat < ln' by omega)
      simp [hT] at this
  have cA : ∀ k, k < m → decide ((g k).k = 1) = false → decide (ar .and .u32 (.ofNat sm) (ar .shl .u32 1 (ar .quo .u64 (g k).p.l 0)) = 0) = !S (g k).p.l.toNat := fun k hk h => by
    have q := hin2 k hk h
    rw [hsm]; exact hz S _ q.1 q.2
  have cB : ∀ k, k < m → decide ((g k).k = 1) = false → decide (ar .and .u32 (.ofNat (mm k)) (ar .shl .u32 1 (ar .quo .u64 (g k).p.l 0)) = 0) = !MV k (g k).p.l.toNat := fun k hk h => by
    have q := hin2 k hk h
    rw [hmm0]; exact hz (MV k) _ q.1 q.2
  have cC : ∀ j, j < rn → decide (ar .and .u32 (.ofNat sm) (ar .shl .u32 1 (ar .quo .u64 (rl j) 0)) = 0) = !S (rl j).toNat := fun j hj => by
    have q := hrb j hj
    rw [hsm]; exact hz S _ q.1 q.2
  have cD : ∀ {k}, k ≤ m → m ≤ k → ∀ j, j < rn → decide (ar .and .u32 (.ofNat (mm k)) (ar .shl .u32 1 (ar .quo .u64 (rl j) 0)) = 0) = !MV (m) (rl j).toNat := fun {k} aa bb j hj => by
    have q := hrb j hj
    rw [Nat.le_antisymm aa bb, hmm0]; exact hz (MV _) _ q.1 q.2
  have m0 : (0 : Int) = .ofNat (mm 0) := by
    rw [hmm0]
    have : mk (MV 0) ln' = 0 := (mk_ext fun l _ => mv0 l).trans mk_none.symm
    simp only [this]; rfl
  have m3 : ∀ k, k < m → decide ((g k).k = 1) = false → decide ((g k).k = 3) = true → ar .or .u32 (.ofNat (mm k)) (ar .shl .u32 1 (ar .quo .u64 (g k).p.l 0)) = .ofNat (mm (k + 1)) := fun k hk h h3 => by
    have q := hin2 k hk h
    rw [hbit _ q.1 q.2, hmm0]
    refine (mk_or har (by omega) _ _).trans (congrArg Int.ofNat (mk_ext fun l _ => ?_))
    rw [mv1, h3]; rfl
  have m2 : ∀ k, decide ((g k).k = 3) = false → Int.ofNat (mm k) = .ofNat (mm (k + 1)) := fun k h3 => by
    rw [hmm0]
    refine congrArg Int.ofNat (mk_ext fun l _ => ?_)
    rw [mv1, h3]; simp
  have m1 : ∀ k, decide ((g k).k = 1) = true → Int.ofNat (mm k) = .ofNat (mm (k + 1)) := fun k h => m2 k (decide_eq_false (by have := of_decide_eq_true h; omega))
  have q1 : ∀ k, k < m → decide ((g k).k = 1) = false → ar .quo .u64 (g k).p.l 0 = .ofNat (g k).p.l.toNat := fun k hk h => by
    have q := hin2 k hk h
    exact quo_u64 har q.1 (by omega)
  have q2 : ∀ j, j < rn → ar .quo .u64 (rl j) 0 = .ofNat (rl j).toNat := fun j hj => by
    have q := hrb j hj
    exact quo_u64 har q.1 (by omega)
  have u1 : ∀ k, OK k → decide ((g k).k = 1) = true → OK (k + 1) := fun k a b => ok1 k a (.inl (of_decide_eq_true b))
  have u2 : ∀ k, k < m → OK k → decide ((g k).k = 1) = false → decide (ar .and .u32 (.ofNat sm) (ar .shl .u32 1 (ar .quo .u64 (g k).p.l 0)) = 0) = false → decide (ar .and .u32 (.ofNat (mm k)) (ar .shl .u32 1 (ar .quo .u64 (g k).p.l 0)) = 0) = true → OK (k + 1) := fun k hk a b c d => by
    rw [cA k hk b] at c
    rw [cB k hk b] at d
    exact ok1 k a (.inr ⟨by simpa using c, by simpa using d⟩)
  have i1 : ∀ k, k < m → OK k → decide ((g k).k = 1) = false → decide (ar .and .u32 (.ofNat sm) (ar .shl .u32 1 (ar .quo .u64 (g k).p.l 0)) = 0) = true ∨ decide (ar .and .u32 (.ofNat (mm k)) (ar .shl .u32 1 (ar .quo .u64 (g k).p.l 0)) = 0) = false → BZ = (g k).p.l := fun k hk a b c => by
    rw [cA k hk b, cB k hk b] at c
    exact hit1 k a hk (of_decide_eq_false b) (by simpa using c)
  have ls : ∀ j, cm .lss (.ofNat j) (.ofNat pc) = decide (j < pc) := fun j => by
    rw [hcm]
    show decide ((j : Int) < (pc : Int)) = _
    rw [Bool.eq_iff_iff]; simp
  have v1 : ∀ {k}, k ≤ m → m ≤ k → ∀ j, j < rn → decide (ar .and .u32 (.ofNat sm) (ar .shl .u32 1 (ar .quo .u64 (rl j) 0)) = 0) = false → decide (ar .and .u32 (.ofNat (mm k)) (ar .shl .u32 1 (ar .quo .u64 (rl j) 0)) = 0) = true → j < pc ∨ tp j = false := fun {k} aa bb j hj c d => by
    rw [cC j hj] at c
    rw [cD aa bb j hj] at d
    refine .inr ?_
    rw [tpe]
    cases h1 : S (rl j).toNat <;> cases h2 : MV (m) (rl j).toNat <;> simp_all
  have v2 : ∀ j, cm .lss (.ofNat j) (.ofNat pc) = true → j < pc ∨ tp j = false := fun j h => .inl (of_decide_eq_true (by rw [← ls]; exact h))
  have i2 : ∀ {k}, k ≤ m → m ≤ k → OK k → ∀ j, j < rn → cm .lss (.ofNat j) (.ofNat pc) = false → decide (ar .and .u32 (.ofNat sm) (ar .shl .u32 1 (ar .quo .u64 (rl j) 0)) = 0) = true ∨ decide (ar .and .u32 (.ofNat (mm k)) (ar .shl .u32 1 (ar .quo .u64 (rl j) 0)) = 0) = false → (∀ i, i < j → i < pc ∨ tp i = false) → BZ = rl j := fun {k} aa bb c j hj d e f => by
    have ek := Nat.le_antisymm aa bb
    rw [cC j hj, cD aa bb j hj] at e
    rw [ls] at d
    refine hit2 (ek ▸ c) j hj (Nat.le_of_not_lt (of_decide_eq_false d)) ?_ f
    rw [tpe]
    cases h1 : S (rl j).toNat <;> cases h2 : MV (m) (rl j).toNat <;> simp_all
  have i3 : ∀ {k}, k ≤ m → m ≤ k → OK k → ∀ {j}, rn ≤ j → (∀ i, i < j → i < pc ∨ tp i = false) → BZ = -1 := fun {k} aa bb c {j} d f => by
    have ek := Nat.le_antisymm aa bb
    exact hno (ek ▸ c) (fun i hi => f i (by omega))
  clear hbit hz cA cB cC cD hmm0 hsm mv0 mv1 tpe hit1 hit2 hno ok1
  repeat' (first
    | ((with_reducible apply go_ev hT 400); (· (cbv; try rfl)); (fail_if_success with_reducible apply stuck_id))
    | (with_reducible refine go_brn hnt (fun h => ?_) (fun h => ?_))
    | (with_reducible refine go_brl hcm (fun hlt => ?_) (fun hge => ?_))
    | (with_reducible refine go_br (fun h => ?_) (fun h => ?_))
    | ((with_reducible apply go_ret_val hT); (· (cbv; try rfl)); (· (cbv; try rfl)))
    | ((with_reducible refine go_need ?_ ?_ ?_); (· first | omega | (simp only [Int.ofNat_eq_natCast]; omega)); (· first | omega | (simp only [Int.ofNat_eq_natCast]; omega)))
    | ((with_reducible apply go_callR (f := 57) (hf := Tryz.call57)); (· intro S; cbv; try rfl); (· intro wc S hbc hxc hrc; exact hop wc hbc); (· rfl))
    | ((with_reducible apply go_callR (f := 58) (hf := Tryz.call58)); (· intro S; cbv; try rfl); (· intro wc S hbc hxc hrc; exact hrd wc hbc); (· rfl))
    | ((with_reducible apply go_callRv (f := 59) (hf := Tryz.call59)); (· intro S; cbv; try rfl); (· intro wc S hbc hxc hrc; exact hpl wc _ _ (hrc 0 _ rfl)))
    | (((with_reducible apply go_need); (· rw [q1 k (by assumption) (by assumption)]; exact Int.natCast_nonneg _); (· rw [q1 k (by assumption) (by assumption)]; exact (show (((g k).p.l.toNat : Nat) : Int) < (((g k).p.l.toNat + 1 : Nat) : Int) by omega))))
    | (((with_reducible apply go_need); (· rw [q2 j (by assumption)]; exact Int.natCast_nonneg _); (· rw [q2 j (by assumption)]; exact (show (((rl j).toNat : Nat) : Int) < (((rl j).toNat + 1 : Nat) : Int) by omega))))
    | ((with_reducible refine go_loopk (σ := {k : Nat // k ≤ m ∧ OK k}) [6, 10, 18, 19, 20, 21, 22, 23, 24, 25, 26, 27, 28, 29, 30, 31, 32, 33, 34, 35, 36, 37, 38, 39, 40, 41, 42, 43, 44, 45, 46, 47, 48, 49, 50, 51, 52, 53, 54, 55, 56, 57, 58, 59, 60, 61, 62] (fun x => [(9, .pt (.one (.int .i64 (.ofNat x.1)))), (7, .pt (.one (.int .u32 (.ofNat (mm x.1)))))]) (fun x => []) (fun x => []) (fun x => m - x.1) ⟨0, by omega, ok0⟩ ?_ ?_ ?_ ?_); (· (refine le_mk ?_ ?_ ?_ ?_ <;> (cbv; (try simp only [true_and, and_true]); (try ((repeat' apply And.intro) <;> (first | trivial | rfl | exact RowLe.rfl' _ | (rw [wrap_nat har _ (by omega)]) | ((exact m3 k (by assumption) (by assumption) (by assumption))) | ((exact m2 k (by assumption))) | ((exact m1 k (by assumption))))))))); (· (cbv; try rfl)); (· simp); (rintro ⟨k, hk, hok⟩ mm hmm))
    | ((with_reducible refine go_loopk (σ := {j : Nat // j ≤ rn ∧ ∀ i, i < j → i < pc ∨ tp i = false}) [6, 13, 14, 66, 67, 68, 69, 70, 71, 72, 73, 74, 75, 76, 77, 78, 79, 80, 81, 82, 83, 84, 85, 86, 87, 88, 89, 90, 91, 92, 93, 94, 95, 96, 97, 98, 99] (fun x => [(12, .pt (.one (.int .i64 (.ofNat x.1))))]) (fun x => []) (fun x => []) (fun x => rn - x.1) ⟨0, by omega, fun i hi => by omega⟩ ?_ ?_ ?_ ?_); (· (refine le_mk ?_ ?_ ?_ ?_ <;> (cbv; (try simp only [true_and, and_true]); (try ((repeat' apply And.intro) <;> (first | trivial | rfl | exact RowLe.rfl' _ | (rw [wrap_nat har _ (by omega)]) | ((exact m3 k (by assumption) (by assumption) (by assumption))) | ((exact m2 k (by assumption))) | ((exact m1 k (by assumption))))))))); (· (cbv; try rfl)); (· simp); (rintro ⟨j, hj, hjo⟩ mm hmm))
    | ((with_reducible refine go_stop (⟨k + 1, by omega, (by first | exact u1 k hok (by assumption) | exact u2 k (by assumption) hok (by assumption) (by assumption) (by assumption))⟩ : {k : Nat // k ≤ m ∧ OK k}) ?_ ?_ ?_ ?_); (· exact Nat.lt_of_lt_of_eq (show m - (k + 1) < m - k from by omega) (Eq.symm (by assumption))); (· (refine le_mk ?_ ?_ ?_ ?_ <;> (cbv; (try simp only [true_and, and_true]); (try ((repeat' apply And.intro) <;> (first | trivial | rfl | exact RowLe.rfl' _ | (rw [wrap_nat har _ (by omega)]) | ((exact m3 k (by assumption) (by assumption) (by assumption))) | ((exact m2 k (by assumption))) | ((exact m1 k (by assumption))))))))); (· (cbv; try rfl)); (· simp))
    | ((with_reducible refine go_stop (⟨j + 1, by omega, all_succ hjo (by first | exact v2 j (by assumption) | exact v1 hk (by assumption) j (by assumption) (by assumption) (by assumption))⟩ : {j : Nat // j ≤ rn ∧ ∀ i, i < j → i < pc ∨ tp i = false}) ?_ ?_ ?_ ?_); (· exact Nat.lt_of_lt_of_eq (show rn - (j + 1) < rn - j from by omega) (Eq.symm (by assumption))); (· (refine le_mk ?_ ?_ ?_ ?_ <;> (cbv; (try simp only [true_and, and_true]); (try ((repeat' apply And.intro) <;> (first | trivial | rfl | exact RowLe.rfl' _ | (rw [wrap_nat har _ (by omega)]) | ((exact m3 k (by assumption) (by assumption) (by assumption))) | ((exact m2 k (by assumption))) | ((exact m1 k (by assumption))))))))); (· (cbv; try rfl)); (· simp))
    )
  all_goals
    first
      | (rw [i1 k (by assumption) hok (by assumption) (by first | exact .inl (by assumption) | exact .inr (by assumption))]; done)
      | (rw [i2 hk (by assumption) hok j (by assumption) (by assumption) (by first | exact .inl (by assumption) | exact .inr (by assumption)) hjo]; done)
      | (rw [i3 hk (by assumption) hok (by assumption) hjo]; done)

set_option maxRecDepth 100000 in
set_option maxHeartbeats 8000000 in
theorem rBadB (F : GFun) (w : World) (hF : F.At w) (n : Nat) (b : Nat) (hm : F.jn b ≤ 8) (hop : ∀ wc, KB ⟨w, []⟩ wc → Calls Tryz.prog 57 #[F.val, .int .i64 (.ofNat n)] wc (RetR wc (funX F) (.pt (.one (.xs 3 b))) [])) (hin : ∀ i, i < F.jn b → opIn F.ln ((F.ja b) i)) (hl16 : F.ln ≤ 16) (S : Nat → Bool) (L : List Int) (hL : ∀ x ∈ L, 0 ≤ x ∧ x < F.ln) (hL9 : L.length ≤ 1000)
    (hrd : ∀ wc, KB ⟨w, []⟩ wc → Calls Tryz.prog 58 #[F.val, .int .i64 (.ofNat n)] wc (RetR wc (funX F) (.pt (.one (.rs 0))) [intR L])) (BZ : Int)
    (hit1 : ∀ k, okOps (F.ja b) S k → k < F.jn b → ((F.ja b) k).k ≠ 1 → (S ((F.ja b) k).p.l.toNat = false ∨ mvS (F.ja b) k ((F.ja b) k).p.l.toNat = true) → BZ = ((F.ja b) k).p.l)
    (hit2 : okOps (F.ja b) S (F.jn b) → ∀ j, j < L.length → plN (F.ja b) (F.jn b) ≤ j → tlP (F.ja b) (F.jn b) S (L.getD j 0) = true → (∀ i, i < j → i < plN (F.ja b) (F.jn b) ∨ tlP (F.ja b) (F.jn b) S (L.getD i 0) = false) → BZ = L.getD j 0)
    (hno : okOps (F.ja b) S (F.jn b) → (∀ i, i < L.length → i < plN (F.ja b) (F.jn b) ∨ tlP (F.ja b) (F.jn b) S (L.getD i 0) = false) → BZ = -1) :
    Calls Tryz.prog 25 #[F.val, .int .i64 (.ofNat n), .int .u32 (.ofNat (mk S F.ln))] w (Ret w (.int .i64 BZ)) := by
  have hpl (wc : World) (hk : KB ⟨w, []⟩ wc) : Calls Tryz.prog 59 #[.slice (F.jA b) (F.jn b) (F.jc b)] wc (Ret wc (.int .i64 (.ofNat (plN (F.ja b) (F.jn b))))) := placedC (F.jn b) (F.ja b) hm NoRows wc _ _ (argX (hF.later hk).ok b)
  generalize hpcc : plN (F.ja b) (F.jn b) = pcc at hpl
  obtain ⟨ln', hln'⟩ : ∃ m, m = F.ln := ⟨_, rfl⟩
  rw [← hln'] at hin hl16 hL ⊢
  obtain ⟨rn, hrn⟩ : ∃ m, m = L.length := ⟨_, rfl⟩
  obtain ⟨rl, hrl⟩ : ∃ f : Nat → Int, f = fun j => L.getD j 0 := ⟨_, rfl⟩
  have hrd (wc : World) (hk : KB ⟨w, []⟩ wc) : Calls Tryz.prog 58 #[F.val, .int .i64 (.ofNat n)] wc (RetR wc (funX F) (.pt (.one (.rs 0))) [⟨rn, 1, fun j => [.int .i64 (rl j)]⟩]) := by
    have := hrd wc hk
    rw [hrn, hrl]; exact this
  have hrb : ∀ j, j < rn → 0 ≤ rl j ∧ rl j < ln' := fun j hj => by
    rw [hrn] at hj; rw [hrl]
    refine hL _ ?_
    simp only [List.getD, List.getElem?_eq_getElem hj, Option.getD_some]
    exact List.getElem_mem hj
  rw [← hrn] at hL9
  obtain ⟨pc, hpc⟩ : ∃ p, p = plN (F.ja b) (F.jn b) := ⟨_, rfl⟩
  rw [hpcc] at hpc
  subst hpc
  obtain ⟨tp, htp⟩ : ∃ f : Nat → Bool, f = fun j => tlP (F.ja b) (F.jn b) S (rl j) := ⟨_, rfl⟩
  obtain ⟨OK, hOK⟩ : ∃ f : Nat → Prop, f = okOps (F.ja b) S := ⟨_, rfl⟩
  obtain ⟨MV, hMV⟩ : ∃ f : Nat → Nat → Bool, f = mvS (F.ja b) := ⟨_, rfl⟩
  have hit2 : OK (F.jn b) → ∀ j, j < rn → pc ≤ j → tp j = true → (∀ i, i < j → i < pc ∨ tp i = false) → BZ = rl j := by rw [hOK, hrn, htp, hrl, ← hpcc]; exact hit2
  have hno : OK (F.jn b) → (∀ i, i < rn → i < pc ∨ tp i = false) → BZ = -1 := by rw [hOK, hrn, htp, hrl, ← hpcc]; exact hno
  have hit1 : ∀ k, OK k → k < F.jn b → ((F.ja b) k).k ≠ 1 → (S ((F.ja b) k).p.l.toNat = false ∨ MV k ((F.ja b) k).p.l.toNat = true) → BZ = ((F.ja b) k).p.l := by rw [hOK, hMV]; exact hit1
  have tpe : ∀ j, tp j = !(S (rl j).toNat && !MV (F.jn b) (rl j).toNat) := fun j => by rw [htp, hMV]; rfl
  have ok0 : OK 0 := by rw [hOK]; intro i hi; omega
  have ok1 : ∀ k, OK k → (((F.ja b) k).k = 1 ∨ (S ((F.ja b) k).p.l.toNat = true ∧ MV k ((F.ja b) k).p.l.toNat = false)) → OK (k + 1) := fun k h1 h2 => by
    rw [hOK] at h1 ⊢; rw [hMV] at h2
    intro i hi
    rcases Nat.lt_or_eq_of_le (Nat.le_of_lt_succ hi) with h | rfl
    · exact h1 i h
    · exact h2
  have mv0 : ∀ l, MV 0 l = false := fun l => by rw [hMV]; rfl
  have mv1 : ∀ k l, MV (k + 1) l = (MV k l || (decide (((F.ja b) k).k = 3) && decide (l = ((F.ja b) k).p.l.toNat))) := fun k l => by rw [hMV]; rfl
  have hin2 : ∀ k, k < F.jn b → decide (((F.ja b) k).k = 1) = false → 0 ≤ ((F.ja b) k).p.l ∧ ((F.ja b) k).p.l < ln' := fun k hk h => by
    rcases hin k hk with g1 | g1
    · exact absurd g1 (of_decide_eq_false h)
    · exact g1.2
  obtain ⟨mm, hmm0⟩ : ∃ f : Nat → Nat, f = fun k => mk (MV k) ln' := ⟨_, rfl⟩
  obtain ⟨sm, hsm⟩ : ∃ x, x = mk S ln' := ⟨_, rfl⟩
  rw [← hsm]
  clear hln' hrl hrn hpcc htp hOK hMV hin hL
  obtain ⟨pa, un, lA, ln, lc, lk, lt, bA, bn, bc, sA, sn, sc, s, jA, jn, jc, ja, jk, jo, jf, jx, je, jd⟩ := F
  obtain ⟨hX, hl, hb, hs, hj⟩ := hF
  simp only at hl hb hs hj
  try simp only at hpl hop hit1 hit2 hno ok1 mv1 hin2 tpe hrd hm
  refine go_start (args := [.pt (.agg (GFun.dat ⟨pa, un, lA, ln, lc, lk, lt, bA, bn, bc, sA, sn, sc, s, jA, jn, jc, ja, jk, jo, jf, jx, je, jd⟩)), .pt (.one (.int .i64 (.ofNat n))), .pt (.one (.int .u32 (.ofNat sm)))]) (c := (funX ⟨pa, un, lA, ln, lc, lk, lt, bA, bn, bc, sA, sn, sc, s, jA, jn, jc, ja, jk, jo, jf, jx, je, jd⟩)) Tryz.func25 rfl hX rfl rfl ?_
  obtain ⟨nd, hnd⟩ : ∃ f : Bool → Bool → Bool, f = and := ⟨_, rfl⟩
  obtain ⟨nt, hnt⟩ : ∃ f : Bool → Bool, f = not := ⟨_, rfl⟩
  obtain ⟨ar, har⟩ : ∃ f : BinOp → IntKind → Int → Int → Int, f = rAr := ⟨_, rfl⟩
  obtain ⟨cm, hcm⟩ : ∃ f : BinOp → Int → Int → Bool, f = rCm := ⟨_, rfl⟩
  obtain ⟨mx, hmx⟩ : ∃ f : Int → Int → Int, f = rMx := ⟨_, rfl⟩
  obtain ⟨mn, hmn⟩ : ∃ f : Int → Int → Int, f = rMn := ⟨_, rfl⟩
  have ar01 : ar .add .i64 0 1 = 1 := by rw [har]; decide
  have ar12 : ar .add .i64 1 1 = 2 := by rw [har]; decide
  obtain ⟨zpl, hzpl⟩ : ∃ f : Nat → Nat → Nat, f = fun x y => x + y := ⟨_, rfl⟩
  obtain ⟨zjn, hzjn⟩ : ∃ f : Nat → (Nat → List SC) → (Nat → List SC) → Nat → List SC, f = rJn := ⟨_, rfl⟩
  obtain ⟨zup, hzup⟩ : ∃ f : (Nat → List SC) → Nat → Nat → List SC → Nat → List SC, f = rUp := ⟨_, rfl⟩
  obtain ⟨zmi, hzmi⟩ : ∃ f : Nat → Nat → Nat, f = fun x y => x - y := ⟨_, rfl⟩
  obtain ⟨zdp, hzdp⟩ : ∃ f : Nat → (Nat → List SC) → Nat → List SC, f = rDp := ⟨_, rfl⟩
  have hT := T0_ok hnd hnt har hcm hmx hmn hzpl hzjn hzup hzmi hzdp
  have hbit : ∀ x : Int, 0 ≤ x → x < ln' → ar .shl .u32 1 (ar .quo .u64 x 0) = .ofNat (mk (fun l => decide (l = x.toNat)) ln') := fun x h0 h1 => by
    rw [quo_u64 har h0 (by omega), ← mk_one (show x.toNat < ln' by omega)]
    exact u32_shl har (show x.toNat < 32 by omega)
  have hz : ∀ (T : Nat → Bool) (x : Int), 0 ≤ x → x < ln' → decide (ar .and .u32 (.ofNat (mk T ln')) (ar .shl .u32 1 (ar .quo .u64 x 0)) = 0) = !T x.toNat := fun T x h0 h1 => by
    rw [hbit x h0 h1, mk_and har (by omega)]
    cases hT : T x.toNat
    · refine decide_eq_true ?_
      have : mk (fun l => T l && decide (l = x.toNat)) ln' = 0 := by
        refine Eq.trans (mk_ext (T := fun _ => false) fun l hl => ?_) mk_none.symm
        by_cases e : l = x.toNat
        · rw [e, hT]; rfl
        · simp [e]
      rw [this]; rfl
    · refine decide_eq_false fun h => ?_
      have h : mk (fun l => T l && decide (l = x.toNat)) ln' = 0 := Int.ofNat.inj h
      have := mk_zero h (show x.toNat < ln' by omega)
      simp [hT] at this
  have cA : ∀ k, k < jn b → decide ((ja b k).k = 1) = false → decide (ar .and .u32 (.ofNat sm) (ar .shl .u32 1 (ar .quo .u64 (ja b k).p.l 0)) = 0) = !S (ja b k).p.l.toNat := fun k hk h => by
    have q := hin2 k hk h
    rw [hsm]; exact hz S _ q.1 q.2
  have cB : ∀ k, k < jn b → decide ((ja b k).k = 1) = false → decide (ar .and .u32 (.ofNat (mm k)) (ar .shl .u32 1 (ar .quo .u64 (ja b k).p.l 0)) = 0) = !MV k (ja b k).p.l.toNat := fun k hk h => by
    have q := hin2 k hk h
    rw [hmm0]; exact hz (MV k) _ q.1 q.2
  have cC : ∀ j, j < rn → decide (ar .and .u32 (.ofNat sm) (ar .shl .u32 1 (ar .quo .u64 (rl j) 0)) = 0) = !S (rl j).toNat := fun j hj => by
    have q := hrb j hj
    rw [hsm]; exact hz S _ q.1 q.2
  have cD : ∀ {k}, k ≤ jn b → jn b ≤ k → ∀ j, j < rn → decide (ar .and .u32 (.ofNat (mm k)) (ar .shl .u32 1 (ar .quo .u64 (rl j) 0)) = 0) = !MV (jn b) (rl j).toNat := fun {k} aa bb j hj => by
    have q := hrb j hj
    rw [Nat.le_antisymm aa bb, hmm0]; exact hz (MV _) _ q.1 q.2
  have m0 : (0 : Int) = .ofNat (mm 0) := by
    rw [hmm0]
    have : mk (MV 0) ln' = 0 := (mk_ext fun l _ => mv0 l).trans mk_none.symm
    simp only [this]; rfl
  have m3 : ∀ k, k < jn b → decide ((ja b k).k = 1) = false → decide ((ja b k).k = 3) = true → ar .or .u32 (.ofNat (mm k)) (ar .shl .u32 1 (ar .quo .u64 (ja b k).p.l 0)) = .ofNat (mm (k + 1)) := fun k hk h h3 => by
    have q := hin2 k hk h
    rw [hbit _ q.1 q.2, hmm0]
    refine (mk_or har (by omega) _ _).trans (congrArg Int.ofNat (mk_ext fun l _ => ?_))
    rw [mv1, h3]; rfl
  have m2 : ∀ k, decide ((ja b k).k = 3) = false → Int.ofNat (mm k) = .ofNat (mm (k + 1)) := fun k h3 => by
    rw [hmm0]
    refine congrArg Int.ofNat (mk_ext fun l _ => ?_)
    rw [mv1, h3]; simp
  have m1 : ∀ k, decide ((ja b k).k = 1) = true → Int.ofNat (mm k) = .ofNat (mm (k + 1)) := fun k h => m2 k (decide_eq_false (by have := of_decide_eq_true h; omega))
  have q1 : ∀ k, k < jn b → decide ((ja b k).k = 1) = false → ar .quo .u64 (ja b k).p.l 0 = .ofNat (ja b k).p.l.toNat := fun k hk h => by
    have q := hin2 k hk h
    exact quo_u64 har q.1 (by omega)
  have q2 : ∀ j, j < rn → ar .quo .u64 (rl j) 0 = .ofNat (rl j).toNat := fun j hj => by
    have q := hrb j hj
    exact quo_u64 har q.1 (by omega)
  have u1 : ∀ k, OK k → decide ((ja b k).k = 1) = true → OK (k + 1) := fun k a b => ok1 k a (.inl (of_decide_eq_true b))
  have u2 : ∀ k, k < jn b → OK k → decide ((ja b k).k = 1) = false → decide (ar .and .u32 (.ofNat sm) (ar .shl .u32 1 (ar .quo .u64 (ja b k).p.l 0)) = 0) = false → decide (ar .and .u32 (.ofNat (mm k)) (ar .shl .u32 1 (ar .quo .u64 (ja b k).p.l 0)) = 0) = true → OK (k + 1) := fun k hk a b c d => by
    rw [cA k hk b] at c
    rw [cB k hk b] at d
    exact ok1 k a (.inr ⟨by simpa using c, by simpa using d⟩)
  have i1 : ∀ k, k < jn b → OK k → decide ((ja b k).k = 1) = false → decide (ar .and .u32 (.ofNat sm) (ar .shl .u32 1 (ar .quo .u64 (ja b k).p.l 0)) = 0) = true ∨ decide (ar .and .u32 (.ofNat (mm k)) (ar .shl .u32 1 (ar .quo .u64 (ja b k).p.l 0)) = 0) = false → BZ = (ja b k).p.l := fun k hk a b c => by
    rw [cA k hk b, cB k hk b] at c
    exact hit1 k a hk (of_decide_eq_false b) (by simpa using c)
  have ls : ∀ j, cm .lss (.ofNat j) (.ofNat pc) = decide (j < pc) := fun j => by
    rw [hcm]
    show decide ((j : Int) < (pc : Int)) = _
    rw [Bool.eq_iff_iff]; simp
  have v1 : ∀ {k}, k ≤ jn b → jn b ≤ k → ∀ j, j < rn → decide (ar .and .u32 (.ofNat sm) (ar .shl .u32 1 (ar .quo .u64 (rl j) 0)) = 0) = false → decide (ar .and .u32 (.ofNat (mm k)) (ar .shl .u32 1 (ar .quo .u64 (rl j) 0)) = 0) = true → j < pc ∨ tp j = false := fun {k} aa bb j hj c d => by
    rw [cC j hj] at c
    rw [cD aa bb j hj] at d
    refine .inr ?_
    rw [tpe]
    cases h1 : S (rl j).toNat <;> cases h2 : MV (jn b) (rl j).toNat <;> simp_all
  have v2 : ∀ j, cm .lss (.ofNat j) (.ofNat pc) = true → j < pc ∨ tp j = false := fun j h => .inl (of_decide_eq_true (by rw [← ls]; exact h))
  have i2 : ∀ {k}, k ≤ jn b → jn b ≤ k → OK k → ∀ j, j < rn → cm .lss (.ofNat j) (.ofNat pc) = false → decide (ar .and .u32 (.ofNat sm) (ar .shl .u32 1 (ar .quo .u64 (rl j) 0)) = 0) = true ∨ decide (ar .and .u32 (.ofNat (mm k)) (ar .shl .u32 1 (ar .quo .u64 (rl j) 0)) = 0) = false → (∀ i, i < j → i < pc ∨ tp i = false) → BZ = rl j := fun {k} aa bb c j hj d e f => by
    have ek := Nat.le_antisymm aa bb
    rw [cC j hj, cD aa bb j hj] at e
    rw [ls] at d
    refine hit2 (ek ▸ c) j hj (Nat.le_of_not_lt (of_decide_eq_false d)) ?_ f
    rw [tpe]
    cases h1 : S (rl j).toNat <;> cases h2 : MV (jn b) (rl j).toNat <;> simp_all
  have i3 : ∀ {k}, k ≤ jn b → jn b ≤ k → OK k → ∀ {j}, rn ≤ j → (∀ i, i < j → i < pc ∨ tp i = false) → BZ = -1 := fun {k} aa bb c {j} d f => by
    have ek := Nat.le_antisymm aa bb
    exact hno (ek ▸ c) (fun i hi => f i (by omega))
  clear hbit hz cA cB cC cD hmm0 hsm mv0 mv1 tpe hit1 hit2 hno ok1
  repeat' (first
    | ((with_reducible apply go_ev hT 400); (· (cbv; try rfl)); (fail_if_success with_reducible apply stuck_id))
    | (with_reducible refine go_brn hnt (fun h => ?_) (fun h => ?_))
    | (with_reducible refine go_brl hcm (fun hlt => ?_) (fun hge => ?_))
    | (with_reducible refine go_br (fun h => ?_) (fun h => ?_))
    | ((with_reducible apply go_ret_val hT); (· (cbv; try rfl)); (· (cbv; try rfl)))
    | ((with_reducible refine go_need ?_ ?_ ?_); (· first | omega | (simp only [Int.ofNat_eq_natCast]; omega)); (· first | omega | (simp only [Int.ofNat_eq_natCast]; omega)))
    | ((with_reducible apply go_callR (f := 57) (hf := Tryz.call57)); (· intro S; cbv; try rfl); (· intro wc S hbc hxc hrc; exact hop wc hbc); (· rfl))
    | ((with_reducible apply go_callR (f := 58) (hf := Tryz.call58)); (· intro S; cbv; try rfl); (· intro wc S hbc hxc hrc; exact hrd wc hbc); (· rfl))
    | ((with_reducible apply go_call (f := 59) (hf := Tryz.call59)); (· (cbv; try rfl)); (· intro wc hbc hxc; exact hpl wc hbc))
    | (((with_reducible apply go_need); (· rw [q1 k (by assumption) (by assumption)]; exact Int.natCast_nonneg _); (· rw [q1 k (by assumption) (by assumption)]; exact (show (((ja b k).p.l.toNat : Nat) : Int) < (((ja b k).p.l.toNat + 1 : Nat) : Int) by omega))))
    | (((with_reducible apply go_need); (· rw [q2 j (by assumption)]; exact Int.natCast_nonneg _); (· rw [q2 j (by assumption)]; exact (show (((rl j).toNat : Nat) : Int) < (((rl j).toNat + 1 : Nat) : Int) by omega))))
    | ((with_reducible refine go_loopk (σ := {k : Nat // k ≤ jn b ∧ OK k}) [6, 10, 18, 19, 20, 21, 22, 23, 24, 25, 26, 27, 28, 29, 30, 31, 32, 33, 34, 35, 36, 37, 38, 39, 40, 41, 42, 43, 44, 45, 46, 47, 48, 49, 50, 51, 52, 53, 54, 55, 56, 57, 58, 59, 60, 61, 62] (fun x => [(9, .pt (.one (.int .i64 (.ofNat x.1)))), (7, .pt (.one (.int .u32 (.ofNat (mm x.1)))))]) (fun x => []) (fun x => []) (fun x => jn b - x.1) ⟨0, by omega, ok0⟩ ?_ ?_ ?_ ?_); (· (refine le_mk ?_ ?_ ?_ ?_ <;> (cbv; (try simp only [true_and, and_true]); (try ((repeat' apply And.intro) <;> (first | trivial | rfl | exact RowLe.rfl' _ | (rw [wrap_nat har _ (by omega)]) | ((exact m3 k (by assumption) (by assumption) (by assumption))) | ((exact m2 k (by assumption))) | ((exact m1 k (by assumption))))))))); (· (cbv; try rfl)); (· simp); (rintro ⟨k, hk, hok⟩ mm hmm))
    | ((with_reducible refine go_loopk (σ := {j : Nat // j ≤ rn ∧ ∀ i, i < j → i < pc ∨ tp i = false}) [6, 13, 14, 66, 67, 68, 69, 70, 71, 72, 73, 74, 75, 76, 77, 78, 79, 80, 81, 82, 83, 84, 85, 86, 87, 88, 89, 90, 91, 92, 93, 94, 95, 96, 97, 98, 99] (fun x => [(12, .pt (.one (.int .i64 (.ofNat x.1))))]) (fun x => []) (fun x => []) (fun x => rn - x.1) ⟨0, by omega, fun i hi => by omega⟩ ?_ ?_ ?_ ?_); (· (refine le_mk ?_ ?_ ?_ ?_ <;> (cbv; (try simp only [true_and, and_true]); (try ((repeat' apply And.intro) <;> (first | trivial | rfl | exact RowLe.rfl' _ | (rw [wrap_nat har _ (by omega)]) | ((exact m3 k (by assumption) (by assumption) (by assumption))) | ((exact m2 k (by assumption))) | ((exact m1 k (by assumption))))))))); (· (cbv; try rfl)); (· simp); (rintro ⟨j, hj, hjo⟩ mm hmm))
    | ((with_reducible refine go_stop (⟨k + 1, by omega, (by first | exact u1 k hok (by assumption) | exact u2 k (by assumption) hok (by assumption) (by assumption) (by assumption))⟩ : {k : Nat // k ≤ jn b ∧ OK k}) ?_ ?_ ?_ ?_); (· exact Nat.lt_of_lt_of_eq (show jn b - (k + 1) < jn b - k from by omega) (Eq.symm (by assumption))); (· (refine le_mk ?_ ?_ ?_ ?_ <;> (cbv; (try simp only [true_and, and_true]); (try ((repeat' apply And.intro) <;> (first | trivial | rfl | exact RowLe.rfl' _ | (rw [wrap_nat har _ (by omega)]) | ((exact m3 k (by assumption) (by assumption) (by assumption))) | ((exact m2 k (by assumption))) | ((exact m1 k (by assumption))))))))); (· (cbv; try rfl)); (· simp))
    | ((with_reducible refine go_stop (⟨j + 1, by omega, all_succ hjo (by first | exact v2 j (by assumption) | exact v1 hk (by assumption) j (by assumption) (by assumption) (by assumption))⟩ : {j : Nat // j ≤ rn ∧ ∀ i, i < j → i < pc ∨ tp i = false}) ?_ ?_ ?_ ?_); (· exact Nat.lt_of_lt_of_eq (show rn - (j + 1) < rn - j from by omega) (Eq.symm (by assumption))); (· (refine le_mk ?_ ?_ ?_ ?_ <;> (cbv; (try simp only [true_and, and_true]); (try ((repeat' apply And.intro) <;> (first | trivial | rfl | exact RowLe.rfl' _ | (rw [wrap_nat har _ (by omega)]) | ((exact m3 k (by assumption) (by assumption) (by assumption))) | ((exact m2 k (by assumption))) | ((exact m1 k (by assumption))))))))); (· (cbv; try rfl)); (· simp))
    )
  all_goals
    first
      | (rw [i1 k (by assumption) hok (by assumption) (by first | exact .inl (by assumption) | exact .inr (by assumption))]; done)
      | (rw [i2 hk (by assumption) hok j (by assumption) (by assumption) (by first | exact .inl (by assumption) | exact .inr (by assumption)) hjo]; done)
      | (rw [i3 hk (by assumption) hok (by assumption) hjo]; done)

set_option maxRecDepth 100000 in
set_option maxHeartbeats 4000000 in
theorem rBadC (F : GFun) (w : World) (hF : F.At w) (hO : F.Ok) (n : Nat) (hn : n < stN F.sn F.bn) (S : Nat → Bool) :
    Calls Tryz.prog 25 #[F.val, .int .i64 (.ofNat n), .int .u32 (.ofNat (mk S F.ln))] w (Ret w (.int .i64 (badI (ptD F (pbN F n) (piN F n)) S))) := by
  have h8 := opN_le hO hn
  have hin := opG_in hO hn
  have hrd (wc : World) (hk : KB ⟨w, []⟩ wc) := rReadsC F wc (hF.later hk) hO n hn
  have hL : ∀ x ∈ rdO (opG F n) (opN F n) ++ rdT F n, 0 ≤ x ∧ x < (F.ln : Int) := fun x hx => by
    rcases List.mem_append.1 hx with h | h
    · exact rdO_in _ hin x h
    · exact rdT_in hO hn x h
  have hL9 : (rdO (opG F n) (opN F n) ++ rdT F n).length ≤ 1000 := by
    rw [List.length_append, rdO_len]
    have := plN_le (opG F n) (opN F n)
    have : (rdT F n).length ≤ 3 := by
      unfold rdT
      simp only [List.length_append]
      have a : ∀ (p : Prop) [Decidable p] (x : Int), (if p then [x] else []).length ≤ 1 := fun p _ x => by split <;> simp
      have := a (isAt F n = true ∧ (stAt F n).k = 1 ∧ 4 ≤ (stAt F n).r.k) (stAt F n).r.p.l
      have := a (tgW F n = true ∧ wholeP (tgP F n) = false) (tgP F n).l
      have := a (isAt F n = false ∧ F.jk (pbN F n) = 3) 0
      omega
    omega
  have hit1 : ∀ k, okOps (opG F n) S k → k < opN F n → (opG F n k).k ≠ 1 → (S (opG F n k).p.l.toNat = false ∨ mvS (opG F n) k (opG F n k).p.l.toNat = true) → badI (ptD F (pbN F n) (piN F n)) S = (opG F n k).p.l := fun k h1 h2 h3 h4 => by
    rw [ptD_split hO hn]
    refine okOps_hit h1 h2 h3 h4 ?_
    rcases hin k h2 with g | g
    · exact absurd g h3
    · exact g.2.1
  have hit2 := fun (h : okOps (opG F n) S (opN F n)) j (a : j < (rdO (opG F n) (opN F n) ++ rdT F n).length) b c d => tail_hit hO hn h a b c d
  have hno := fun (h : okOps (opG F n) S (opN F n)) d => tail_no hO hn h d
  have hl16 := hO.ln16
  generalize badI (ptD F (pbN F n) (piN F n)) S = BZ at hit1 hit2 hno ⊢
  generalize rdO (opG F n) (opN F n) ++ rdT F n = L at hrd hL hL9 hit2 hno
  by_cases h : isAt F n = true ∨ F.jk (pbN F n) = 2
  · exact rBadA F w hF n (opN F n) (opG F n) h8 (fun wc hk => (rOpsN F wc (hF.later hk) hO n hn).1 h) hin hl16 S L hL hL9 hrd BZ hit1 hit2 hno
  · obtain ⟨e1, e2⟩ := opN_B h
    rw [e1, e2] at hit1 hit2 hno hin
    rw [e1] at h8
    exact rBadB F w hF n (pbN F n) h8 (fun wc hk => (rOpsN F wc (hF.later hk) hO n hn).2 h) hin hl16 S L hL hL9 hrd BZ hit1 hit2 hno

end Go.Proofs.YtbljhhkjjlgnmaaGreat
