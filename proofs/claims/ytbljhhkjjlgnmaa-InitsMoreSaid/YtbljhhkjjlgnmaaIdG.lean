/- Layer 15 of the program: Set of a refused function, First, Check. No condition. -/
import Derived.Test.YtbljhhkjjlgnmaaIdF
namespace Go.Proofs.Ytbljhhkjjlgnmaa
open Go.RowKit
set_option linter.unusedVariables false
set_option linter.unusedSimpArgs false

/-- The first of n numbers of which p is true. -/
def lead (p : Nat → Bool) : Nat → Option Nat
  | 0 => none
  | n + 1 => match lead p n with
    | some k => some k
    | none => if p n = true then some n else none

theorem lead_none {p : Nat → Bool} : ∀ {n}, (∀ j, j < n → p j = false) → lead p n = none
  | 0, _ => rfl
  | n + 1, h => by
    simp only [lead, lead_none (n := n) (fun j hj => h j (by omega)), h n (by omega)]
    simp

theorem lead_some {p : Nat → Bool} {k : Nat} (hp : p k = true) (h : ∀ j, j < k → p j = false) : ∀ {n}, k < n → lead p n = some k
  | n + 1, hk => by
    by_cases g : k < n
    · simp only [lead, lead_some hp h g]
    · obtain rfl : k = n := by omega
      simp only [lead, lead_none h, hp, if_true]

theorem lead_is {p : Nat → Bool} : ∀ {n}, (∃ k, lead p n = some k ∧ k < n ∧ p k = true ∧ ∀ j, j < k → p j = false) ∨ (lead p n = none ∧ ∀ j, j < n → p j = false)
  | 0 => .inr ⟨rfl, fun j hj => by omega⟩
  | n + 1 => by
    rcases lead_is (p := p) (n := n) with ⟨k, h1, h2, h3, h4⟩ | ⟨h1, h2⟩
    · exact .inl ⟨k, by simp only [lead, h1], by omega, h3, h4⟩
    · by_cases g : p n = true
      · exact .inl ⟨n, by simp only [lead, h1, g, if_true], by omega, g, h2⟩
      · refine .inr ⟨by simp only [lead, h1]; rw [if_neg g], fun j hj => ?_⟩
        rcases Nat.lt_or_eq_of_le (Nat.le_of_lt_succ hj) with h | rfl
        · exact h2 j h
        · simpa using g

/-- The first local that a point reads and that is not set; below 0: none. -/
noncomputable def badAt (F : GFun) (n : Nat) : Int := badI (ptD F (pbN F n) (piN F n)) (setM F n)

noncomputable def firstI (F : GFun) : Nat × Int × Int := match lead (fun n => decide (0 ≤ badAt F n)) (stN F.sn F.bn) with
  | some n => (n, badAt F n, 0)
  | none => (0, 0, 6)

noncomputable def initI (F : GFun) : Int := if (firstI F).2.2 = 6 then 0 else 44

theorem firstI_of {F : GFun} {k : Nat} (hk : k < stN F.sn F.bn) (hp : 0 ≤ badAt F k) (h : ∀ j, j < k → badAt F j < 0) : firstI F = (k, badAt F k, 0) := by
  unfold firstI
  rw [lead_some (p := fun n => decide (0 ≤ badAt F n)) (k := k) (decide_eq_true hp) (fun j hj => decide_eq_false (by have := h j hj; omega)) hk]

theorem firstI_no {F : GFun} (h : ∀ j, j < stN F.sn F.bn → badAt F j < 0) : firstI F = (0, 0, 6) := by
  unfold firstI
  rw [lead_none (p := fun n => decide (0 ≤ badAt F n)) (fun j hj => decide_eq_false (by have := h j hj; omega))]

theorem firstI_is (F : GFun) : (∃ k, firstI F = (k, badAt F k, 0) ∧ k < stN F.sn F.bn ∧ 0 ≤ badAt F k ∧ ∀ j, j < k → badAt F j < 0) ∨ (firstI F = (0, 0, 6) ∧ ∀ j, j < stN F.sn F.bn → badAt F j < 0) := by
  rcases lead_is (p := fun n => decide (0 ≤ badAt F n)) (n := stN F.sn F.bn) with ⟨k, h1, h2, h3, h4⟩ | ⟨h1, h2⟩
  · exact .inl ⟨k, by unfold firstI; rw [h1], h2, of_decide_eq_true h3, fun j hj => by have := of_decide_eq_false (h4 j hj); omega⟩
  · exact .inr ⟨by unfold firstI; rw [h1], fun j hj => by have := of_decide_eq_false (h2 j hj); omega⟩

set_option maxRecDepth 100000 in
set_option maxHeartbeats 4000000 in
theorem setBad (F : GFun) (w : World) (hF : F.At w) (hz : fchkV F ≠ 0) :
    Calls Try.prog 11 #[F.val] w (Ret w (.tuple #[.slice none 0 0, .int .i64 (fchkV F)])) := by
  have h1 (wc : World) (hk : KB ⟨w, []⟩ wc) := fnChk F wc (hF.later hk)
  generalize fchkV F = z at h1 hz ⊢
  have hq : decide (z = 0) = false := decide_eq_false hz
  clear hz
  obtain ⟨pa, un, lA, ln, lc, lk, lt, bA, bn, bc, sA, sn, sc, s, jA, jn, jc, ja, jk, jo, jf, jx, je, jd⟩ := F
  obtain ⟨hX, hl, hb, hs, hj⟩ := hF
  simp only at hl hb hs hj
  refine go_start (args := [.pt (.agg (GFun.dat ⟨pa, un, lA, ln, lc, lk, lt, bA, bn, bc, sA, sn, sc, s, jA, jn, jc, ja, jk, jo, jf, jx, je, jd⟩))]) (c := (funX ⟨pa, un, lA, ln, lc, lk, lt, bA, bn, bc, sA, sn, sc, s, jA, jn, jc, ja, jk, jo, jf, jx, je, jd⟩)) Try.func11 rfl hX rfl rfl ?_
  obtain ⟨nd, hnd⟩ : ∃ f : Bool → Bool → Bool, f = and := ⟨_, rfl⟩
  obtain ⟨nt, hnt⟩ : ∃ f : Bool → Bool, f = not := ⟨_, rfl⟩
  obtain ⟨ar, har⟩ : ∃ f : BinOp → IntKind → Int → Int → Int, f = rAr := ⟨_, rfl⟩
  obtain ⟨cm, hcm⟩ : ∃ f : BinOp → Int → Int → Bool, f = rCm := ⟨_, rfl⟩
  obtain ⟨mx, hmx⟩ : ∃ f : Int → Int → Int, f = rMx := ⟨_, rfl⟩
  obtain ⟨mn, hmn⟩ : ∃ f : Int → Int → Int, f = rMn := ⟨_, rfl⟩
  have ar01 : ar .add .i64 0 1 = 1 := by rw [har]; decide
  have ar12 : ar .add .i64 1 1 = 2 := by rw [har]; decide
  obtain ⟨zpl, hzpl⟩ : ∃ f : Nat → Nat → Nat, f = fun x y => x + y := ⟨_, rfl⟩
  obtain ⟨zjn, hzjn⟩ : ∃ f : Nat → (Nat → List SC) → (Nat → List SC) → Nat → List SC, f = rJn := ⟨_, rfl⟩
  obtain ⟨zup, hzup⟩ : ∃ f : (Nat → List SC) → Nat → Nat → List SC → Nat → List SC, f = rUp := ⟨_, rfl⟩
  obtain ⟨zmi, hzmi⟩ : ∃ f : Nat → Nat → Nat, f = fun x y => x - y := ⟨_, rfl⟩
  obtain ⟨zdp, hzdp⟩ : ∃ f : Nat → (Nat → List SC) → Nat → List SC, f = rDp := ⟨_, rfl⟩
  have hT := T0_ok hnd hnt har hcm hmx hmn hzpl hzjn hzup hzmi hzdp
  repeat' (first
    | ((with_reducible apply go_ev hT 400); (· (cbv; try rfl)); (fail_if_success with_reducible apply stuck_id))
    | ((with_reducible refine go_brnt hnt ?_ ?_); (· first | rfl | assumption))
    | ((with_reducible apply go_ret_val hT); (· (cbv; try rfl)); (· (cbv; try rfl)))
    | ((with_reducible apply go_call (f := 19) (hf := Try.call19)); (· (cbv; try rfl)); (· intro wc hbc hxc; exact h1 wc hbc))
    )
  all_goals rfl

set_option maxRecDepth 100000 in
set_option maxHeartbeats 4000000 in
theorem firstBad (F : GFun) (w : World) (hF : F.At w) (hz : fchkV F ≠ 0) :
    Calls Try.prog 6 #[F.val] w (Ret w (.tuple #[.int .i64 0, .int .i64 0, .int .i64 (fchkV F)])) := by
  have h1 (wc : World) (hk : KB ⟨w, []⟩ wc) := setBad F wc (hF.later hk) hz
  generalize fchkV F = z at h1 hz ⊢
  have hq : decide (z = 0) = false := decide_eq_false hz
  clear hz
  obtain ⟨pa, un, lA, ln, lc, lk, lt, bA, bn, bc, sA, sn, sc, s, jA, jn, jc, ja, jk, jo, jf, jx, je, jd⟩ := F
  obtain ⟨hX, hl, hb, hs, hj⟩ := hF
  simp only at hl hb hs hj
  refine go_start (args := [.pt (.agg (GFun.dat ⟨pa, un, lA, ln, lc, lk, lt, bA, bn, bc, sA, sn, sc, s, jA, jn, jc, ja, jk, jo, jf, jx, je, jd⟩))]) (c := (funX ⟨pa, un, lA, ln, lc, lk, lt, bA, bn, bc, sA, sn, sc, s, jA, jn, jc, ja, jk, jo, jf, jx, je, jd⟩)) Try.func6 rfl hX rfl rfl ?_
  obtain ⟨nd, hnd⟩ : ∃ f : Bool → Bool → Bool, f = and := ⟨_, rfl⟩
  obtain ⟨nt, hnt⟩ : ∃ f : Bool → Bool, f = not := ⟨_, rfl⟩
  obtain ⟨ar, har⟩ : ∃ f : BinOp → IntKind → Int → Int → Int, f = rAr := ⟨_, rfl⟩
  obtain ⟨cm, hcm⟩ : ∃ f : BinOp → Int → Int → Bool, f = rCm := ⟨_, rfl⟩
  obtain ⟨mx, hmx⟩ : ∃ f : Int → Int → Int, f = rMx := ⟨_, rfl⟩
  obtain ⟨mn, hmn⟩ : ∃ f : Int → Int → Int, f = rMn := ⟨_, rfl⟩
  have ar01 : ar .add .i64 0 1 = 1 := by rw [har]; decide
  have ar12 : ar .add .i64 1 1 = 2 := by rw [har]; decide
  obtain ⟨zpl, hzpl⟩ : ∃ f : Nat → Nat → Nat, f = fun x y => x + y := ⟨_, rfl⟩
  obtain ⟨zjn, hzjn⟩ : ∃ f : Nat → (Nat → List SC) → (Nat → List SC) → Nat → List SC, f = rJn := ⟨_, rfl⟩
  obtain ⟨zup, hzup⟩ : ∃ f : (Nat → List SC) → Nat → Nat → List SC → Nat → List SC, f = rUp := ⟨_, rfl⟩
  obtain ⟨zmi, hzmi⟩ : ∃ f : Nat → Nat → Nat, f = fun x y => x - y := ⟨_, rfl⟩
  obtain ⟨zdp, hzdp⟩ : ∃ f : Nat → (Nat → List SC) → Nat → List SC, f = rDp := ⟨_, rfl⟩
  have hT := T0_ok hnd hnt har hcm hmx hmn hzpl hzjn hzup hzmi hzdp
  repeat' (first
    | ((with_reducible apply go_ev hT 400); (· (cbv; try rfl)); (fail_if_success with_reducible apply stuck_id))
    | ((with_reducible refine go_brnt hnt ?_ ?_); (· first | rfl | assumption))
    | ((with_reducible apply go_ret_val hT); (· (cbv; try rfl)); (· (cbv; try rfl)))
    | ((with_reducible apply go_call (f := 11) (hf := Try.call11)); (· (cbv; try rfl)); (· intro wc hbc hxc; exact h1 wc hbc))
    )
  all_goals rfl

set_option maxRecDepth 100000 in
set_option maxHeartbeats 8000000 in
theorem firstC (F : GFun) (w : World) (hF : F.At w) (hO : F.Ok) :
    Calls Try.prog 6 #[F.val] w (Ret w (.tuple #[.int .i64 (.ofNat (firstI F).1), .int .i64 (firstI F).2.1, .int .i64 (firstI F).2.2])) := by
  have h1 (wc : World) (hk : KB ⟨w, []⟩ wc) := setC F wc (hF.later hk) hO
  have h2 (wc : World) (hk : KB ⟨w, []⟩ wc) := pointsN F wc (hF.later hk) hO
  have h30 (wc : World) (hk : KB ⟨w, []⟩ wc) (a : Nat) (ha : a < stN F.sn F.bn) := behindC F wc (hF.later hk) hO (pbN F a) (piN F a) (num_pt ha).1 (setM F a)
  have hN9 := hO.pts
  obtain ⟨N, hN⟩ : ∃ N, N = stN F.sn F.bn := ⟨_, rfl⟩
  obtain ⟨pb, hpb⟩ : ∃ f : Nat → Nat, f = pbN F := ⟨_, rfl⟩
  obtain ⟨pi, hpi⟩ : ∃ f : Nat → Nat, f = piN F := ⟨_, rfl⟩
  have hR : ptR (allPts F.sn F.bn) = ⟨N, 2, fun j => [.int .i64 (.ofNat (pb j)), .int .i64 (.ofNat (pi j))]⟩ := by rw [ptR, allPts_len, hN, hpb, hpi]; rfl
  rw [hR] at h2
  obtain ⟨rm, hrm⟩ : ∃ f : Nat → Nat, f = fun j => mk (setM F j) F.ln := ⟨_, rfl⟩
  have hRM : (⟨stN F.sn F.bn, 1, fun j => [SC.int .u32 (.ofNat (mk (setM F j) F.ln))]⟩ : ORow) = ⟨N, 1, fun j => [SC.int .u32 (.ofNat (rm j))]⟩ := by rw [hrm, hN]
  rw [hRM] at h1
  obtain ⟨bx, hbx⟩ : ∃ f : Nat → Nat, f = fun a => mk (behS (ptD F (pbN F a) (piN F a)) (setM F a)) F.ln := ⟨_, rfl⟩
  obtain ⟨ba, hba⟩ : ∃ f : Nat → Int, f = badAt F := ⟨_, rfl⟩
  have h3 (wc : World) (hk : KB ⟨w, []⟩ wc) (a : Nat) (ha : a < N) : Calls Try.prog 18 #[F.val, .agg #[.int .i64 (.ofNat (pb a)), .int .i64 (.ofNat (pi a))], .int .u32 (.ofNat (rm a))] wc (Ret wc (.tuple #[.int .u32 (.ofNat (bx a)), .int .i64 (ba a)])) := by
    rw [hpb, hpi, hrm, hbx, hba]; exact h30 wc hk a (hN ▸ ha)
  have hz1 : ∀ k, k < N → 0 ≤ ba k → (∀ j, j < k → ba j < 0) → firstI F = (k, ba k, 0) := fun k hk g1 g2 => by rw [hba] at g1 g2 ⊢; exact firstI_of (hN ▸ hk) g1 g2
  have hz2 : (∀ j, j < N → ba j < 0) → firstI F = (0, 0, 6) := fun g => by rw [hba] at g; exact firstI_no (hN ▸ g)
  obtain ⟨f1, hf1⟩ : ∃ x, x = firstI F := ⟨_, rfl⟩
  rw [← hf1] at hz1 hz2 ⊢
  rw [← hN] at hN9
  clear hR hRM hrm hbx hba h30 hpb hpi hN hf1 hO
  obtain ⟨pa, un, lA, ln, lc, lk, lt, bA, bn, bc, sA, sn, sc, s, jA, jn, jc, ja, jk, jo, jf, jx, je, jd⟩ := F
  obtain ⟨hX, hl, hb, hs, hj⟩ := hF
  simp only at hl hb hs hj
  try simp only at h1 h2 h3
  refine go_start (args := [.pt (.agg (GFun.dat ⟨pa, un, lA, ln, lc, lk, lt, bA, bn, bc, sA, sn, sc, s, jA, jn, jc, ja, jk, jo, jf, jx, je, jd⟩))]) (c := (funX ⟨pa, un, lA, ln, lc, lk, lt, bA, bn, bc, sA, sn, sc, s, jA, jn, jc, ja, jk, jo, jf, jx, je, jd⟩)) Try.func6 rfl hX rfl rfl ?_
  obtain ⟨nd, hnd⟩ : ∃ f : Bool → Bool → Bool, f = and := ⟨_, rfl⟩
  obtain ⟨nt, hnt⟩ : ∃ f : Bool → Bool, f = not := ⟨_, rfl⟩
  obtain ⟨ar, har⟩ : ∃ f : BinOp → IntKind → Int → Int → Int, f = rAr := ⟨_, rfl⟩
  obtain ⟨cm, hcm⟩ : ∃ f : BinOp → Int → Int → Bool, f = rCm := ⟨_, rfl⟩
  obtain ⟨mx, hmx⟩ : ∃ f : Int → Int → Int, f = rMx := ⟨_, rfl⟩
  obtain ⟨mn, hmn⟩ : ∃ f : Int → Int → Int, f = rMn := ⟨_, rfl⟩
  have ar01 : ar .add .i64 0 1 = 1 := by rw [har]; decide
  have ar12 : ar .add .i64 1 1 = 2 := by rw [har]; decide
  obtain ⟨zpl, hzpl⟩ : ∃ f : Nat → Nat → Nat, f = fun x y => x + y := ⟨_, rfl⟩
  obtain ⟨zjn, hzjn⟩ : ∃ f : Nat → (Nat → List SC) → (Nat → List SC) → Nat → List SC, f = rJn := ⟨_, rfl⟩
  obtain ⟨zup, hzup⟩ : ∃ f : (Nat → List SC) → Nat → Nat → List SC → Nat → List SC, f = rUp := ⟨_, rfl⟩
  obtain ⟨zmi, hzmi⟩ : ∃ f : Nat → Nat → Nat, f = fun x y => x - y := ⟨_, rfl⟩
  obtain ⟨zdp, hzdp⟩ : ∃ f : Nat → (Nat → List SC) → Nat → List SC, f = rDp := ⟨_, rfl⟩
  have hT := T0_ok hnd hnt har hcm hmx hmn hzpl hzjn hzup hzmi hzdp
  have hlo : ∀ {a}, cm .geq (ba a) 0 = false → ba a < 0 := fun {a} h => by
    rw [hcm] at h
    have h : decide (0 ≤ ba a) = false := h
    have := of_decide_eq_false h
    omega
  have hhi : ∀ {a}, cm .geq (ba a) 0 = true → 0 ≤ ba a := fun {a} h => by
    rw [hcm] at h
    exact of_decide_eq_true (show decide (0 ≤ ba a) = true from h)
  repeat' (first
    | ((with_reducible apply go_ev hT 400); (· (cbv; try rfl)); (fail_if_success with_reducible apply stuck_id))
    | ((with_reducible refine go_brnf hnt ?_ ?_); (· first | rfl | assumption))
    | (with_reducible refine go_brl hcm (fun hlt => ?_) (fun hge => ?_))
    | (with_reducible refine go_br (fun h => ?_) (fun h => ?_))
    | ((with_reducible apply go_ret_val hT); (· (cbv; try rfl)); (· (cbv; try rfl)))
    | ((with_reducible apply go_draw); (· rfl); (· kernel_rfl); (· kernel_rfl))
    | ((with_reducible refine go_need ?_ ?_ ?_); (· first | omega | (simp only [Int.ofNat_eq_natCast]; omega)); (· first | omega | (simp only [Int.ofNat_eq_natCast]; omega)))
    | ((with_reducible apply go_callR (f := 11) (hf := Try.call11)); (· intro S; cbv; try rfl); (· intro wc S hbc hxc hrc; exact h1 wc hbc); (· rfl))
    | ((with_reducible apply go_callR (f := 17) (hf := Try.call17)); (· intro S; cbv; try rfl); (· intro wc S hbc hxc hrc; exact h2 wc hbc); (· rfl))
    | ((with_reducible apply go_callq (f := 18) (hf := Try.call18)); (· (cbv; try rfl)); (· intro wc hbc hxc; exact h3 wc hbc a (by assumption)))
    | ((with_reducible refine go_loopk (σ := {a : Nat // a ≤ N ∧ ∀ j, j < a → ba j < 0}) [8, 9, 10, 11, 31, 32, 33, 34, 35, 36, 37, 38, 39, 40, 41, 42, 43, 44, 45, 46, 47, 48, 49] (fun x => [(30, .pt (.one (.int .i64 (.ofNat x.1))))]) (fun x => []) (fun x => []) (fun x => N - x.1) ⟨0, by omega, fun j hj => by omega⟩ ?_ ?_ ?_ ?_); (· (refine le_mk ?_ ?_ ?_ ?_ <;> (cbv; (try simp only [true_and, and_true]); (try ((repeat' apply And.intro) <;> (first | trivial | rfl | exact RowLe.rfl' _ | (rw [wrap_nat har _ (by omega)]))))))); (· (cbv; try rfl)); (· simp); (rintro ⟨a, ha, hok⟩ mm hmm))
    | ((with_reducible refine go_stop ⟨a + 1, by omega, all_succ hok (hlo (by assumption))⟩ ?_ ?_ ?_ ?_); (· exact Nat.lt_of_lt_of_eq (show N - (a + 1) < N - a from by omega) (Eq.symm (by assumption))); (· (refine le_mk ?_ ?_ ?_ ?_ <;> (cbv; (try simp only [true_and, and_true]); (try ((repeat' apply And.intro) <;> (first | trivial | rfl | exact RowLe.rfl' _ | (rw [wrap_nat har _ (by omega)]))))))); (· (cbv; try rfl)); (· simp))
    )
  all_goals first
    | (rw [hz1 a (by assumption) (hhi (by assumption)) hok])
    | (have e : a = N := by omega
       subst e
       rw [hz2 hok]; rfl)

set_option maxRecDepth 100000 in
set_option maxHeartbeats 4000000 in
theorem initsC (F : GFun) (w : World) (hF : F.At w) (hO : F.Ok) :
    Calls Try.prog 7 #[F.val] w (Ret w (.int .i64 (initI F))) := by
  have h1 (wc : World) (hk : KB ⟨w, []⟩ wc) := firstC F wc (hF.later hk) hO
  have hz : (firstI F).2.2 = 0 ∨ (firstI F).2.2 = 6 := by
    rcases firstI_is F with ⟨k, h, _⟩ | ⟨h, _⟩ <;> rw [h]
    · exact .inl rfl
    · exact .inr rfl
  have hi : ((firstI F).2.2 = 0 → initI F = 44) ∧ ((firstI F).2.2 = 6 → initI F = 0) := ⟨fun h => by unfold initI; rw [h]; rfl, fun h => by unfold initI; rw [h]; rfl⟩
  obtain ⟨u, hu⟩ : ∃ u, u = initI F := ⟨_, rfl⟩
  rw [← hu] at hi ⊢
  generalize firstI F = f1 at h1 hz hi
  obtain ⟨x, y, z⟩ := f1
  simp only at h1 hz hi
  clear hO hu
  obtain ⟨pa, un, lA, ln, lc, lk, lt, bA, bn, bc, sA, sn, sc, s, jA, jn, jc, ja, jk, jo, jf, jx, je, jd⟩ := F
  obtain ⟨hX, hl, hb, hs, hj⟩ := hF
  simp only at hl hb hs hj
  try simp only at h1
  rcases hz with rfl | rfl
  · rw [hi.1 rfl]
    refine go_start (args := [.pt (.agg (GFun.dat ⟨pa, un, lA, ln, lc, lk, lt, bA, bn, bc, sA, sn, sc, s, jA, jn, jc, ja, jk, jo, jf, jx, je, jd⟩))]) (c := (funX ⟨pa, un, lA, ln, lc, lk, lt, bA, bn, bc, sA, sn, sc, s, jA, jn, jc, ja, jk, jo, jf, jx, je, jd⟩)) Try.func7 rfl hX rfl rfl ?_
    obtain ⟨nd, hnd⟩ : ∃ f : Bool → Bool → Bool, f = and := ⟨_, rfl⟩
    obtain ⟨nt, hnt⟩ : ∃ f : Bool → Bool, f = not := ⟨_, rfl⟩
    obtain ⟨ar, har⟩ : ∃ f : BinOp → IntKind → Int → Int → Int, f = rAr := ⟨_, rfl⟩
    obtain ⟨cm, hcm⟩ : ∃ f : BinOp → Int → Int → Bool, f = rCm := ⟨_, rfl⟩
    obtain ⟨mx, hmx⟩ : ∃ f : Int → Int → Int, f = rMx := ⟨_, rfl⟩
    obtain ⟨mn, hmn⟩ : ∃ f : Int → Int → Int, f = rMn := ⟨_, rfl⟩
    have ar01 : ar .add .i64 0 1 = 1 := by rw [har]; decide
    have ar12 : ar .add .i64 1 1 = 2 := by rw [har]; decide
    obtain ⟨zpl, hzpl⟩ : ∃ f : Nat → Nat → Nat, f = fun x y => x + y := ⟨_, rfl⟩
    obtain ⟨zjn, hzjn⟩ : ∃ f : Nat → (Nat → List SC) → (Nat → List SC) → Nat → List SC, f = rJn := ⟨_, rfl⟩
    obtain ⟨zup, hzup⟩ : ∃ f : (Nat → List SC) → Nat → Nat → List SC → Nat → List SC, f = rUp := ⟨_, rfl⟩
    obtain ⟨zmi, hzmi⟩ : ∃ f : Nat → Nat → Nat, f = fun x y => x - y := ⟨_, rfl⟩
    obtain ⟨zdp, hzdp⟩ : ∃ f : Nat → (Nat → List SC) → Nat → List SC, f = rDp := ⟨_, rfl⟩
    have hT := T0_ok hnd hnt har hcm hmx hmn hzpl hzjn hzup hzmi hzdp
    repeat' (first
      | ((with_reducible apply go_ev hT 400); (· (cbv; try rfl)); (fail_if_success with_reducible apply stuck_id))
      | ((with_reducible refine go_brt ?_ ?_); (· first | rfl | assumption | (rw [hcm]; decide)))
      | ((with_reducible refine go_brf ?_ ?_); (· first | rfl | assumption | (rw [hcm]; decide)))
      | ((with_reducible apply go_ret_val hT); (· (cbv; try rfl)); (· (cbv; try rfl)))
      | ((with_reducible apply go_call (f := 6) (hf := Try.call6)); (· (cbv; try rfl)); (· intro wc hbc hxc; exact h1 wc hbc))
      )
    all_goals rfl
  · rw [hi.2 rfl]
    refine go_start (args := [.pt (.agg (GFun.dat ⟨pa, un, lA, ln, lc, lk, lt, bA, bn, bc, sA, sn, sc, s, jA, jn, jc, ja, jk, jo, jf, jx, je, jd⟩))]) (c := (funX ⟨pa, un, lA, ln, lc, lk, lt, bA, bn, bc, sA, sn, sc, s, jA, jn, jc, ja, jk, jo, jf, jx, je, jd⟩)) Try.func7 rfl hX rfl rfl ?_
    obtain ⟨nd, hnd⟩ : ∃ f : Bool → Bool → Bool, f = and := ⟨_, rfl⟩
    obtain ⟨nt, hnt⟩ : ∃ f : Bool → Bool, f = not := ⟨_, rfl⟩
    obtain ⟨ar, har⟩ : ∃ f : BinOp → IntKind → Int → Int → Int, f = rAr := ⟨_, rfl⟩
    obtain ⟨cm, hcm⟩ : ∃ f : BinOp → Int → Int → Bool, f = rCm := ⟨_, rfl⟩
    obtain ⟨mx, hmx⟩ : ∃ f : Int → Int → Int, f = rMx := ⟨_, rfl⟩
    obtain ⟨mn, hmn⟩ : ∃ f : Int → Int → Int, f = rMn := ⟨_, rfl⟩
    have ar01 : ar .add .i64 0 1 = 1 := by rw [har]; decide
    have ar12 : ar .add .i64 1 1 = 2 := by rw [har]; decide
    obtain ⟨zpl, hzpl⟩ : ∃ f : Nat → Nat → Nat, f = fun x y => x + y := ⟨_, rfl⟩
    obtain ⟨zjn, hzjn⟩ : ∃ f : Nat → (Nat → List SC) → (Nat → List SC) → Nat → List SC, f = rJn := ⟨_, rfl⟩
    obtain ⟨zup, hzup⟩ : ∃ f : (Nat → List SC) → Nat → Nat → List SC → Nat → List SC, f = rUp := ⟨_, rfl⟩
    obtain ⟨zmi, hzmi⟩ : ∃ f : Nat → Nat → Nat, f = fun x y => x - y := ⟨_, rfl⟩
    obtain ⟨zdp, hzdp⟩ : ∃ f : Nat → (Nat → List SC) → Nat → List SC, f = rDp := ⟨_, rfl⟩
    have hT := T0_ok hnd hnt har hcm hmx hmn hzpl hzjn hzup hzmi hzdp
    repeat' (first
      | ((with_reducible apply go_ev hT 400); (· (cbv; try rfl)); (fail_if_success with_reducible apply stuck_id))
      | ((with_reducible refine go_brt ?_ ?_); (· first | rfl | assumption | (rw [hcm]; decide)))
      | ((with_reducible apply go_ret_val hT); (· (cbv; try rfl)); (· (cbv; try rfl)))
      | ((with_reducible apply go_call (f := 6) (hf := Try.call6)); (· (cbv; try rfl)); (· intro wc hbc hxc; exact h1 wc hbc))
      )
    all_goals rfl

set_option maxRecDepth 100000 in
set_option maxHeartbeats 4000000 in
theorem initsBad (F : GFun) (w : World) (hF : F.At w) (hz : fchkV F ≠ 0) (h6 : fchkV F ≠ 6) :
    Calls Try.prog 7 #[F.val] w (Ret w (.int .i64 (fchkV F))) := by
  have h1 (wc : World) (hk : KB ⟨w, []⟩ wc) := firstBad F wc (hF.later hk) hz
  generalize fchkV F = z at h1 hz h6 ⊢
  have hq : decide (z = 0) = false := decide_eq_false hz
  have hq6 : decide (z = 6) = false := decide_eq_false h6
  clear hz h6
  obtain ⟨pa, un, lA, ln, lc, lk, lt, bA, bn, bc, sA, sn, sc, s, jA, jn, jc, ja, jk, jo, jf, jx, je, jd⟩ := F
  obtain ⟨hX, hl, hb, hs, hj⟩ := hF
  simp only at hl hb hs hj
  refine go_start (args := [.pt (.agg (GFun.dat ⟨pa, un, lA, ln, lc, lk, lt, bA, bn, bc, sA, sn, sc, s, jA, jn, jc, ja, jk, jo, jf, jx, je, jd⟩))]) (c := (funX ⟨pa, un, lA, ln, lc, lk, lt, bA, bn, bc, sA, sn, sc, s, jA, jn, jc, ja, jk, jo, jf, jx, je, jd⟩)) Try.func7 rfl hX rfl rfl ?_
  obtain ⟨nd, hnd⟩ : ∃ f : Bool → Bool → Bool, f = and := ⟨_, rfl⟩
  obtain ⟨nt, hnt⟩ : ∃ f : Bool → Bool, f = not := ⟨_, rfl⟩
  obtain ⟨ar, har⟩ : ∃ f : BinOp → IntKind → Int → Int → Int, f = rAr := ⟨_, rfl⟩
  obtain ⟨cm, hcm⟩ : ∃ f : BinOp → Int → Int → Bool, f = rCm := ⟨_, rfl⟩
  obtain ⟨mx, hmx⟩ : ∃ f : Int → Int → Int, f = rMx := ⟨_, rfl⟩
  obtain ⟨mn, hmn⟩ : ∃ f : Int → Int → Int, f = rMn := ⟨_, rfl⟩
  have ar01 : ar .add .i64 0 1 = 1 := by rw [har]; decide
  have ar12 : ar .add .i64 1 1 = 2 := by rw [har]; decide
  obtain ⟨zpl, hzpl⟩ : ∃ f : Nat → Nat → Nat, f = fun x y => x + y := ⟨_, rfl⟩
  obtain ⟨zjn, hzjn⟩ : ∃ f : Nat → (Nat → List SC) → (Nat → List SC) → Nat → List SC, f = rJn := ⟨_, rfl⟩
  obtain ⟨zup, hzup⟩ : ∃ f : (Nat → List SC) → Nat → Nat → List SC → Nat → List SC, f = rUp := ⟨_, rfl⟩
  obtain ⟨zmi, hzmi⟩ : ∃ f : Nat → Nat → Nat, f = fun x y => x - y := ⟨_, rfl⟩
  obtain ⟨zdp, hzdp⟩ : ∃ f : Nat → (Nat → List SC) → Nat → List SC, f = rDp := ⟨_, rfl⟩
  have hT := T0_ok hnd hnt har hcm hmx hmn hzpl hzjn hzup hzmi hzdp
  repeat' (first
    | ((with_reducible apply go_ev hT 400); (· (cbv; try rfl)); (fail_if_success with_reducible apply stuck_id))
    | ((with_reducible refine go_brf ?_ ?_); (· first | rfl | assumption | (rw [hcm]; decide)))
    | ((with_reducible apply go_ret_val hT); (· (cbv; try rfl)); (· (cbv; try rfl)))
    | ((with_reducible apply go_call (f := 6) (hf := Try.call6)); (· (cbv; try rfl)); (· intro wc hbc hxc; exact h1 wc hbc))
    )
  all_goals rfl

end Go.Proofs.Ytbljhhkjjlgnmaa
