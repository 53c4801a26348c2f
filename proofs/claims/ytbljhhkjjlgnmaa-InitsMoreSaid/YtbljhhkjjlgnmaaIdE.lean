/- Layer 15: the mask behind a point, and the first local that it reads and that is not set. No condition. -/
import Derived.Test.YtbljhhkjjlgnmaaIdD
import Derived.Test.YtbljhhkjjlgnmaaInB
namespace Go.Proofs.Ytbljhhkjjlgnmaa
open Go.RowKit
set_option linter.unusedVariables false
set_option linter.unusedSimpArgs false

set_option maxRecDepth 100000 in
set_option maxHeartbeats 8000000 in
theorem behindC (F : GFun) (w : World) (hF : F.At w) (hO : F.Ok) (b i : Nat) (hb : b < F.bn) (S : Nat → Bool) :
    Calls Try.prog 18 #[F.val, .agg #[.int .i64 (.ofNat b), .int .i64 (.ofNat i)], .int .u32 (.ofNat (mk S F.ln))] w (Ret w (.tuple #[.int .u32 (.ofNat (mk (behS (ptD F b i) S) F.ln)), .int .i64 (badI (ptD F b i) S)])) := by
  have h1 (wc : World) (hk : KB ⟨w, []⟩ wc) := deedsC F wc (hF.later hk) hO b i hb
  have hin := ptD_in hO (i := i) hb
  have hn9 := ptD_len hO (i := i) hb
  have hl16 := hO.ln16
  obtain ⟨ln', hln'⟩ : ∃ m, m = F.ln := ⟨_, rfl⟩
  rw [← hln'] at hl16 hin
  rw [← hln']
  obtain ⟨L, hL⟩ : ∃ L, L = ptD F b i := ⟨_, rfl⟩
  rw [← hL] at h1 hin hn9 ⊢
  obtain ⟨n, hn⟩ : ∃ n, n = L.length := ⟨_, rfl⟩
  obtain ⟨tc, htc⟩ : ∃ f : Nat → GDeed, f = fun j => L.getD j .zero := ⟨_, rfl⟩
  have hR : deR L = ⟨n, 4, fun j => (tc j).sc⟩ := by rw [deR, hn, htc]
  rw [hR] at h1
  rw [← hn] at hn9
  obtain ⟨X, hX'⟩ : ∃ f : Nat → (Nat → Bool) × Int, f = fun k => (L.take k).foldl dStep (S, -1) := ⟨_, rfl⟩
  have x0 : X 0 = (S, -1) := by rw [hX']; simp
  have xs : ∀ k, k < n → X (k + 1) = dStep (X k) (tc k) := fun k hk => by
    rw [hX', htc]
    rw [hn] at hk
    simp only [List.take_add_one, List.getElem?_eq_getElem hk, Option.toList_some, List.foldl_append, List.foldl_cons, List.foldl_nil, List.getD, Option.getD_some]
  have xe : X n = (behS L S, badI L S) := by rw [hX', hn]; simp [behS, badI]
  obtain ⟨mS, hmS⟩ : ∃ f : Nat → Nat, f = fun k => mk (X k).1 ln' := ⟨_, rfl⟩
  obtain ⟨bd, hbd⟩ : ∃ f : Nat → Int, f = fun k => (X k).2 := ⟨_, rfl⟩
  have hin2 : ∀ k, k < n → 0 ≤ (tc k).l ∧ (tc k).l < ln' := fun k hk => by
    rw [htc]; rw [hn] at hk
    refine hin _ ?_
    simp only [List.getD, List.getElem?_eq_getElem hk, Option.getD_some]
    exact List.getElem_mem hk
  have m0 : mk S ln' = mS 0 := by rw [hmS]; simp only [x0]
  have me : mk (behS L S) ln' = mS n := by rw [hmS]; simp only [xe]
  have b0 : (-1 : Int) = bd 0 := by rw [hbd]; simp only [x0]
  have be : badI L S = bd n := by rw [hbd]; simp only [xe]
  rw [m0, me, be]
  clear hX' hR hin hL hn x0 xe m0 me be hO htc hln'
  obtain ⟨pa, un, lA, ln, lc, lk, lt, bA, bn, bc, sA, sn, sc, s, jA, jn, jc, ja, jk, jo, jf, jx, je, jd⟩ := F
  obtain ⟨hX, hl, hb, hs, hj⟩ := hF
  simp only at hl hb hs hj
  refine go_start (args := [.pt (.agg (GFun.dat ⟨pa, un, lA, ln, lc, lk, lt, bA, bn, bc, sA, sn, sc, s, jA, jn, jc, ja, jk, jo, jf, jx, je, jd⟩)), .pt (.agg [.int .i64 (.ofNat b), .int .i64 (.ofNat i)]), .pt (.one (.int .u32 (.ofNat (mS 0))))]) (c := (funX ⟨pa, un, lA, ln, lc, lk, lt, bA, bn, bc, sA, sn, sc, s, jA, jn, jc, ja, jk, jo, jf, jx, je, jd⟩)) Try.func18 rfl hX rfl rfl ?_
  obtain ⟨nd, hnd⟩ : ∃ f : Bool → Bool → Bool, f = and := ⟨_, rfl⟩
  obtain ⟨nt, hnt⟩ : ∃ f : Bool → Bool, f = not := ⟨_, rfl⟩
  obtain ⟨ar, har⟩ : ∃ f : BinOp → IntKind → Int → Int → Int, f = rAr := ⟨_, rfl⟩
  obtain ⟨cm, hcm⟩ : ∃ f : BinOp → Int → Int → Bool, f = rCm := ⟨_, rfl⟩
  obtain ⟨mx, hmx⟩ : ∃ f : Int → Int → Int, f = rMx := ⟨_, rfl⟩
  obtain ⟨mn, hmn⟩ : ∃ f : Int → Int → Int, f = rMn := ⟨_, rfl⟩
  have ar01 : ar .add .i64 0 1 = 1 := by rw [har]; decide
  have ar12 : ar .add .i64 1 1 = 2 := by rw [har]; decide
  obtain ⟨zpl, hzpl⟩ : ∃ f : Nat → Nat → Nat, f = fun x y => x + y := ⟨_, rfl⟩
  obtain ⟨zjn, hzjn⟩ : ∃ f : Nat → (Nat → List SC) → (Nat → List SC) → Nat → List SC, f = rJn := ⟨_, rfl⟩
  obtain ⟨zup, hzup⟩ : ∃ f : (Nat → List SC) → Nat → Nat → List SC → Nat → List SC, f = rUp := ⟨_, rfl⟩
  obtain ⟨zmi, hzmi⟩ : ∃ f : Nat → Nat → Nat, f = fun x y => x - y := ⟨_, rfl⟩
  obtain ⟨zdp, hzdp⟩ : ∃ f : Nat → (Nat → List SC) → Nat → List SC, f = rDp := ⟨_, rfl⟩
  have hT := T0_ok hnd hnt har hcm hmx hmn hzpl hzjn hzup hzmi hzdp
  have hbit : ∀ k, k < n → ar .shl .u32 1 (tc k).l = .ofNat (mk (fun l => decide (l = (tc k).l.toNat)) ln') := fun k hk => by
    have q := hin2 k hk
    have e : (tc k).l = .ofNat (tc k).l.toNat := by simp only [Int.ofNat_eq_natCast]; omega
    rw [← mk_one (show (tc k).l.toNat < ln' by omega), ← u32_shl har (show (tc k).l.toNat < 32 by omega), ← e]
  have hand : ∀ k, k < n → ar .and .u32 (.ofNat (mS k)) (ar .shl .u32 1 (tc k).l) = .ofNat (mk (fun l => (X k).1 l && decide (l = (tc k).l.toNat)) ln') := fun k hk => by
    rw [hbit k hk, hmS]; exact mk_and har (by omega) _ _
  have hanz : ∀ k, k < n → decide (ar .and .u32 (.ofNat (mS k)) (ar .shl .u32 1 (tc k).l) = 0) = !(X k).1 (tc k).l.toNat := fun k hk => by
    have q := hin2 k hk
    have hq : (tc k).l.toNat < ln' := by omega
    rw [hand k hk]
    cases hz : (X k).1 (tc k).l.toNat
    · refine decide_eq_true ?_
      have : mk (fun l => (X k).1 l && decide (l = (tc k).l.toNat)) ln' = 0 := by
        refine Eq.trans (mk_ext (T := fun _ => false) fun l hl => ?_) mk_none.symm
        by_cases e : l = (tc k).l.toNat
        · rw [e, hz]; rfl
        · simp [e]
      rw [this]; rfl
    · refine decide_eq_false fun h => ?_
      have h : mk (fun l => (X k).1 l && decide (l = (tc k).l.toNat)) ln' = 0 := Int.ofNat.inj h
      have := mk_zero h hq
      simp [hz] at this
  have hsx : ∀ k, k < n → ∀ l, (X (k + 1)).1 l = (((X k).1 l && !((tc k).un && decide (l = (tc k).l.toNat))) || ((tc k).st && decide (l = (tc k).l.toNat))) := fun k hk l => by rw [xs k hk]; rfl
  have hU : ∀ k, k < n → (tc k).un = true → (tc k).st = false → ar .andNot .u32 (.ofNat (mS k)) (ar .shl .u32 1 (tc k).l) = .ofNat (mS (k + 1)) := fun k hk g1 g2 => by
    rw [hbit k hk, hmS, mk_andNot har (by omega)]
    refine congrArg Int.ofNat (mk_ext fun l _ => ?_)
    rw [hsx k hk, g1, g2]; simp
  have hV : ∀ k, k < n → (tc k).un = false → (tc k).st = true → ar .or .u32 (.ofNat (mS k)) (ar .shl .u32 1 (tc k).l) = .ofNat (mS (k + 1)) := fun k hk g1 g2 => by
    rw [hbit k hk, hmS, mk_or har (by omega)]
    refine congrArg Int.ofNat (mk_ext fun l _ => ?_)
    rw [hsx k hk, g1, g2]; simp
  have hW : ∀ k, k < n → (tc k).un = true → (tc k).st = true → ar .or .u32 (ar .andNot .u32 (.ofNat (mS k)) (ar .shl .u32 1 (tc k).l)) (ar .shl .u32 1 (tc k).l) = .ofNat (mS (k + 1)) := fun k hk g1 g2 => by
    rw [hbit k hk, hmS, mk_andNot har (by omega), mk_or har (by omega)]
    refine congrArg Int.ofNat (mk_ext fun l _ => ?_)
    rw [hsx k hk, g1, g2]; simp
  have hY : ∀ k, k < n → (tc k).un = false → (tc k).st = false → mS k = mS (k + 1) := fun k hk g1 g2 => by
    rw [hmS]
    refine mk_ext fun l _ => ?_
    rw [hsx k hk, g1, g2]; simp
  have hY : ∀ k, k < n → (tc k).un = false → (tc k).st = false → Int.ofNat (mS k) = Int.ofNat (mS (k + 1)) := fun k hk g1 g2 => congrArg Int.ofNat (hY k hk g1 g2)
  have hbs : ∀ k, k < n → bd (k + 1) = if ((tc k).rd && !(X k).1 (tc k).l.toNat && decide (bd k < 0)) = true then (tc k).l else bd k := fun k hk => by rw [hbd]; simp only [xs k hk]; rfl
  have hB1 : ∀ k, k < n → (tc k).rd = true → decide (ar .and .u32 (.ofNat (mS k)) (ar .shl .u32 1 (tc k).l) = 0) = true → cm .lss (bd k) 0 = true → (tc k).l = bd (k + 1) := fun k hk g1 g2 g3 => by
    rw [hanz k hk] at g2
    rw [hcm] at g3
    have g3 : decide (bd k < 0) = true := g3
    rw [hbs k hk, g1, g2, g3]; rfl
  have hB2 : ∀ k, k < n → (tc k).rd = false → bd k = bd (k + 1) := fun k hk g1 => by
    rw [hbs k hk, g1]; simp
  have hB3 : ∀ k, k < n → decide (ar .and .u32 (.ofNat (mS k)) (ar .shl .u32 1 (tc k).l) = 0) = false → bd k = bd (k + 1) := fun k hk g2 => by
    rw [hanz k hk] at g2
    rw [hbs k hk, g2]; simp
  have hB4 : ∀ k, k < n → cm .lss (bd k) 0 = false → bd k = bd (k + 1) := fun k hk g3 => by
    rw [hcm] at g3
    have g3 : decide (bd k < 0) = false := g3
    rw [hbs k hk, g3]; simp
  have hsh : ∀ k, k < n → 0 ≤ (tc k).l ∧ (tc k).l < (tc k).l.toNat + 1 := fun k hk => by have := hin2 k hk; omega
  clear hbit hand hanz hsx hbs xs hmS hbd
  repeat' (first
    | ((with_reducible apply go_ev hT 400); (· (cbv; try rfl)); (fail_if_success with_reducible apply stuck_id))
    | (with_reducible refine go_brl hcm (fun hlt => ?_) (fun hge => ?_))
    | (with_reducible refine go_br (fun h => ?_) (fun h => ?_))
    | ((with_reducible apply go_ret_val hT); (· (cbv; try rfl)); (· (cbv; try rfl)))
    | ((with_reducible refine go_need ?_ ?_ ?_); (· first | omega | (simp only [Int.ofNat_eq_natCast]; omega)); (· first | omega | (simp only [Int.ofNat_eq_natCast]; omega)))
    | ((with_reducible apply go_callR (f := 29) (hf := Try.call29)); (· intro S; cbv; try rfl); (· intro wc S hbc hxc hrc; exact h1 wc hbc); (· rfl))
    | (((with_reducible apply go_need); (· exact (hsh k (by assumption)).1); (· exact (hsh k (by assumption)).2)))
    | ((with_reducible refine go_loopk (σ := {k : Nat // k ≤ n}) [10, 11, 17, 18, 19, 20, 21, 22, 23, 24, 25, 26, 27, 28, 29, 30, 31, 32, 33, 34, 35, 36, 37, 38, 39, 40, 41, 42, 43, 44, 45, 46, 47] (fun x => [(16, .pt (.one (.int .i64 (.ofNat x.1)))), (2, .pt (.one (.int .u32 (.ofNat (mS x.1))))), (8, .pt (.one (.int .i64 (bd x.1))))]) (fun x => []) (fun x => []) (fun x => n - x.1) ⟨0, by omega⟩ ?_ ?_ ?_ ?_); (· (refine le_mk ?_ ?_ ?_ ?_ <;> (cbv; (try simp only [true_and, and_true]); (try ((repeat' apply And.intro) <;> (first | trivial | rfl | exact RowLe.rfl' _ | (rw [wrap_nat har _ (by omega)]) | ((exact hU k (by assumption) (by assumption) (by assumption))) | ((exact hV k (by assumption) (by assumption) (by assumption))) | ((exact hW k (by assumption) (by assumption) (by assumption))) | ((exact hY k (by assumption) (by assumption) (by assumption))) | ((exact hB1 k (by assumption) (by assumption) (by assumption) (by assumption))) | ((exact hB2 k (by assumption) (by assumption))) | ((exact hB3 k (by assumption) (by assumption))) | ((exact hB4 k (by assumption) (by assumption))))))))); (· (cbv; try rfl)); (· simp); (rintro ⟨k, hk⟩ mm hmm))
    | ((with_reducible refine go_stop (⟨k + 1, by omega⟩ : {k : Nat // k ≤ n}) ?_ ?_ ?_ ?_); (· exact Nat.lt_of_lt_of_eq (show n - (k + 1) < n - k from by omega) (Eq.symm (by assumption))); (· (refine le_mk ?_ ?_ ?_ ?_ <;> (cbv; (try simp only [true_and, and_true]); (try ((repeat' apply And.intro) <;> (first | trivial | rfl | exact RowLe.rfl' _ | (rw [wrap_nat har _ (by omega)]) | ((exact hU k (by assumption) (by assumption) (by assumption))) | ((exact hV k (by assumption) (by assumption) (by assumption))) | ((exact hW k (by assumption) (by assumption) (by assumption))) | ((exact hY k (by assumption) (by assumption) (by assumption))) | ((exact hB1 k (by assumption) (by assumption) (by assumption) (by assumption))) | ((exact hB2 k (by assumption) (by assumption))) | ((exact hB3 k (by assumption) (by assumption))) | ((exact hB4 k (by assumption) (by assumption))))))))); (· (cbv; try rfl)); (· simp))
    )
  all_goals (have haN : k = n := by omega)
  all_goals (subst haN; rfl)

end Go.Proofs.Ytbljhhkjjlgnmaa
