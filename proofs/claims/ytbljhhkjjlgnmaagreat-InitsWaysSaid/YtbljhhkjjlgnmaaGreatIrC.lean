/- Layer 15 of the reference: what points move, set, unset, read. No condition. -/
import Derived.Test.YtbljhhkjjlgnmaaGreatIrA
import Derived.Test.YtbljhhkjjlgnmaaGreatInC
namespace Go.Proofs.YtbljhhkjjlgnmaaGreat
open Go.RowKit
set_option linter.unusedVariables false
set_option linter.unusedSimpArgs false

/-- How many of the first k operands move a local. -/
def mvN (g : Nat → GOper) (x : Int) : Nat → Nat
  | 0 => 0
  | k + 1 => mvN g x k + if (g k).k = 3 ∧ (g k).p.l = x then 1 else 0

theorem mvN_le (g : Nat → GOper) (x : Int) : ∀ k, mvN g x k ≤ k
  | 0 => Nat.le_refl _
  | k + 1 => by have := mvN_le g x k; simp only [mvN]; split <;> omega

/-- How many of the first k operands have places. -/
def plN (g : Nat → GOper) : Nat → Nat
  | 0 => 0
  | k + 1 => plN g k + if (g k).k = 1 then 0 else 1

theorem plN_le (g : Nat → GOper) : ∀ k, plN g k ≤ k
  | 0 => Nat.le_refl _
  | k + 1 => by have := plN_le g k; simp only [plN]; split <;> omega

/-- The locals of the first k operands that have places. -/
def rdO (g : Nat → GOper) : Nat → List Int
  | 0 => []
  | k + 1 => rdO g k ++ if (g k).k = 1 then [] else [(g k).p.l]

theorem rdO_len (g : Nat → GOper) : ∀ k, (rdO g k).length = plN g k
  | 0 => rfl
  | k + 1 => by
    simp only [rdO, plN, List.length_append, rdO_len g k]
    split <;> simp

/-- What a point reads besides its operands. -/
def rdT (F : GFun) (n : Nat) : List Int :=
  (if isAt F n = true ∧ (stAt F n).k = 1 ∧ 4 ≤ (stAt F n).r.k then [(stAt F n).r.p.l] else []) ++
  ((if tgW F n = true ∧ wholeP (tgP F n) = false then [(tgP F n).l] else []) ++
  (if isAt F n = false ∧ F.jk (pbN F n) = 3 then [0] else []))

theorem rOpsN (F : GFun) (w : World) (hF : F.At w) (hO : F.Ok) (n : Nat) (hn : n < stN F.sn F.bn) :
    ((isAt F n = true ∨ F.jk (pbN F n) = 2) → Calls Tryz.prog 57 #[F.val, .int .i64 (.ofNat n)] w (RetR w (funX F) (.pt (.one (.rs 0))) [opR (opN F n) (opG F n)])) ∧
    (¬ (isAt F n = true ∨ F.jk (pbN F n) = 2) → Calls Tryz.prog 57 #[F.val, .int .i64 (.ofNat n)] w (RetR w (funX F) (.pt (.one (.xs 3 (pbN F n)))) [])) := by
  refine ⟨fun h => ?_, fun h => ?_⟩
  · unfold opN opG
    by_cases hi : isAt F n = true
    · rw [if_pos hi, if_pos hi]
      have hs := isAt_st hi
      have hin := st_in hO (num_pt hn).1 (of_decide_eq_true hi)
      rw [← hs] at hin
      exact rOpsSt F w hF hO n hn _ rfl hi hin.k
    · rw [if_neg hi, if_neg hi]
      have h2 : F.jk (pbN F n) = 2 := h.resolve_left hi
      rw [if_pos h2, if_pos h2]
      exact (rOpsJm F w hF hO n hn (by simpa using hi)).1 h2
  · exact (rOpsJm F w hF hO n hn (by cases hi : isAt F n <;> simp_all)).2 (fun g => h (.inr g))

theorem opN_B {F : GFun} {n : Nat} (h : ¬ (isAt F n = true ∨ F.jk (pbN F n) = 2)) : opN F n = F.jn (pbN F n) ∧ opG F n = F.ja (pbN F n) := by
  unfold opN opG
  rw [if_neg (fun g => h (.inl g)), if_neg (fun g => h (.inr g)), if_neg (fun g => h (.inl g)), if_neg (fun g => h (.inr g))]
  exact ⟨rfl, rfl⟩

theorem quo_u64 {ar : BinOp → IntKind → Int → Int → Int} (har : ar = rAr) {x : Int} (h0 : 0 ≤ x) (h1 : x < 1000) : ar .quo .u64 x 0 = .ofNat x.toNat := by
  rw [har]
  show IntKind.u64.wrap x = _
  have e : IntKind.u64.wrap x = x % (2 ^ 64 : Int) := by simp [IntKind.wrap, IntKind.bits, IntKind.signed]
  rw [e]
  simp only [Int.ofNat_eq_natCast]
  omega

theorem intLe_app {pl : Nat → Nat → Nat} {jn : Nat → (Nat → List SC) → (Nat → List SC) → Nat → List SC} (hpl : pl = fun x y => x + y) (hjn : jn = rJn) {n : Nat} {el : Nat → List SC} {L : List Int} {x : Int} (h : RowLe ⟨n, 1, el⟩ (intR L)) : RowLe ⟨pl n 1, 1, jn n el (fun j => cutL [.int .i64 x] (0 + j * 1) 1)⟩ (intR (L ++ [x])) := by
  have hn : n = L.length := h.n
  refine rowLe_snoc hpl hjn (by rw [List.length_append, ← hn]; rfl) (fun j hj => ?_) ?_
  · have := h.el j hj
    simp only [intR] at this
    rw [show (L ++ [x]).getD j 0 = L.getD j 0 by simp [List.getD, List.getElem?_append_left (show j < L.length by omega)]]
    exact this
  · rw [hn, show (L ++ [x]).getD L.length 0 = x by simp [List.getD]]
    exact ⟨⟨rfl, rfl⟩, trivial⟩

theorem intR_plain (L : List Int) : plainR [intR L] := ⟨fun _ _ => rfl, trivial⟩

set_option maxRecDepth 100000 in
set_option maxHeartbeats 4000000 in
theorem placedC (m : Nat) (g : Nat → GOper) (hm : m ≤ 8) (c : Nat → Nat → Row) (w : World) (a : Option Addr) (cap : Nat) (hX : XOk ⟨[], OneR a m cap 5 (fun i => (g i).sc), []⟩ ⟨w, []⟩) :
    Calls Tryz.prog 59 #[.slice a m cap] w (Ret w (.int .i64 (.ofNat (plN g m)))) := by
  have h1 := plN_le g
  obtain ⟨pn, hpn⟩ : ∃ f : Nat → Nat, f = plN g := ⟨_, rfl⟩
  have p0 : 0 = pn 0 := by rw [hpn]; rfl
  have p1 : ∀ k, (g k).k = 1 → pn k = pn (k + 1) := fun k h => by rw [hpn]; simp only [plN, if_pos h]; omega
  have p2 : ∀ k, ¬ (g k).k = 1 → pn k + 1 = pn (k + 1) := fun k h => by rw [hpn]; simp only [plN, if_neg h]
  rw [← hpn] at h1 ⊢
  clear hpn
  refine go_start (args := [.pt (.one (.xs 0 0))]) (c := (OneR a m cap 5 fun i => (g i).sc)) Tryz.func59 rfl hX rfl rfl ?_
  obtain ⟨nd, hnd⟩ : ∃ f : Bool → Bool → Bool, f = and := ⟨_, rfl⟩
  obtain ⟨nt, hnt⟩ : ∃ f : Bool → Bool, f = not := ⟨_, rfl⟩
  obtain ⟨ar, har⟩ : ∃ f : BinOp → IntKind → Int → Int → Int, f = rAr := ⟨_, rfl⟩
  obtain ⟨cm, hcm⟩ : ∃ f : BinOp → Int → Int → Bool, f = rCm := ⟨_, rfl⟩
  obtain ⟨mx, hmx⟩ : ∃ f : Int → Int → Int, f = rMx := ⟨_, rfl⟩
  obtain ⟨mn, hmn⟩ : ∃ f : Int → Int → Int, f = rMn := ⟨_, rfl⟩
  have ar01 : ar .add .i64 0 1 = 1 := by rw [har]; decide
  have ar12 : ar .add .i64 1 1 = 2 := by rw [har]; decide
  obtain ⟨zpl, hzpl⟩ : ∃ f : Nat → Nat → Nat, f = fun x y => x + y := ⟨_, rfl⟩
  obtain ⟨zjn, hzjn⟩ : ∃ f : Nat → (Nat → List SC) → (Nat → List SC) → Nat → List SC, f = rJn := ⟨_, rfl⟩
  obtain ⟨zup, hzup⟩ : ∃ f : (Nat → List SC) → Nat → Nat → List SC → Nat → List SC, f = rUp := ⟨_, rfl⟩
  obtain ⟨zmi, hzmi⟩ : ∃ f : Nat → Nat → Nat, f = fun x y => x - y := ⟨_, rfl⟩
  obtain ⟨zdp, hzdp⟩ : ∃ f : Nat → (Nat → List SC) → Nat → List SC, f = rDp := ⟨_, rfl⟩
  have hT := T0_ok hnd hnt har hcm hmx hmn hzpl hzjn hzup hzmi hzdp
  repeat' (first
    | ((with_reducible apply go_ev hT 400); (· (cbv; try rfl)); (fail_if_success with_reducible apply stuck_id))
    | (with_reducible refine go_brn hnt (fun h => ?_) (fun h => ?_))
    | (with_reducible refine go_brl hcm (fun hlt => ?_) (fun hge => ?_))
    | ((with_reducible apply go_ret_val hT); (· (cbv; try rfl)); (· (cbv; try rfl)))
    | ((with_reducible refine go_need ?_ ?_ ?_); (· first | omega | (simp only [Int.ofNat_eq_natCast]; omega)); (· first | omega | (simp only [Int.ofNat_eq_natCast]; omega)))
    | ((with_reducible refine go_loopk (σ := {k : Nat // k ≤ m}) [5, 6, 7, 8, 9, 10, 11, 12, 13, 14, 15, 16, 17, 18] (fun x => [(4, .pt (.one (.int .i64 (.ofNat x.1)))), (3, .pt (.one (.int .i64 (.ofNat (pn x.1)))))]) (fun x => []) (fun x => []) (fun x => m - x.1) ⟨0, by omega⟩ ?_ ?_ ?_ ?_); (· (refine le_mk ?_ ?_ ?_ ?_ <;> (cbv; (try simp only [true_and, and_true]); (try ((repeat' apply And.intro) <;> (first | trivial | rfl | exact RowLe.rfl' _ | (rw [wrap_nat har _ (by omega)]) | ((exact congrArg Int.ofNat p0)) | ((exact congrArg Int.ofNat (p1 k (of_decide_eq_true (by assumption))))) | ((rw [wrap_nat har _ (by have := h1 k; omega)]; exact congrArg Int.ofNat (p2 k (of_decide_eq_false (by assumption))))))))))); (· (cbv; try rfl)); (· simp); (rintro ⟨k, hk⟩ mm hmm))
    | ((with_reducible refine go_stop (⟨k + 1, by omega⟩ : {k : Nat // k ≤ m}) ?_ ?_ ?_ ?_); (· exact Nat.lt_of_lt_of_eq (show m - (k + 1) < m - k from by omega) (Eq.symm (by assumption))); (· (refine le_mk ?_ ?_ ?_ ?_ <;> (cbv; (try simp only [true_and, and_true]); (try ((repeat' apply And.intro) <;> (first | trivial | rfl | exact RowLe.rfl' _ | (rw [wrap_nat har _ (by omega)]) | ((exact congrArg Int.ofNat p0)) | ((exact congrArg Int.ofNat (p1 k (of_decide_eq_true (by assumption))))) | ((rw [wrap_nat har _ (by have := h1 k; omega)]; exact congrArg Int.ofNat (p2 k (of_decide_eq_false (by assumption))))))))))); (· (cbv; try rfl)); (· simp))
    )
  all_goals (have e : k = m := by omega)
  all_goals (subst e; rfl)

set_option maxRecDepth 100000 in
set_option maxHeartbeats 4000000 in
theorem rSetsC (F : GFun) (w : World) (hF : F.At w) (hO : F.Ok) (n : Nat) (hn : n < stN F.sn F.bn) (x : Int) :
    Calls Tryz.prog 60 #[F.val, .int .i64 (.ofNat n), .int .i64 x] w (Ret w (.bool (tgW F n && wholeP (tgP F n) && decide ((tgP F n).l = x)))) := by
  have h1 (wc : World) (hk : KB ⟨w, []⟩ wc) := rTarget F wc (hF.later hk) hO n hn
  have h2 (wc : World) := rWholeC (tgP F n).l (tgP F n).f (tgP F n).d wc
  obtain ⟨p, hp⟩ : ∃ p, p = tgP F n := ⟨_, rfl⟩
  obtain ⟨b, hb'⟩ : ∃ b, b = tgW F n := ⟨_, rfl⟩
  rw [← hp, ← hb'] at h1
  rw [← hp] at h2
  rw [← hp, ← hb']
  obtain ⟨l, d, f⟩ := p
  obtain ⟨z, hz'⟩ : ∃ z, z = wholeP ⟨l, d, f⟩ := ⟨_, rfl⟩
  simp only at h1 h2 ⊢
  rw [← hz'] at h2 ⊢
  clear hp hb' hz' hn hO
  obtain ⟨pa, un, lA, ln, lc, lk, lt, bA, bn, bc, sA, sn, sc, s, jA, jn, jc, ja, jk, jo, jf, jx, je, jd⟩ := F
  obtain ⟨hX, hl, hb, hs, hj⟩ := hF
  simp only at hl hb hs hj
  refine go_start (args := [.pt (.agg (GFun.dat ⟨pa, un, lA, ln, lc, lk, lt, bA, bn, bc, sA, sn, sc, s, jA, jn, jc, ja, jk, jo, jf, jx, je, jd⟩)), .pt (.one (.int .i64 (.ofNat n))), .pt (.one (.int .i64 x))]) (c := (funX ⟨pa, un, lA, ln, lc, lk, lt, bA, bn, bc, sA, sn, sc, s, jA, jn, jc, ja, jk, jo, jf, jx, je, jd⟩)) Tryz.func60 rfl hX rfl rfl ?_
  obtain ⟨nd, hnd⟩ : ∃ f : Bool → Bool → Bool, f = and := ⟨_, rfl⟩
  obtain ⟨nt, hnt⟩ : ∃ f : Bool → Bool, f = not := ⟨_, rfl⟩
  obtain ⟨ar, har⟩ : ∃ f : BinOp → IntKind → Int → Int → Int, f = rAr := ⟨_, rfl⟩
  obtain ⟨cm, hcm⟩ : ∃ f : BinOp → Int → Int → Bool, f = rCm := ⟨_, rfl⟩
  obtain ⟨mx, hmx⟩ : ∃ f : Int → Int → Int, f = rMx := ⟨_, rfl⟩
  obtain ⟨mn, hmn⟩ : ∃ f : Int → Int → Int, f = rMn := ⟨_, rfl⟩
  have ar01 : ar .add .i64 0 1 = 1 := by rw [har]; decide
  have ar12 : ar .add .i64 1 1 = 2 := by rw [har]; decide
  obtain ⟨zpl, hzpl⟩ : ∃ f : Nat → Nat → Nat, f = fun x y => x + y := ⟨_, rfl⟩
  obtain ⟨zjn, hzjn⟩ : ∃ f : Nat → (Nat → List SC) → (Nat → List SC) → Nat → List SC, f = rJn := ⟨_, rfl⟩
  obtain ⟨zup, hzup⟩ : ∃ f : (Nat → List SC) → Nat → Nat → List SC → Nat → List SC, f = rUp := ⟨_, rfl⟩
  obtain ⟨zmi, hzmi⟩ : ∃ f : Nat → Nat → Nat, f = fun x y => x - y := ⟨_, rfl⟩
  obtain ⟨zdp, hzdp⟩ : ∃ f : Nat → (Nat → List SC) → Nat → List SC, f = rDp := ⟨_, rfl⟩
  have hT := T0_ok hnd hnt har hcm hmx hmn hzpl hzjn hzup hzmi hzdp
  repeat' (first
    | ((with_reducible apply go_ev hT 400); (· (cbv; try rfl)); (fail_if_success with_reducible apply stuck_id))
    | (with_reducible refine go_br (fun h => ?_) (fun h => ?_))
    | ((with_reducible apply go_ret_val hT); (· (cbv; try rfl)); (· (cbv; try rfl)))
    | ((with_reducible apply go_call (f := 92) (hf := Tryz.call92)); (· (cbv; try rfl)); (· intro wc hbc hxc; exact h1 wc hbc))
    | ((with_reducible apply go_call (f := 93) (hf := Tryz.call93)); (· (cbv; try rfl)); (· intro wc hbc hxc; exact h2 wc))
    )
  all_goals
    refine bool_eq ?_
    simp_all

set_option maxRecDepth 100000 in
set_option maxHeartbeats 4000000 in
theorem rMovesA (F : GFun) (w : World) (hF : F.At w) (n : Nat) (m : Nat) (g : Nat → GOper) (hm : m ≤ 8) (hop : ∀ wc, KB ⟨w, []⟩ wc → Calls Tryz.prog 57 #[F.val, .int .i64 (.ofNat n)] wc (RetR wc (funX F) (.pt (.one (.rs 0))) [⟨m, 5, fun i => (g i).sc⟩])) (x : Int) :
    Calls Tryz.prog 30 #[F.val, .int .i64 (.ofNat n), .int .i64 x] w (Ret w (.int .i64 (.ofNat (mvN g x (m))))) := by
  have h1 := mvN_le g x
  obtain ⟨pn, hpn⟩ : ∃ f : Nat → Nat, f = mvN g x := ⟨_, rfl⟩
  have p0 : 0 = pn 0 := by rw [hpn]; rfl
  have p1 : ∀ k, (g k).k = 3 → (g k).p.l = x → pn k + 1 = pn (k + 1) := fun k h h2 => by rw [hpn]; simp only [mvN, if_pos (And.intro h h2)]
  have p2 : ∀ k, ¬ (g k).k = 3 → pn k = pn (k + 1) := fun k h => by rw [hpn]; simp only [mvN]; rw [if_neg (fun q => h q.1)]; omega
  have p3 : ∀ k, ¬ (g k).p.l = x → pn k = pn (k + 1) := fun k h => by rw [hpn]; simp only [mvN]; rw [if_neg (fun q => h q.2)]; omega
  rw [← hpn] at h1 ⊢
  clear hpn
  obtain ⟨pa, un, lA, ln, lc, lk, lt, bA, bn, bc, sA, sn, sc, s, jA, jn, jc, ja, jk, jo, jf, jx, je, jd⟩ := F
  obtain ⟨hX, hl, hb, hs, hj⟩ := hF
  simp only at hl hb hs hj
  try simp only at hm hop p1 p2 p3
  refine go_start (args := [.pt (.agg (GFun.dat ⟨pa, un, lA, ln, lc, lk, lt, bA, bn, bc, sA, sn, sc, s, jA, jn, jc, ja, jk, jo, jf, jx, je, jd⟩)), .pt (.one (.int .i64 (.ofNat n))), .pt (.one (.int .i64 x))]) (c := (funX ⟨pa, un, lA, ln, lc, lk, lt, bA, bn, bc, sA, sn, sc, s, jA, jn, jc, ja, jk, jo, jf, jx, je, jd⟩)) Tryz.func30 rfl hX rfl rfl ?_
  obtain ⟨nd, hnd⟩ : ∃ f : Bool → Bool → Bool, f = and := ⟨_, rfl⟩
  obtain ⟨nt, hnt⟩ : ∃ f : Bool → Bool, f = not := ⟨_, rfl⟩
  obtain ⟨ar, har⟩ : ∃ f : BinOp → IntKind → Int → Int → Int, f = rAr := ⟨_, rfl⟩
  obtain ⟨cm, hcm⟩ : ∃ f : BinOp → Int → Int → Bool, f = rCm := ⟨_, rfl⟩
  obtain ⟨mx, hmx⟩ : ∃ f : Int → Int → Int, f = rMx := ⟨_, rfl⟩
  obtain ⟨mn, hmn⟩ : ∃ f : Int → Int → Int, f = rMn := ⟨_, rfl⟩
  have ar01 : ar .add .i64 0 1 = 1 := by rw [har]; decide
  have ar12 : ar .add .i64 1 1 = 2 := by rw [har]; decide
  obtain ⟨zpl, hzpl⟩ : ∃ f : Nat → Nat → Nat, f = fun x y => x + y := ⟨_, rfl⟩
  obtain ⟨zjn, hzjn⟩ : ∃ f : Nat → (Nat → List SC) → (Nat → List SC) → Nat → List SC, f = rJn := ⟨_, rfl⟩
  obtain ⟨zup, hzup⟩ : ∃ f : (Nat → List SC) → Nat → Nat → List SC → Nat → List SC, f = rUp := ⟨_, rfl⟩
  obtain ⟨zmi, hzmi⟩ : ∃ f : Nat → Nat → Nat, f = fun x y => x - y := ⟨_, rfl⟩
  obtain ⟨zdp, hzdp⟩ : ∃ f : Nat → (Nat → List SC) → Nat → List SC, f = rDp := ⟨_, rfl⟩
  have hT := T0_ok hnd hnt har hcm hmx hmn hzpl hzjn hzup hzmi hzdp
  repeat' (first
    | ((with_reducible apply go_ev hT 400); (· (cbv; try rfl)); (fail_if_success with_reducible apply stuck_id))
    | (with_reducible refine go_brl hcm (fun hlt => ?_) (fun hge => ?_))
    | (with_reducible refine go_br (fun h => ?_) (fun h => ?_))
    | ((with_reducible apply go_ret_val hT); (· (cbv; try rfl)); (· (cbv; try rfl)))
    | ((with_reducible refine go_need ?_ ?_ ?_); (· first | omega | (simp only [Int.ofNat_eq_natCast]; omega)); (· first | omega | (simp only [Int.ofNat_eq_natCast]; omega)))
    | ((with_reducible apply go_callR (f := 57) (hf := Tryz.call57)); (· intro S; cbv; try rfl); (· intro wc S hbc hxc hrc; exact hop wc hbc); (· rfl))
    | ((with_reducible refine go_loopk (σ := {k : Nat // k ≤ m}) [13, 14, 15, 16, 17, 18, 19, 20, 21, 22, 23, 24, 25, 26, 27, 28, 29, 30, 31, 32, 33, 34, 35, 36] (fun x => [(9, .pt (.one (.int .i64 (.ofNat x.1)))), (8, .pt (.one (.int .i64 (.ofNat (pn x.1)))))]) (fun x => []) (fun x => []) (fun x => m - x.1) ⟨0, by omega⟩ ?_ ?_ ?_ ?_); (· (refine le_mk ?_ ?_ ?_ ?_ <;> (cbv; (try simp only [true_and, and_true]); (try ((repeat' apply And.intro) <;> (first | trivial | rfl | exact RowLe.rfl' _ | (rw [wrap_nat har _ (by omega)]) | ((exact congrArg Int.ofNat p0)) | ((exact congrArg Int.ofNat (p2 k (of_decide_eq_false (by assumption))))) | ((exact congrArg Int.ofNat (p3 k (of_decide_eq_false (by assumption))))) | ((rw [wrap_nat har _ (by have := h1 k; omega)]; exact congrArg Int.ofNat (p1 k (of_decide_eq_true (by assumption)) (of_decide_eq_true (by assumption))))))))))); (· (cbv; try rfl)); (· simp); (rintro ⟨k, hk⟩ mm hmm))
    | ((with_reducible refine go_stop (⟨k + 1, by omega⟩ : {k : Nat // k ≤ m}) ?_ ?_ ?_ ?_); (· exact Nat.lt_of_lt_of_eq (show m - (k + 1) < m - k from by omega) (Eq.symm (by assumption))); (· (refine le_mk ?_ ?_ ?_ ?_ <;> (cbv; (try simp only [true_and, and_true]); (try ((repeat' apply And.intro) <;> (first | trivial | rfl | exact RowLe.rfl' _ | (rw [wrap_nat har _ (by omega)]) | ((exact congrArg Int.ofNat p0)) | ((exact congrArg Int.ofNat (p2 k (of_decide_eq_false (by assumption))))) | ((exact congrArg Int.ofNat (p3 k (of_decide_eq_false (by assumption))))) | ((rw [wrap_nat har _ (by have := h1 k; omega)]; exact congrArg Int.ofNat (p1 k (of_decide_eq_true (by assumption)) (of_decide_eq_true (by assumption))))))))))); (· (cbv; try rfl)); (· simp))
    )
  all_goals (have e : k = m := by omega)
  all_goals (subst e; rfl)

set_option maxRecDepth 100000 in
set_option maxHeartbeats 4000000 in
theorem rMovesB (F : GFun) (w : World) (hF : F.At w) (n : Nat) (b : Nat) (hm : F.jn b ≤ 8) (hop : ∀ wc, KB ⟨w, []⟩ wc → Calls Tryz.prog 57 #[F.val, .int .i64 (.ofNat n)] wc (RetR wc (funX F) (.pt (.one (.xs 3 b))) [])) (x : Int) :
    Calls Tryz.prog 30 #[F.val, .int .i64 (.ofNat n), .int .i64 x] w (Ret w (.int .i64 (.ofNat (mvN (F.ja b) x (F.jn b))))) := by
  have h1 := mvN_le (F.ja b) x
  obtain ⟨pn, hpn⟩ : ∃ f : Nat → Nat, f = mvN (F.ja b) x := ⟨_, rfl⟩
  have p0 : 0 = pn 0 := by rw [hpn]; rfl
  have p1 : ∀ k, ((F.ja b) k).k = 3 → ((F.ja b) k).p.l = x → pn k + 1 = pn (k + 1) := fun k h h2 => by rw [hpn]; simp only [mvN, if_pos (And.intro h h2)]
  have p2 : ∀ k, ¬ ((F.ja b) k).k = 3 → pn k = pn (k + 1) := fun k h => by rw [hpn]; simp only [mvN]; rw [if_neg (fun q => h q.1)]; omega
  have p3 : ∀ k, ¬ ((F.ja b) k).p.l = x → pn k = pn (k + 1) := fun k h => by rw [hpn]; simp only [mvN]; rw [if_neg (fun q => h q.2)]; omega
  rw [← hpn] at h1 ⊢
  clear hpn
  obtain ⟨pa, un, lA, ln, lc, lk, lt, bA, bn, bc, sA, sn, sc, s, jA, jn, jc, ja, jk, jo, jf, jx, je, jd⟩ := F
  obtain ⟨hX, hl, hb, hs, hj⟩ := hF
  simp only at hl hb hs hj
  try simp only at hm hop p1 p2 p3
  refine go_start (args := [.pt (.agg (GFun.dat ⟨pa, un, lA, ln, lc, lk, lt, bA, bn, bc, sA, sn, sc, s, jA, jn, jc, ja, jk, jo, jf, jx, je, jd⟩)), .pt (.one (.int .i64 (.ofNat n))), .pt (.one (.int .i64 x))]) (c := (funX ⟨pa, un, lA, ln, lc, lk, lt, bA, bn, bc, sA, sn, sc, s, jA, jn, jc, ja, jk, jo, jf, jx, je, jd⟩)) Tryz.func30 rfl hX rfl rfl ?_
  obtain ⟨nd, hnd⟩ : ∃ f : Bool → Bool → Bool, f = and := ⟨_, rfl⟩
  obtain ⟨nt, hnt⟩ : ∃ f : Bool → Bool, f = not := ⟨_, rfl⟩
  obtain ⟨ar, har⟩ : ∃ f : BinOp → IntKind → Int → Int → Int, f = rAr := ⟨_, rfl⟩
  obtain ⟨cm, hcm⟩ : ∃ f : BinOp → Int → Int → Bool, f = rCm := ⟨_, rfl⟩
  obtain ⟨mx, hmx⟩ : ∃ f : Int → Int → Int, f = rMx := ⟨_, rfl⟩
  obtain ⟨mn, hmn⟩ : ∃ f : Int → Int → Int, f = rMn := ⟨_, rfl⟩
  have ar01 : ar .add .i64 0 1 = 1 := by rw [har]; decide
  have ar12 : ar .add .i64 1 1 = 2 := by rw [har]; decide
  obtain ⟨zpl, hzpl⟩ : ∃ f : Nat → Nat → Nat, f = fun x y => x + y := ⟨_, rfl⟩
  obtain ⟨zjn, hzjn⟩ : ∃ f : Nat → (Nat → List SC) → (Nat → List SC) → Nat → List SC, f = rJn := ⟨_, rfl⟩
  obtain ⟨zup, hzup⟩ : ∃ f : (Nat → List SC) → Nat → Nat → List SC → Nat → List SC, f = rUp := ⟨_, rfl⟩
  obtain ⟨zmi, hzmi⟩ : ∃ f : Nat → Nat → Nat, f = fun x y => x - y := ⟨_, rfl⟩
  obtain ⟨zdp, hzdp⟩ : ∃ f : Nat → (Nat → List SC) → Nat → List SC, f = rDp := ⟨_, rfl⟩
  have hT := T0_ok hnd hnt har hcm hmx hmn hzpl hzjn hzup hzmi hzdp
  repeat' (first
    | ((with_reducible apply go_ev hT 400); (· (cbv; try rfl)); (fail_if_success with_reducible apply stuck_id))
    | (with_reducible refine go_brl hcm (fun hlt => ?_) (fun hge => ?_))
    | (with_reducible refine go_br (fun h => ?_) (fun h => ?_))
    | ((with_reducible apply go_ret_val hT); (· (cbv; try rfl)); (· (cbv; try rfl)))
    | ((with_reducible refine go_need ?_ ?_ ?_); (· first | omega | (simp only [Int.ofNat_eq_natCast]; omega)); (· first | omega | (simp only [Int.ofNat_eq_natCast]; omega)))
    | ((with_reducible apply go_callR (f := 57) (hf := Tryz.call57)); (· intro S; cbv; try rfl); (· intro wc S hbc hxc hrc; exact hop wc hbc); (· rfl))
    | ((with_reducible refine go_loopk (σ := {k : Nat // k ≤ jn b}) [13, 14, 15, 16, 17, 18, 19, 20, 21, 22, 23, 24, 25, 26, 27, 28, 29, 30, 31, 32, 33, 34, 35, 36] (fun x => [(9, .pt (.one (.int .i64 (.ofNat x.1)))), (8, .pt (.one (.int .i64 (.ofNat (pn x.1)))))]) (fun x => []) (fun x => []) (fun x => jn b - x.1) ⟨0, by omega⟩ ?_ ?_ ?_ ?_); (· (refine le_mk ?_ ?_ ?_ ?_ <;> (cbv; (try simp only [true_and, and_true]); (try ((repeat' apply And.intro) <;> (first | trivial | rfl | exact RowLe.rfl' _ | (rw [wrap_nat har _ (by omega)]) | ((exact congrArg Int.ofNat p0)) | ((exact congrArg Int.ofNat (p2 k (of_decide_eq_false (by assumption))))) | ((exact congrArg Int.ofNat (p3 k (of_decide_eq_false (by assumption))))) | ((rw [wrap_nat har _ (by have := h1 k; omega)]; exact congrArg Int.ofNat (p1 k (of_decide_eq_true (by assumption)) (of_decide_eq_true (by assumption))))))))))); (· (cbv; try rfl)); (· simp); (rintro ⟨k, hk⟩ mm hmm))
    | ((with_reducible refine go_stop (⟨k + 1, by omega⟩ : {k : Nat // k ≤ jn b}) ?_ ?_ ?_ ?_); (· exact Nat.lt_of_lt_of_eq (show jn b - (k + 1) < jn b - k from by omega) (Eq.symm (by assumption))); (· (refine le_mk ?_ ?_ ?_ ?_ <;> (cbv; (try simp only [true_and, and_true]); (try ((repeat' apply And.intro) <;> (first | trivial | rfl | exact RowLe.rfl' _ | (rw [wrap_nat har _ (by omega)]) | ((exact congrArg Int.ofNat p0)) | ((exact congrArg Int.ofNat (p2 k (of_decide_eq_false (by assumption))))) | ((exact congrArg Int.ofNat (p3 k (of_decide_eq_false (by assumption))))) | ((rw [wrap_nat har _ (by have := h1 k; omega)]; exact congrArg Int.ofNat (p1 k (of_decide_eq_true (by assumption)) (of_decide_eq_true (by assumption))))))))))); (· (cbv; try rfl)); (· simp))
    )
  all_goals (have e : k = jn b := by omega)
  all_goals (subst e; rfl)

set_option maxRecDepth 100000 in
set_option maxHeartbeats 8000000 in
theorem rReadsA (F : GFun) (w : World) (hF : F.At w) (hO : F.Ok) (n : Nat) (hn : n < stN F.sn F.bn) (m : Nat) (g : Nat → GOper) (hm : m ≤ 8) (hop : ∀ wc, KB ⟨w, []⟩ wc → Calls Tryz.prog 57 #[F.val, .int .i64 (.ofNat n)] wc (RetR wc (funX F) (.pt (.one (.rs 0))) [⟨m, 5, fun i => (g i).sc⟩])) :
    Calls Tryz.prog 58 #[F.val, .int .i64 (.ofNat n)] w (RetR w (funX F) (.pt (.one (.rs 0))) [intR (rdO g (m) ++ rdT F n)]) := by
  have hS0 (wc : World) (hk : KB ⟨w, []⟩ wc) := stmtN F wc (hF.later hk) hO.small n hn
  have h1 (wc : World) (hk : KB ⟨w, []⟩ wc) := rTarget F wc (hF.later hk) hO n hn
  have h2 (wc : World) := rWholeC (tgP F n).l (tgP F n).f (tgP F n).d wc
  have h3 (wc : World) (hk : KB ⟨w, []⟩ wc) := rJumpC F wc (hF.later hk) hO.small n hn
  obtain ⟨X, hX'⟩ : ∃ f : Nat → List Int, f = rdO g := ⟨_, rfl⟩
  have x0 : X 0 = [] := by rw [hX']; rfl
  have x1 : ∀ k, (g k).k = 1 → X (k + 1) = X k := fun k h => by rw [hX']; simp only [rdO, if_pos h, List.append_nil]
  have x2 : ∀ k, ¬ (g k).k = 1 → X (k + 1) = X k ++ [(g k).p.l] := fun k h => by rw [hX']; simp only [rdO, if_neg h]
  have xl : ∀ k, (X k).length ≤ k := fun k => by rw [hX', rdO_len]; exact plN_le _ k
  rw [← hX']
  have hE : rdT F n = (if isAt F n = true ∧ (stAt F n).k = 1 ∧ 4 ≤ (stAt F n).r.k then [(stAt F n).r.p.l] else []) ++ ((if tgW F n = true ∧ wholeP (tgP F n) = false then [(tgP F n).l] else []) ++ (if isAt F n = false ∧ F.jk (pbN F n) = 3 then [0] else [])) := rfl
  obtain ⟨ET, hET⟩ : ∃ L, L = rdT F n := ⟨_, rfl⟩
  rw [← hET] at hE ⊢
  obtain ⟨s, hs'⟩ : ∃ s, s = stAt F n := ⟨_, rfl⟩
  obtain ⟨ia, hi'⟩ : ∃ s, s = isAt F n := ⟨_, rfl⟩
  rw [← hs', ← hi'] at hS0
  obtain ⟨p, hp⟩ : ∃ p, p = tgP F n := ⟨_, rfl⟩
  obtain ⟨tw, hb'⟩ : ∃ b, b = tgW F n := ⟨_, rfl⟩
  rw [← hp, ← hb'] at h1
  rw [← hp] at h2
  rw [← hp, ← hb', ← hs', ← hi'] at hE
  obtain ⟨q, hq'⟩ : ∃ q, q = pbN F n := ⟨_, rfl⟩
  rw [← hq'] at h3 hE
  obtain ⟨l, d, f⟩ := p
  obtain ⟨z, hz'⟩ : ∃ z, z = wholeP ⟨l, d, f⟩ := ⟨_, rfl⟩
  simp only at h1 h2 hE
  rw [← hz'] at h2 hE
  have hS (wc : World) (hk : KB ⟨w, []⟩ wc) : Calls Tryz.prog 74 #[F.val, .int .i64 (.ofNat n)] wc (Ret wc (.tuple #[s.val, .bool ia])) := hS0 wc hk
  obtain ⟨RE, hRE⟩ : ∃ R, R = intR (X (m) ++ ET) := ⟨_, rfl⟩
  rw [← hRE]
  obtain ⟨ln_, hln⟩ : ∃ f : List Int → Nat, f = List.length := ⟨_, rfl⟩
  obtain ⟨gt_, hgt⟩ : ∃ f : List Int → Nat → Int, f = fun L j => L.getD j 0 := ⟨_, rfl⟩
  have hRX : ∀ L, intR L = ⟨ln_ L, 1, fun j => [.int .i64 (gt_ L j)]⟩ := fun L => by rw [intR, hln, hgt]
  have xl2 : ∀ k, ln_ (X k) ≤ k := fun k => by rw [hln]; exact xl k
  clear hX' hET hs' hi' hp hb' hz' hq' hS0 hn hO xl hgt
  obtain ⟨yk, ⟨ql, qd, qf⟩, ⟨rk, ro, rb, ⟨ak, an, ⟨al, ad, af⟩⟩, ⟨ek, en, ⟨el, ed, ef⟩⟩, ⟨gl, gd, gf⟩⟩, ⟨ck, cn, ⟨cl, cd, cf⟩⟩, yl⟩ := s
  obtain ⟨pa, un, lA, ln, lc, lk, lt, bA, bn, bc, sA, sn, sc, s, jA, jn, jc, ja, jk, jo, jf, jx, je, jd⟩ := F
  obtain ⟨hX, hl, hb, hs, hj⟩ := hF
  simp only at hl hb hs hj
  try simp only at hm hop h1 h2 h3 hS x1 x2 hE hRE
  refine go_start (args := [.pt (.agg (GFun.dat ⟨pa, un, lA, ln, lc, lk, lt, bA, bn, bc, sA, sn, sc, s, jA, jn, jc, ja, jk, jo, jf, jx, je, jd⟩)), .pt (.one (.int .i64 (.ofNat n)))]) (c := (funX ⟨pa, un, lA, ln, lc, lk, lt, bA, bn, bc, sA, sn, sc, s, jA, jn, jc, ja, jk, jo, jf, jx, je, jd⟩)) Tryz.func58 rfl hX rfl rfl ?_
  obtain ⟨nd, hnd⟩ : ∃ f : Bool → Bool → Bool, f = and := ⟨_, rfl⟩
  obtain ⟨nt, hnt⟩ : ∃ f : Bool → Bool, f = not := ⟨_, rfl⟩
  obtain ⟨ar, har⟩ : ∃ f : BinOp → IntKind → Int → Int → Int, f = rAr := ⟨_, rfl⟩
  obtain ⟨cm, hcm⟩ : ∃ f : BinOp → Int → Int → Bool, f = rCm := ⟨_, rfl⟩
  obtain ⟨mx, hmx⟩ : ∃ f : Int → Int → Int, f = rMx := ⟨_, rfl⟩
  obtain ⟨mn, hmn⟩ : ∃ f : Int → Int → Int, f = rMn := ⟨_, rfl⟩
  have ar01 : ar .add .i64 0 1 = 1 := by rw [har]; decide
  have ar12 : ar .add .i64 1 1 = 2 := by rw [har]; decide
  obtain ⟨zpl, hzpl⟩ : ∃ f : Nat → Nat → Nat, f = fun x y => x + y := ⟨_, rfl⟩
  obtain ⟨zjn, hzjn⟩ : ∃ f : Nat → (Nat → List SC) → (Nat → List SC) → Nat → List SC, f = rJn := ⟨_, rfl⟩
  obtain ⟨zup, hzup⟩ : ∃ f : (Nat → List SC) → Nat → Nat → List SC → Nat → List SC, f = rUp := ⟨_, rfl⟩
  obtain ⟨zmi, hzmi⟩ : ∃ f : Nat → Nat → Nat, f = fun x y => x - y := ⟨_, rfl⟩
  obtain ⟨zdp, hzdp⟩ : ∃ f : Nat → (Nat → List SC) → Nat → List SC, f = rDp := ⟨_, rfl⟩
  have hT := T0_ok hnd hnt har hcm hmx hmn hzpl hzjn hzup hzmi hzdp
  have hk2 : ∀ k, ¬ (g k).k = 1 → RowLe ⟨zpl (ln_ (X k)) 1, 1, zjn (ln_ (X k)) (fun j => [.int .i64 (gt_ (X k) j)]) (fun j => cutL [.int .i64 (g k).p.l] (0 + j * 1) 1)⟩ ⟨ln_ (X (k + 1)), 1, fun j => [.int .i64 (gt_ (X (k + 1)) j)]⟩ := fun k h => by
    rw [← hRX, x2 k h]
    exact intLe_app hzpl hzjn (by rw [hRX]; exact RowLe.rfl' _)
  have hge : ∀ x : Int, cm .geq x 4 = decide (4 ≤ x) := fun x => by rw [hcm]; rfl
  have e1f : (ia = false ∨ decide (yk = 1) = false ∨ cm .geq rk 4 = false) → (if ia = true ∧ yk = 1 ∧ 4 ≤ rk then [gl] else []) = [] := fun h => by
    rw [if_neg]
    rintro ⟨g1, g2, g3⟩
    rcases h with h | h | h
    · rw [h] at g1; cases g1
    · exact of_decide_eq_false h g2
    · rw [hge] at h; exact of_decide_eq_false h g3
  have e1t : ia = true → decide (yk = 1) = true → cm .geq rk 4 = true → (if ia = true ∧ yk = 1 ∧ 4 ≤ rk then [gl] else []) = [gl] := fun a b c => if_pos ⟨a, of_decide_eq_true b, of_decide_eq_true (by rw [← hge]; exact c)⟩
  have e2f : (tw = false ∨ z = true) → (if tw = true ∧ z = false then [l] else []) = [] := fun h => by
    rw [if_neg]
    rintro ⟨g1, g2⟩
    rcases h with h | h
    · rw [h] at g1; cases g1
    · rw [h] at g2; cases g2
  have e2t : tw = true → z = false → (if tw = true ∧ z = false then [l] else []) = [l] := fun a b => if_pos ⟨a, b⟩
  have e3f : (ia = true ∨ decide (jk q = 3) = false) → (if ia = false ∧ jk q = 3 then [(0 : Int)] else []) = [] := fun h => by
    rw [if_neg]
    rintro ⟨g1, g2⟩
    rcases h with h | h
    · rw [h] at g1; cases g1
    · exact of_decide_eq_false h g2
  have e3t : ia = false → decide (jk q = 3) = true → (if ia = false ∧ jk q = 3 then [(0 : Int)] else []) = [0] := fun a b => if_pos ⟨a, of_decide_eq_true b⟩
  have b0 : ∀ {k}, k ≤ m → m ≤ k → RowLe ⟨ln_ (X k), 1, fun j => [.int .i64 (gt_ (X k) j)]⟩ (intR (X (m))) := fun {k} a b => by rw [Nat.le_antisymm a b, hRX]; exact RowLe.rfl' _
  have ap : ∀ {L : List Int} {x : Int} {n : Nat} {e : Nat → List SC}, RowLe ⟨n, 1, e⟩ (intR L) → RowLe ⟨zpl n 1, 1, zjn n e (fun j => cutL [.int .i64 x] (0 + j * 1) 1)⟩ (intR (L ++ [x])) := fun h => intLe_app hzpl hzjn h
  have ob1 : ∀ {k}, k ≤ m → zpl (ln_ (X k)) 1 ≤ 1073741824 := fun {k} h => by rw [hzpl]; have := xl2 k; show ln_ (X k) + 1 ≤ _; omega
  have ob2 : ∀ {k}, k ≤ m → zpl (zpl (ln_ (X k)) 1) 1 ≤ 1073741824 := fun {k} h => by rw [hzpl]; have := xl2 k; show ln_ (X k) + 1 + 1 ≤ _; omega
  have ob3 : ∀ {k}, k ≤ m → zpl (zpl (zpl (ln_ (X k)) 1) 1) 1 ≤ 1073741824 := fun {k} h => by rw [hzpl]; have := xl2 k; show ln_ (X k) + 1 + 1 + 1 ≤ _; omega
  clear hRX hge xl2
  repeat' (first
    | ((with_reducible apply go_ev hT 400); (· (cbv; try rfl)); (fail_if_success with_reducible apply stuck_id))
    | ((with_reducible refine go_brnt hnt ?_ ?_); (· first | rfl | assumption))
    | ((with_reducible refine go_brnf hnt ?_ ?_); (· first | rfl | assumption))
    | (with_reducible refine go_brn hnt (fun h => ?_) (fun h => ?_))
    | (with_reducible refine go_brl hcm (fun hlt => ?_) (fun hge => ?_))
    | (with_reducible refine go_br (fun h => ?_) (fun h => ?_))
    | ((with_reducible refine go_need ?_ ?_ ?_); (· first | omega | (simp only [Int.ofNat_eq_natCast]; omega)); (· first | omega | (simp only [Int.ofNat_eq_natCast]; omega)))
    | ((with_reducible refine go_ob ?_ ?_); (· first | trivial | (refine ⟨trivial, ?_⟩; omega) | (rw [hzpl]; refine ⟨trivial, ?_⟩; show _ + _ ≤ 1073741824; omega) | (rw [hzpl]; show _ + _ ≤ 1073741824; omega) | ((exact ob1 hk)) | ((exact ob2 hk)) | ((exact ob3 hk))))
    | ((with_reducible apply go_ret_rows hT); (· (cbv; try rfl)); (· (cbv; try rfl)); (· (cbv; (try simp only [true_and, and_true]); (try ((repeat' apply And.intro) <;> (first | trivial | rfl | decide  | ((refine rowLe_of (by rw [x0, hln]; rfl) (fun j hj => absurd hj (Nat.not_lt_zero _)))) | ((exact hk2 k (of_decide_eq_false (by assumption)))) | ((rw [x1 k (of_decide_eq_true (by assumption))]; exact RowLe.rfl' _)) | ((rw [hRE, hE]; (first | rw [e1t (by assumption) (by assumption) (by assumption)] | rw [e1f (by first | exact .inl (by assumption) | exact .inr (.inl (by assumption)) | exact .inr (.inr (by assumption)))]); (first | rw [e2t (by assumption) (by assumption)] | rw [e2f (by first | exact .inl (by assumption) | exact .inr (by assumption))]); (first | rw [e3t (by assumption) (by assumption)] | rw [e3f (by first | exact .inl (by assumption) | exact .inr (by assumption))]); simp only [List.nil_append, List.append_nil, ← List.append_assoc]; first | exact b0 hk (by assumption) | exact ap (b0 hk (by assumption)) | exact ap (ap (b0 hk (by assumption))) | exact ap (ap (ap (b0 hk (by assumption))))))))))); (· (cbv; (try simp only [true_and, and_true]); (try ((repeat' apply And.intro) <;> (first | trivial | rfl | exact RowLe.rfl' _  | ((refine rowLe_of (by rw [x0, hln]; rfl) (fun j hj => absurd hj (Nat.not_lt_zero _)))) | ((exact hk2 k (of_decide_eq_false (by assumption)))) | ((rw [x1 k (of_decide_eq_true (by assumption))]; exact RowLe.rfl' _)) | ((rw [hRE, hE]; (first | rw [e1t (by assumption) (by assumption) (by assumption)] | rw [e1f (by first | exact .inl (by assumption) | exact .inr (.inl (by assumption)) | exact .inr (.inr (by assumption)))]); (first | rw [e2t (by assumption) (by assumption)] | rw [e2f (by first | exact .inl (by assumption) | exact .inr (by assumption))]); (first | rw [e3t (by assumption) (by assumption)] | rw [e3f (by first | exact .inl (by assumption) | exact .inr (by assumption))]); simp only [List.nil_append, List.append_nil, ← List.append_assoc]; first | exact b0 hk (by assumption) | exact ap (b0 hk (by assumption)) | exact ap (ap (b0 hk (by assumption))) | exact ap (ap (ap (b0 hk (by assumption))))))))))); (· rfl))
    | ((with_reducible apply go_callR (f := 57) (hf := Tryz.call57)); (· intro S; cbv; try rfl); (· intro wc S hbc hxc hrc; exact hop wc hbc); (· rfl))
    | ((with_reducible apply go_call (f := 74) (hf := Tryz.call74)); (· (cbv; try rfl)); (· intro wc hbc hxc; exact hS wc hbc))
    | ((with_reducible apply go_call (f := 92) (hf := Tryz.call92)); (· (cbv; try rfl)); (· intro wc hbc hxc; exact h1 wc hbc))
    | ((with_reducible apply go_call (f := 93) (hf := Tryz.call93)); (· (cbv; try rfl)); (· intro wc hbc hxc; exact h2 wc))
    | ((with_reducible apply go_call (f := 77) (hf := Tryz.call77)); (· (cbv; try rfl)); (· intro wc hbc hxc; exact h3 wc hbc))
    | ((with_reducible apply go_row 5 1); (· (cbv; try rfl)))
    | ((with_reducible refine go_loopk (σ := {k : Nat // k ≤ m}) [15, 16, 17, 18, 19, 20, 21, 22, 23, 24, 25, 26, 27, 28, 29, 30, 31, 32, 33, 34, 35] (fun x => [(7, .pt (.one (.int .i64 (.ofNat x.1))))]) (fun x => []) (fun x => [(1, ⟨ln_ (X x.1), 1, fun j => [.int .i64 (gt_ (X x.1) j)]⟩)]) (fun x => m - x.1) ⟨0, by omega⟩ ?_ ?_ ?_ ?_); (· (refine le_mk ?_ ?_ ?_ ?_ <;> (cbv; (try simp only [true_and, and_true]); (try ((repeat' apply And.intro) <;> (first | trivial | rfl | exact RowLe.rfl' _ | (rw [wrap_nat har _ (by omega)]) | ((refine rowLe_of (by rw [x0, hln]; rfl) (fun j hj => absurd hj (Nat.not_lt_zero _)))) | ((exact hk2 k (of_decide_eq_false (by assumption)))) | ((rw [x1 k (of_decide_eq_true (by assumption))]; exact RowLe.rfl' _)) | ((rw [hRE, hE]; (first | rw [e1t (by assumption) (by assumption) (by assumption)] | rw [e1f (by first | exact .inl (by assumption) | exact .inr (.inl (by assumption)) | exact .inr (.inr (by assumption)))]); (first | rw [e2t (by assumption) (by assumption)] | rw [e2f (by first | exact .inl (by assumption) | exact .inr (by assumption))]); (first | rw [e3t (by assumption) (by assumption)] | rw [e3f (by first | exact .inl (by assumption) | exact .inr (by assumption))]); simp only [List.nil_append, List.append_nil, ← List.append_assoc]; first | exact b0 hk (by assumption) | exact ap (b0 hk (by assumption)) | exact ap (ap (b0 hk (by assumption))) | exact ap (ap (ap (b0 hk (by assumption)))))))))))); (· (cbv; try rfl)); (· simp); (rintro ⟨k, hk⟩ mm hmm))
    | ((with_reducible refine go_stop (⟨k + 1, by omega⟩ : {k : Nat // k ≤ m}) ?_ ?_ ?_ ?_); (· exact Nat.lt_of_lt_of_eq (show m - (k + 1) < m - k from by omega) (Eq.symm (by assumption))); (· (refine le_mk ?_ ?_ ?_ ?_ <;> (cbv; (try simp only [true_and, and_true]); (try ((repeat' apply And.intro) <;> (first | trivial | rfl | exact RowLe.rfl' _ | (rw [wrap_nat har _ (by omega)]) | ((refine rowLe_of (by rw [x0, hln]; rfl) (fun j hj => absurd hj (Nat.not_lt_zero _)))) | ((exact hk2 k (of_decide_eq_false (by assumption)))) | ((rw [x1 k (of_decide_eq_true (by assumption))]; exact RowLe.rfl' _)) | ((rw [hRE, hE]; (first | rw [e1t (by assumption) (by assumption) (by assumption)] | rw [e1f (by first | exact .inl (by assumption) | exact .inr (.inl (by assumption)) | exact .inr (.inr (by assumption)))]); (first | rw [e2t (by assumption) (by assumption)] | rw [e2f (by first | exact .inl (by assumption) | exact .inr (by assumption))]); (first | rw [e3t (by assumption) (by assumption)] | rw [e3f (by first | exact .inl (by assumption) | exact .inr (by assumption))]); simp only [List.nil_append, List.append_nil, ← List.append_assoc]; first | exact b0 hk (by assumption) | exact ap (b0 hk (by assumption)) | exact ap (ap (b0 hk (by assumption))) | exact ap (ap (ap (b0 hk (by assumption)))))))))))); (· (cbv; try rfl)); (· simp))
    )
  all_goals trace_state

set_option maxRecDepth 100000 in
set_option maxHeartbeats 8000000 in
theorem rReadsB (F : GFun) (w : World) (hF : F.At w) (hO : F.Ok) (n : Nat) (hn : n < stN F.sn F.bn) (b : Nat) (hm : F.jn b ≤ 8) (hop : ∀ wc, KB ⟨w, []⟩ wc → Calls Tryz.prog 57 #[F.val, .int .i64 (.ofNat n)] wc (RetR wc (funX F) (.pt (.one (.xs 3 b))) [])) :
    Calls Tryz.prog 58 #[F.val, .int .i64 (.ofNat n)] w (RetR w (funX F) (.pt (.one (.rs 0))) [intR (rdO (F.ja b) (F.jn b) ++ rdT F n)]) := by
  have hS0 (wc : World) (hk : KB ⟨w, []⟩ wc) := stmtN F wc (hF.later hk) hO.small n hn
  have h1 (wc : World) (hk : KB ⟨w, []⟩ wc) := rTarget F wc (hF.later hk) hO n hn
  have h2 (wc : World) := rWholeC (tgP F n).l (tgP F n).f (tgP F n).d wc
  have h3 (wc : World) (hk : KB ⟨w, []⟩ wc) := rJumpC F wc (hF.later hk) hO.small n hn
  obtain ⟨X, hX'⟩ : ∃ f : Nat → List Int, f = rdO (F.ja b) := ⟨_, rfl⟩
  have x0 : X 0 = [] := by rw [hX']; rfl
  have x1 : ∀ k, ((F.ja b) k).k = 1 → X (k + 1) = X k := fun k h => by rw [hX']; simp only [rdO, if_pos h, List.append_nil]
  have x2 : ∀ k, ¬ ((F.ja b) k).k = 1 → X (k + 1) = X k ++ [((F.ja b) k).p.l] := fun k h => by rw [hX']; simp only [rdO, if_neg h]
  have xl : ∀ k, (X k).length ≤ k := fun k => by rw [hX', rdO_len]; exact plN_le _ k
  rw [← hX']
  have hE : rdT F n = (if isAt F n = true ∧ (stAt F n).k = 1 ∧ 4 ≤ (stAt F n).r.k then [(stAt F n).r.p.l] else []) ++ ((if tgW F n = true ∧ wholeP (tgP F n) = false then [(tgP F n).l] else []) ++ (if isAt F n = false ∧ F.jk (pbN F n) = 3 then [0] else [])) := rfl
  obtain ⟨ET, hET⟩ : ∃ L, L = rdT F n := ⟨_, rfl⟩
  rw [← hET] at hE ⊢
  obtain ⟨s, hs'⟩ : ∃ s, s = stAt F n := ⟨_, rfl⟩
  obtain ⟨ia, hi'⟩ : ∃ s, s = isAt F n := ⟨_, rfl⟩
  rw [← hs', ← hi'] at hS0
  obtain ⟨p, hp⟩ : ∃ p, p = tgP F n := ⟨_, rfl⟩
  obtain ⟨tw, hb'⟩ : ∃ b, b = tgW F n := ⟨_, rfl⟩
  rw [← hp, ← hb'] at h1
  rw [← hp] at h2
  rw [← hp, ← hb', ← hs', ← hi'] at hE
  obtain ⟨q, hq'⟩ : ∃ q, q = pbN F n := ⟨_, rfl⟩
  rw [← hq'] at h3 hE
  obtain ⟨l, d, f⟩ := p
  obtain ⟨z, hz'⟩ : ∃ z, z = wholeP ⟨l, d, f⟩ := ⟨_, rfl⟩
  simp only at h1 h2 hE
  rw [← hz'] at h2 hE
  have hS (wc : World) (hk : KB ⟨w, []⟩ wc) : Calls Tryz.prog 74 #[F.val, .int .i64 (.ofNat n)] wc (Ret wc (.tuple #[s.val, .bool ia])) := hS0 wc hk
  obtain ⟨RE, hRE⟩ : ∃ R, R = intR (X (F.jn b) ++ ET) := ⟨_, rfl⟩
  rw [← hRE]
  obtain ⟨ln_, hln⟩ : ∃ f : List Int → Nat, f = List.length := ⟨_, rfl⟩
  obtain ⟨gt_, hgt⟩ : ∃ f : List Int → Nat → Int, f = fun L j => L.getD j 0 := ⟨_, rfl⟩
  have hRX : ∀ L, intR L = ⟨ln_ L, 1, fun j => [.int .i64 (gt_ L j)]⟩ := fun L => by rw [intR, hln, hgt]
  have xl2 : ∀ k, ln_ (X k) ≤ k := fun k => by rw [hln]; exact xl k
  clear hX' hET hs' hi' hp hb' hz' hq' hS0 hn hO xl hgt
  obtain ⟨yk, ⟨ql, qd, qf⟩, ⟨rk, ro, rb, ⟨ak, an, ⟨al, ad, af⟩⟩, ⟨ek, en, ⟨el, ed, ef⟩⟩, ⟨gl, gd, gf⟩⟩, ⟨ck, cn, ⟨cl, cd, cf⟩⟩, yl⟩ := s
  obtain ⟨pa, un, lA, ln, lc, lk, lt, bA, bn, bc, sA, sn, sc, s, jA, jn, jc, ja, jk, jo, jf, jx, je, jd⟩ := F
  obtain ⟨hX, hl, hb, hs, hj⟩ := hF
  simp only at hl hb hs hj
  try simp only at hm hop h1 h2 h3 hS x1 x2 hE hRE
  refine go_start (args := [.pt (.agg (GFun.dat ⟨pa, un, lA, ln, lc, lk, lt, bA, bn, bc, sA, sn, sc, s, jA, jn, jc, ja, jk, jo, jf, jx, je, jd⟩)), .pt (.one (.int .i64 (.ofNat n)))]) (c := (funX ⟨pa, un, lA, ln, lc, lk, lt, bA, bn, bc, sA, sn, sc, s, jA, jn, jc, ja, jk, jo, jf, jx, je, jd⟩)) Tryz.func58 rfl hX rfl rfl ?_
  obtain ⟨nd, hnd⟩ : ∃ f : Bool → Bool → Bool, f = and := ⟨_, rfl⟩
  obtain ⟨nt, hnt⟩ : ∃ f : Bool → Bool, f = not := ⟨_, rfl⟩
  obtain ⟨ar, har⟩ : ∃ f : BinOp → IntKind → Int → Int → Int, f = rAr := ⟨_, rfl⟩
  obtain ⟨cm, hcm⟩ : ∃ f : BinOp → Int → Int → Bool, f = rCm := ⟨_, rfl⟩
  obtain ⟨mx, hmx⟩ : ∃ f : Int → Int → Int, f = rMx := ⟨_, rfl⟩
  obtain ⟨mn, hmn⟩ : ∃ f : Int → Int → Int, f = rMn := ⟨_, rfl⟩
  have ar01 : ar .add .i64 0 1 = 1 := by rw [har]; decide
  have ar12 : ar .add .i64 1 1 = 2 := by rw [har]; decide
  obtain ⟨zpl, hzpl⟩ : ∃ f : Nat → Nat → Nat, f = fun x y => x + y := ⟨_, rfl⟩
  obtain ⟨zjn, hzjn⟩ : ∃ f : Nat → (Nat → List SC) → (Nat → List SC) → Nat → List SC, f = rJn := ⟨_, rfl⟩
  obtain ⟨zup, hzup⟩ : ∃ f : (Nat → List SC) → Nat → Nat → List SC → Nat → List SC, f = rUp := ⟨_, rfl⟩
  obtain ⟨zmi, hzmi⟩ : ∃ f : Nat → Nat → Nat, f = fun x y => x - y := ⟨_, rfl⟩
  obtain ⟨zdp, hzdp⟩ : ∃ f : Nat → (Nat → List SC) → Nat → List SC, f = rDp := ⟨_, rfl⟩
  have hT := T0_ok hnd hnt har hcm hmx hmn hzpl hzjn hzup hzmi hzdp
  have hk2 : ∀ k, ¬ (ja b k).k = 1 → RowLe ⟨zpl (ln_ (X k)) 1, 1, zjn (ln_ (X k)) (fun j => [.int .i64 (gt_ (X k) j)]) (fun j => cutL [.int .i64 (ja b k).p.l] (0 + j * 1) 1)⟩ ⟨ln_ (X (k + 1)), 1, fun j => [.int .i64 (gt_ (X (k + 1)) j)]⟩ := fun k h => by
    rw [← hRX, x2 k h]
    exact intLe_app hzpl hzjn (by rw [hRX]; exact RowLe.rfl' _)
  have hge : ∀ x : Int, cm .geq x 4 = decide (4 ≤ x) := fun x => by rw [hcm]; rfl
  have e1f : (ia = false ∨ decide (yk = 1) = false ∨ cm .geq rk 4 = false) → (if ia = true ∧ yk = 1 ∧ 4 ≤ rk then [gl] else []) = [] := fun h => by
    rw [if_neg]
    rintro ⟨g1, g2, g3⟩
    rcases h with h | h | h
    · rw [h] at g1; cases g1
    · exact of_decide_eq_false h g2
    · rw [hge] at h; exact of_decide_eq_false h g3
  have e1t : ia = true → decide (yk = 1) = true → cm .geq rk 4 = true → (if ia = true ∧ yk = 1 ∧ 4 ≤ rk then [gl] else []) = [gl] := fun a b c => if_pos ⟨a, of_decide_eq_true b, of_decide_eq_true (by rw [← hge]; exact c)⟩
  have e2f : (tw = false ∨ z = true) → (if tw = true ∧ z = false then [l] else []) = [] := fun h => by
    rw [if_neg]
    rintro ⟨g1, g2⟩
    rcases h with h | h
    · rw [h] at g1; cases g1
    · rw [h] at g2; cases g2
  have e2t : tw = true → z = false → (if tw = true ∧ z = false then [l] else []) = [l] := fun a b => if_pos ⟨a, b⟩
  have e3f : (ia = true ∨ decide (jk q = 3) = false) → (if ia = false ∧ jk q = 3 then [(0 : Int)] else []) = [] := fun h => by
    rw [if_neg]
    rintro ⟨g1, g2⟩
    rcases h with h | h
    · rw [h] at g1; cases g1
    · exact of_decide_eq_false h g2
  have e3t : ia = false → decide (jk q = 3) = true → (if ia = false ∧ jk q = 3 then [(0 : Int)] else []) = [0] := fun a b => if_pos ⟨a, of_decide_eq_true b⟩
  have b0 : ∀ {k}, k ≤ jn b → jn b ≤ k → RowLe ⟨ln_ (X k), 1, fun j => [.int .i64 (gt_ (X k) j)]⟩ (intR (X (jn b))) := fun {k} a b => by rw [Nat.le_antisymm a b, hRX]; exact RowLe.rfl' _
  have ap : ∀ {L : List Int} {x : Int} {n : Nat} {e : Nat → List SC}, RowLe ⟨n, 1, e⟩ (intR L) → RowLe ⟨zpl n 1, 1, zjn n e (fun j => cutL [.int .i64 x] (0 + j * 1) 1)⟩ (intR (L ++ [x])) := fun h => intLe_app hzpl hzjn h
  have ob1 : ∀ {k}, k ≤ jn b → zpl (ln_ (X k)) 1 ≤ 1073741824 := fun {k} h => by rw [hzpl]; have := xl2 k; show ln_ (X k) + 1 ≤ _; omega
  have ob2 : ∀ {k}, k ≤ jn b → zpl (zpl (ln_ (X k)) 1) 1 ≤ 1073741824 := fun {k} h => by rw [hzpl]; have := xl2 k; show ln_ (X k) + 1 + 1 ≤ _; omega
  have ob3 : ∀ {k}, k ≤ jn b → zpl (zpl (zpl (ln_ (X k)) 1) 1) 1 ≤ 1073741824 := fun {k} h => by rw [hzpl]; have := xl2 k; show ln_ (X k) + 1 + 1 + 1 ≤ _; omega
  clear hRX hge xl2
  repeat' (first
    | ((with_reducible apply go_ev hT 400); (· (cbv; try rfl)); (fail_if_success with_reducible apply stuck_id))
    | ((with_reducible refine go_brnt hnt ?_ ?_); (· first | rfl | assumption))
    | ((with_reducible refine go_brnf hnt ?_ ?_); (· first | rfl | assumption))
    | (with_reducible refine go_brn hnt (fun h => ?_) (fun h => ?_))
    | (with_reducible refine go_brl hcm (fun hlt => ?_) (fun hge => ?_))
    | (with_reducible refine go_br (fun h => ?_) (fun h => ?_))
    | ((with_reducible refine go_need ?_ ?_ ?_); (· first | omega | (simp only [Int.ofNat_eq_natCast]; omega)); (· first | omega | (simp only [Int.ofNat_eq_natCast]; omega)))
    | ((with_reducible refine go_ob ?_ ?_); (· first | trivial | (refine ⟨trivial, ?_⟩; omega) | (rw [hzpl]; refine ⟨trivial, ?_⟩; show _ + _ ≤ 1073741824; omega) | (rw [hzpl]; show _ + _ ≤ 1073741824; omega) | ((exact ob1 hk)) | ((exact ob2 hk)) | ((exact ob3 hk))))
    | ((with_reducible apply go_ret_rows hT); (· (cbv; try rfl)); (· (cbv; try rfl)); (· (cbv; (try simp only [true_and, and_true]); (try ((repeat' apply And.intro) <;> (first | trivial | rfl | decide  | ((refine rowLe_of (by rw [x0, hln]; rfl) (fun j hj => absurd hj (Nat.not_lt_zero _)))) | ((exact hk2 k (of_decide_eq_false (by assumption)))) | ((rw [x1 k (of_decide_eq_true (by assumption))]; exact RowLe.rfl' _)) | ((rw [hRE, hE]; (first | rw [e1t (by assumption) (by assumption) (by assumption)] | rw [e1f (by first | exact .inl (by assumption) | exact .inr (.inl (by assumption)) | exact .inr (.inr (by assumption)))]); (first | rw [e2t (by assumption) (by assumption)] | rw [e2f (by first | exact .inl (by assumption) | exact .inr (by assumption))]); (first | rw [e3t (by assumption) (by assumption)] | rw [e3f (by first | exact .inl (by assumption) | exact .inr (by assumption))]); simp only [List.nil_append, List.append_nil, ← List.append_assoc]; first | exact b0 hk (by assumption) | exact ap (b0 hk (by assumption)) | exact ap (ap (b0 hk (by assumption))) | exact ap (ap (ap (b0 hk (by assumption))))))))))); (· (cbv; (try simp only [true_and, and_true]); (try ((repeat' apply And.intro) <;> (first | trivial | rfl | exact RowLe.rfl' _  | ((refine rowLe_of (by rw [x0, hln]; rfl) (fun j hj => absurd hj (Nat.not_lt_zero _)))) | ((exact hk2 k (of_decide_eq_false (by assumption)))) | ((rw [x1 k (of_decide_eq_true (by assumption))]; exact RowLe.rfl' _)) | ((rw [hRE, hE]; (first | rw [e1t (by assumption) (by assumption) (by assumption)] | rw [e1f (by first | exact .inl (by assumption) | exact .inr (.inl (by assumption)) | exact .inr (.inr (by assumption)))]); (first | rw [e2t (by assumption) (by assumption)] | rw [e2f (by first | exact .inl (by assumption) | exact .inr (by assumption))]); (first | rw [e3t (by assumption) (by assumption)] | rw [e3f (by first | exact .inl (by assumption) | exact .inr (by assumption))]); simp only [List.nil_append, List.append_nil, ← List.append_assoc]; first | exact b0 hk (by assumption) | exact ap (b0 hk (by assumption)) | exact ap (ap (b0 hk (by assumption))) | exact ap (ap (ap (b0 hk (by assumption))))))))))); (· rfl))
    | ((with_reducible apply go_callR (f := 57) (hf := Tryz.call57)); (· intro S; cbv; try rfl); (· intro wc S hbc hxc hrc; exact hop wc hbc); (· rfl))
    | ((with_reducible apply go_call (f := 74) (hf := Tryz.call74)); (· (cbv; try rfl)); (· intro wc hbc hxc; exact hS wc hbc))
    | ((with_reducible apply go_call (f := 92) (hf := Tryz.call92)); (· (cbv; try rfl)); (· intro wc hbc hxc; exact h1 wc hbc))
    | ((with_reducible apply go_call (f := 93) (hf := Tryz.call93)); (· (cbv; try rfl)); (· intro wc hbc hxc; exact h2 wc))
    | ((with_reducible apply go_call (f := 77) (hf := Tryz.call77)); (· (cbv; try rfl)); (· intro wc hbc hxc; exact h3 wc hbc))
    | ((with_reducible apply go_row 5 1); (· (cbv; try rfl)))
    | ((with_reducible refine go_loopk (σ := {k : Nat // k ≤ jn b}) [15, 16, 17, 18, 19, 20, 21, 22, 23, 24, 25, 26, 27, 28, 29, 30, 31, 32, 33, 34, 35] (fun x => [(7, .pt (.one (.int .i64 (.ofNat x.1))))]) (fun x => []) (fun x => [(0, ⟨ln_ (X x.1), 1, fun j => [.int .i64 (gt_ (X x.1) j)]⟩)]) (fun x => jn b - x.1) ⟨0, by omega⟩ ?_ ?_ ?_ ?_); (· (refine le_mk ?_ ?_ ?_ ?_ <;> (cbv; (try simp only [true_and, and_true]); (try ((repeat' apply And.intro) <;> (first | trivial | rfl | exact RowLe.rfl' _ | (rw [wrap_nat har _ (by omega)]) | ((refine rowLe_of (by rw [x0, hln]; rfl) (fun j hj => absurd hj (Nat.not_lt_zero _)))) | ((exact hk2 k (of_decide_eq_false (by assumption)))) | ((rw [x1 k (of_decide_eq_true (by assumption))]; exact RowLe.rfl' _)) | ((rw [hRE, hE]; (first | rw [e1t (by assumption) (by assumption) (by assumption)] | rw [e1f (by first | exact .inl (by assumption) | exact .inr (.inl (by assumption)) | exact .inr (.inr (by assumption)))]); (first | rw [e2t (by assumption) (by assumption)] | rw [e2f (by first | exact .inl (by assumption) | exact .inr (by assumption))]); (first | rw [e3t (by assumption) (by assumption)] | rw [e3f (by first | exact .inl (by assumption) | exact .inr (by assumption))]); simp only [List.nil_append, List.append_nil, ← List.append_assoc]; first | exact b0 hk (by assumption) | exact ap (b0 hk (by assumption)) | exact ap (ap (b0 hk (by assumption))) | exact ap (ap (ap (b0 hk (by assumption)))))))))))); (· (cbv; try rfl)); (· simp); (rintro ⟨k, hk⟩ mm hmm))
    | ((with_reducible refine go_stop (⟨k + 1, by omega⟩ : {k : Nat // k ≤ jn b}) ?_ ?_ ?_ ?_); (· exact Nat.lt_of_lt_of_eq (show jn b - (k + 1) < jn b - k from by omega) (Eq.symm (by assumption))); (· (refine le_mk ?_ ?_ ?_ ?_ <;> (cbv; (try simp only [true_and, and_true]); (try ((repeat' apply And.intro) <;> (first | trivial | rfl | exact RowLe.rfl' _ | (rw [wrap_nat har _ (by omega)]) | ((refine rowLe_of (by rw [x0, hln]; rfl) (fun j hj => absurd hj (Nat.not_lt_zero _)))) | ((exact hk2 k (of_decide_eq_false (by assumption)))) | ((rw [x1 k (of_decide_eq_true (by assumption))]; exact RowLe.rfl' _)) | ((rw [hRE, hE]; (first | rw [e1t (by assumption) (by assumption) (by assumption)] | rw [e1f (by first | exact .inl (by assumption) | exact .inr (.inl (by assumption)) | exact .inr (.inr (by assumption)))]); (first | rw [e2t (by assumption) (by assumption)] | rw [e2f (by first | exact .inl (by assumption) | exact .inr (by assumption))]); (first | rw [e3t (by assumption) (by assumption)] | rw [e3f (by first | exact .inl (by assumption) | exact .inr (by assumption))]); simp only [List.nil_append, List.append_nil, ← List.append_assoc]; first | exact b0 hk (by assumption) | exact ap (b0 hk (by assumption)) | exact ap (ap (b0 hk (by assumption))) | exact ap (ap (ap (b0 hk (by assumption)))))))))))); (· (cbv; try rfl)); (· simp))
    )
  all_goals trace_state

set_option maxRecDepth 100000 in
set_option maxHeartbeats 4000000 in
theorem rMovesC (F : GFun) (w : World) (hF : F.At w) (hO : F.Ok) (n : Nat) (hn : n < stN F.sn F.bn) (x : Int) :
    Calls Tryz.prog 30 #[F.val, .int .i64 (.ofNat n), .int .i64 x] w (Ret w (.int .i64 (.ofNat (mvN (opG F n) x (opN F n))))) := by
  have h8 := opN_le hO hn
  by_cases h : isAt F n = true ∨ F.jk (pbN F n) = 2
  · exact rMovesA F w hF n (opN F n) (opG F n) h8 (fun wc hk => (rOpsN F wc (hF.later hk) hO n hn).1 h) x
  · obtain ⟨e1, e2⟩ := opN_B h
    rw [e1, e2]
    rw [e1] at h8
    exact rMovesB F w hF n (pbN F n) h8 (fun wc hk => (rOpsN F wc (hF.later hk) hO n hn).2 h) x

set_option maxRecDepth 100000 in
set_option maxHeartbeats 4000000 in
theorem rReadsC (F : GFun) (w : World) (hF : F.At w) (hO : F.Ok) (n : Nat) (hn : n < stN F.sn F.bn) :
    Calls Tryz.prog 58 #[F.val, .int .i64 (.ofNat n)] w (RetR w (funX F) (.pt (.one (.rs 0))) [intR (rdO (opG F n) (opN F n) ++ rdT F n)]) := by
  have h8 := opN_le hO hn
  by_cases h : isAt F n = true ∨ F.jk (pbN F n) = 2
  · exact rReadsA F w hF hO n hn (opN F n) (opG F n) h8 (fun wc hk => (rOpsN F wc (hF.later hk) hO n hn).1 h)
  · obtain ⟨e1, e2⟩ := opN_B h
    rw [e1, e2]
    rw [e1] at h8
    exact rReadsB F w hF hO n hn (pbN F n) h8 (fun wc hk => (rOpsN F wc (hF.later hk) hO n hn).2 h)

set_option maxRecDepth 100000 in
set_option maxHeartbeats 4000000 in
theorem rUnsetsC (F : GFun) (w : World) (hF : F.At w) (hO : F.Ok) (n : Nat) (hn : n < stN F.sn F.bn) (x : Int) :
    Calls Tryz.prog 61 #[F.val, .int .i64 (.ofNat n), .int .i64 x] w (Ret w (.bool (!(tgW F n && wholeP (tgP F n) && decide ((tgP F n).l = x)) && (decide (0 < mvN (opG F n) x (opN F n)) || (isAt F n && decide ((stAt F n).k = 3) && decide ((stAt F n).l = x)))))) := by
  have hS0 (wc : World) (hk : KB ⟨w, []⟩ wc) := stmtN F wc (hF.later hk) hO.small n hn
  have h1 (wc : World) (hk : KB ⟨w, []⟩ wc) := rSetsC F wc (hF.later hk) hO n hn x
  have h2 (wc : World) (hk : KB ⟨w, []⟩ wc) := rMovesC F wc (hF.later hk) hO n hn x
  generalize (tgW F n && wholeP (tgP F n) && decide ((tgP F n).l = x)) = z1 at h1 ⊢
  generalize mvN (opG F n) x (opN F n) = mv at h2 ⊢
  obtain ⟨s, hs'⟩ : ∃ s, s = stAt F n := ⟨_, rfl⟩
  obtain ⟨ia, hi'⟩ : ∃ s, s = isAt F n := ⟨_, rfl⟩
  rw [← hs', ← hi'] at hS0 ⊢
  have hS (wc : World) (hk : KB ⟨w, []⟩ wc) : Calls Tryz.prog 74 #[F.val, .int .i64 (.ofNat n)] wc (Ret wc (.tuple #[s.val, .bool ia])) := hS0 wc hk
  clear hS0 hs' hi' hn hO
  obtain ⟨yk, ⟨ql, qd, qf⟩, ⟨rk, ro, rb, ⟨ak, an, ⟨al, ad, af⟩⟩, ⟨ek, en, ⟨el, ed, ef⟩⟩, ⟨gl, gd, gf⟩⟩, ⟨ck, cn, ⟨cl, cd, cf⟩⟩, yl⟩ := s
  obtain ⟨pa, un, lA, ln, lc, lk, lt, bA, bn, bc, sA, sn, sc, s, jA, jn, jc, ja, jk, jo, jf, jx, je, jd⟩ := F
  obtain ⟨hX, hl, hb, hs, hj⟩ := hF
  simp only at hl hb hs hj
  try simp only at hS
  refine go_start (args := [.pt (.agg (GFun.dat ⟨pa, un, lA, ln, lc, lk, lt, bA, bn, bc, sA, sn, sc, s, jA, jn, jc, ja, jk, jo, jf, jx, je, jd⟩)), .pt (.one (.int .i64 (.ofNat n))), .pt (.one (.int .i64 x))]) (c := (funX ⟨pa, un, lA, ln, lc, lk, lt, bA, bn, bc, sA, sn, sc, s, jA, jn, jc, ja, jk, jo, jf, jx, je, jd⟩)) Tryz.func61 rfl hX rfl rfl ?_
  obtain ⟨nd, hnd⟩ : ∃ f : Bool → Bool → Bool, f = and := ⟨_, rfl⟩
  obtain ⟨nt, hnt⟩ : ∃ f : Bool → Bool, f = not := ⟨_, rfl⟩
  obtain ⟨ar, har⟩ : ∃ f : BinOp → IntKind → Int → Int → Int, f = rAr := ⟨_, rfl⟩
  obtain ⟨cm, hcm⟩ : ∃ f : BinOp → Int → Int → Bool, f = rCm := ⟨_, rfl⟩
  obtain ⟨mx, hmx⟩ : ∃ f : Int → Int → Int, f = rMx := ⟨_, rfl⟩
  obtain ⟨mn, hmn⟩ : ∃ f : Int → Int → Int, f = rMn := ⟨_, rfl⟩
  have ar01 : ar .add .i64 0 1 = 1 := by rw [har]; decide
  have ar12 : ar .add .i64 1 1 = 2 := by rw [har]; decide
  obtain ⟨zpl, hzpl⟩ : ∃ f : Nat → Nat → Nat, f = fun x y => x + y := ⟨_, rfl⟩
  obtain ⟨zjn, hzjn⟩ : ∃ f : Nat → (Nat → List SC) → (Nat → List SC) → Nat → List SC, f = rJn := ⟨_, rfl⟩
  obtain ⟨zup, hzup⟩ : ∃ f : (Nat → List SC) → Nat → Nat → List SC → Nat → List SC, f = rUp := ⟨_, rfl⟩
  obtain ⟨zmi, hzmi⟩ : ∃ f : Nat → Nat → Nat, f = fun x y => x - y := ⟨_, rfl⟩
  obtain ⟨zdp, hzdp⟩ : ∃ f : Nat → (Nat → List SC) → Nat → List SC, f = rDp := ⟨_, rfl⟩
  have hT := T0_ok hnd hnt har hcm hmx hmn hzpl hzjn hzup hzmi hzdp
  have hgt : cm .gtr (.ofNat mv) 0 = decide (0 < mv) := by
    rw [hcm]
    show decide ((0 : Int) < (mv : Int)) = _
    rw [Bool.eq_iff_iff]; simp
  repeat' (first
    | ((with_reducible apply go_ev hT 400); (· (cbv; try rfl)); (fail_if_success with_reducible apply stuck_id))
    | (with_reducible refine go_brn hnt (fun h => ?_) (fun h => ?_))
    | (with_reducible refine go_br (fun h => ?_) (fun h => ?_))
    | ((with_reducible apply go_ret_val hT); (· (cbv; try rfl)); (· (cbv; try rfl)))
    | ((with_reducible apply go_call (f := 74) (hf := Tryz.call74)); (· (cbv; try rfl)); (· intro wc hbc hxc; exact hS wc hbc))
    | ((with_reducible apply go_call (f := 60) (hf := Tryz.call60)); (· (cbv; try rfl)); (· intro wc hbc hxc; exact h1 wc hbc))
    | ((with_reducible apply go_call (f := 30) (hf := Tryz.call30)); (· (cbv; try rfl)); (· intro wc hbc hxc; exact h2 wc hbc))
    )
  all_goals
    refine bool_eq ?_
    simp_all

end Go.Proofs.YtbljhhkjjlgnmaaGreat
