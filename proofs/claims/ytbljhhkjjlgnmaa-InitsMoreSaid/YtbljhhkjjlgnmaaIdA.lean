/- Layer 15: the deeds of a point, by the program: operands. No condition. -/
import Derived.Test.YtbljhhkjjlgnmaaPtA
namespace Go.Proofs.Ytbljhhkjjlgnmaa
open Go.RowKit
set_option linter.unusedVariables false
set_option linter.unusedSimpArgs false

structure GDeed where
  l : Int
  rd : Bool
  st : Bool
  un : Bool
def GDeed.zero : GDeed := ⟨0, false, false, false⟩
def GDeed.sc (d : GDeed) : List SC := [.int .i64 d.l, .bool d.rd, .bool d.st, .bool d.un]
/-! Lists of deeds. -/
def deR (L : List GDeed) : ORow := ⟨L.length, 4, fun j => (L.getD j .zero).sc⟩
theorem dePlain (L : List GDeed) : plainR [deR L] := ⟨fun _ _ => rfl, trivial⟩
theorem deLe_nil : NilLe (deR []) := ⟨rfl⟩
theorem deLe_one {cs : List SC} {t : GDeed} {L : List GDeed} (e : L = [t]) (h : leCL (cutL cs (0 + 0 * 4) 4) t.sc) : RowLe ⟨1, 4, fun j => cutL cs (0 + j * 4) 4⟩ (deR L) := by
  subst e
  refine ⟨rfl, rfl, fun j hj => ?_⟩
  have hj : j < 1 := hj
  obtain rfl : j = 0 := by omega
  exact h
theorem deLe_app {pl : Nat → Nat → Nat} {jn : Nat → (Nat → List SC) → (Nat → List SC) → Nat → List SC} (hpl : pl = fun x y => x + y) (hjn : jn = rJn) {n : Nat} {el : Nat → List SC} {L M : List GDeed} {t : GDeed} {cs : List SC} (h : RowLe ⟨n, 4, el⟩ (deR L)) (e : M = L ++ [t]) (hc : leCL (cutL cs (0 + 0 * 4) 4) t.sc) : RowLe ⟨pl n 1, 4, jn n el (fun j => cutL cs (0 + j * 4) 4)⟩ (deR M) := by
  subst e
  have hn : n = L.length := h.n
  refine rowLe_snoc hpl hjn (by rw [List.length_append, ← hn]; rfl) (fun j hj => ?_) ?_
  · have := h.el j hj
    simp only [deR] at this
    rw [show (L ++ [t]).getD j .zero = L.getD j .zero by simp [List.getD, List.getElem?_append_left (show j < L.length by omega)]]
    exact this
  · rw [hn, show (L ++ [t]).getD L.length .zero = t by simp [List.getD]]
    exact hc
theorem deLe_blk {cs : List SC} {t : GDeed} {L : List GDeed} (e : L = [t]) (hl : decide (4 ≤ cs.length) = true) (hf : freeL cs = true) (hs : solidL cs = true) (h : leCL (cutL cs (0 * 4) 4) t.sc) : BlkLe cs 1 1 (deR L) := by
  subst e
  refine ⟨rfl, Nat.le_refl _, by decide, of_decide_eq_true hl, hf, hs, fun j hj => ?_⟩
  have hj : j < 1 := hj
  obtain rfl : j = 0 := by omega
  exact h
section
variable {pl : Nat → Nat → Nat} {jn : Nat → (Nat → List SC) → (Nat → List SC) → Nat → List SC}
theorem deLe1 {c1 : List SC} {t1 : GDeed} (h1 : leCL (cutL c1 (0 + 0 * 4) 4) t1.sc) : RowLe ⟨1, 4, fun j => cutL c1 (0 + j * 4) 4⟩ (deR [t1]) := deLe_one rfl h1
theorem deLe2 (hpl : pl = fun x y => x + y) (hjn : jn = rJn) {c1 c2 : List SC} {t1 t2 : GDeed} (h1 : leCL (cutL c1 (0 + 0 * 4) 4) t1.sc) (h2 : leCL (cutL c2 (0 + 0 * 4) 4) t2.sc) : RowLe ⟨pl 1 1, 4, jn 1 (fun j => cutL c1 (0 + j * 4) 4) (fun j => cutL c2 (0 + j * 4) 4)⟩ (deR [t1, t2]) :=
  deLe_app hpl hjn (deLe1 h1) rfl h2
theorem deLe3 (hpl : pl = fun x y => x + y) (hjn : jn = rJn) {c1 c2 c3 : List SC} {t1 t2 t3 : GDeed} (h1 : leCL (cutL c1 (0 + 0 * 4) 4) t1.sc) (h2 : leCL (cutL c2 (0 + 0 * 4) 4) t2.sc) (h3 : leCL (cutL c3 (0 + 0 * 4) 4) t3.sc) : RowLe ⟨pl (pl 1 1) 1, 4, jn (pl 1 1) (jn 1 (fun j => cutL c1 (0 + j * 4) 4) (fun j => cutL c2 (0 + j * 4) 4)) (fun j => cutL c3 (0 + j * 4) 4)⟩ (deR [t1, t2, t3]) :=
  deLe_app hpl hjn (deLe2 hpl hjn h1 h2) rfl h3
end

/-! What the deeds are. -/
def opD (o : GOper) : List GDeed := if o.k = 1 then [] else [⟨o.p.l, true, false, decide (o.k = 3)⟩]
def opsD (g : Nat → GOper) : Nat → List GDeed
  | 0 => []
  | i + 1 => opsD g i ++ opD (g i)
def rvD (r : GRv) : List GDeed := if r.k = 1 then opD r.a else if r.k = 2 ∨ r.k = 3 then opD r.a ++ opD r.b else [⟨r.p.l, true, false, false⟩]
def wrD (p : GPlace) : GDeed := ⟨p.l, !wholeP p, wholeP p, false⟩
def stD (s : GStmt) : List GDeed := if s.k = 3 then [⟨s.l, false, false, true⟩] else if s.k = 1 then rvD s.r ++ [wrD s.p] else opD s.a
def jmD (F : GFun) (b : Nat) : List GDeed := if F.jk b = 2 then opD (F.jo b) else if F.jk b = 3 then [⟨0, true, false, false⟩] else if F.jk b = 4 then opsD (F.ja b) (F.jn b) ++ [wrD (F.jd b)] else []
theorem opD_len (o : GOper) : (opD o).length ≤ 1 := by unfold opD; split <;> simp
theorem opsD_len (g : Nat → GOper) : ∀ n, (opsD g n).length ≤ n
  | 0 => Nat.le_refl _
  | n + 1 => by
    have := opsD_len g n
    have h2 := opD_len (g n)
    simp only [opsD, List.length_append]; omega
/-- The deeds of a point. -/
def ptD (F : GFun) (b i : Nat) : List GDeed := if i < F.sn b then stD (F.s b i) else jmD F b

theorem leDeed {l : Int} {a b c : Bool} {x y z : SC} (h : leCell x (.bool a)) (h2 : leCell y (.bool b)) (h3 : leCell z (.bool c)) : leCL [.int .i64 l, x, y, z] (GDeed.sc ⟨l, a, b, c⟩) := ⟨⟨rfl, rfl⟩, h, h2, h3, trivial⟩

set_option maxRecDepth 100000 in
set_option maxHeartbeats 4000000 in
theorem argsD (F : GFun) (w : World) (hF : F.At w) (b : Nat) (hn8 : F.jn b ≤ 8) :
    Calls Try.prog 66 #[.slice (F.jA b) (F.jn b) (F.jc b)] w (RetR w (funX F) (.pt (.one (.rs 0))) [deR (opsD (F.ja b) (F.jn b))]) := by
  obtain ⟨X, hX'⟩ : ∃ f : Nat → List GDeed, f = opsD (F.ja b) := ⟨_, rfl⟩
  have x0 : X 0 = [] := by rw [hX']; rfl
  have x1 : ∀ i, (F.ja b i).k = 1 → X (i + 1) = X i := fun i h => by rw [hX']; simp only [opsD, opD, if_pos h, List.append_nil]
  have x2 : ∀ i, (F.ja b i).k ≠ 1 → X (i + 1) = X i ++ [⟨(F.ja b i).p.l, true, false, decide ((F.ja b i).k = 3)⟩] := fun i h => by rw [hX']; simp only [opsD, opD, if_neg h]
  have xl : ∀ i, (X i).length ≤ i := fun i => by rw [hX']; exact opsD_len _ i
  rw [← hX']
  obtain ⟨ln_, hln⟩ : ∃ f : List GDeed → Nat, f = List.length := ⟨_, rfl⟩
  obtain ⟨tc, htc⟩ : ∃ f : List GDeed → Nat → GDeed, f = fun L j => L.getD j .zero := ⟨_, rfl⟩
  have hRX : ∀ L, deR L = ⟨ln_ L, 4, fun j => (tc L j).sc⟩ := fun L => by rw [deR, hln, htc]
  clear hX'
  rw [hRX]
  have xl2 : ∀ i, ln_ (X i) ≤ i := fun i => by rw [hln]; exact xl i
  obtain ⟨pa, un, lA, ln, lc, lk, lt, bA, bn, bc, sA, sn, sc, s, jA, jn, jc, ja, jk, jo, jf, jx, je, jd⟩ := F
  obtain ⟨hX, hl, hb, hs, hj⟩ := hF
  simp only at hl hb hs hj
  simp only at hn8 x1 x2
  refine go_start (args := [.pt (.one (.xs 3 b))]) (c := (funX ⟨pa, un, lA, ln, lc, lk, lt, bA, bn, bc, sA, sn, sc, s, jA, jn, jc, ja, jk, jo, jf, jx, je, jd⟩)) Try.func66 rfl hX rfl rfl ?_
  obtain ⟨nd, hnd⟩ : ∃ f : Bool → Bool → Bool, f = and := ⟨_, rfl⟩
  obtain ⟨nt, hnt⟩ : ∃ f : Bool → Bool, f = not := ⟨_, rfl⟩
  obtain ⟨ar, har⟩ : ∃ f : BinOp → IntKind → Int → Int → Int, f = rAr := ⟨_, rfl⟩
  obtain ⟨cm, hcm⟩ : ∃ f : BinOp → Int → Int → Bool, f = rCm := ⟨_, rfl⟩
  obtain ⟨mx, hmx⟩ : ∃ f : Int → Int → Int, f = rMx := ⟨_, rfl⟩
  obtain ⟨mn, hmn⟩ : ∃ f : Int → Int → Int, f = rMn := ⟨_, rfl⟩
  have ar01 : ar .add .i64 0 1 = 1 := by rw [har]; decide
  have ar12 : ar .add .i64 1 1 = 2 := by rw [har]; decide
  obtain ⟨zpl, hzpl⟩ : ∃ f : Nat → Nat → Nat, f = fun x y => x + y := ⟨_, rfl⟩
  obtain ⟨zjn, hzjn⟩ : ∃ f : Nat → (Nat → List SC) → (Nat → List SC) → Nat → List SC, f = rJn := ⟨_, rfl⟩
  obtain ⟨zup, hzup⟩ : ∃ f : (Nat → List SC) → Nat → Nat → List SC → Nat → List SC, f = rUp := ⟨_, rfl⟩
  obtain ⟨zmi, hzmi⟩ : ∃ f : Nat → Nat → Nat, f = fun x y => x - y := ⟨_, rfl⟩
  obtain ⟨zdp, hzdp⟩ : ∃ f : Nat → (Nat → List SC) → Nat → List SC, f = rDp := ⟨_, rfl⟩
  have hT := T0_ok hnd hnt har hcm hmx hmn hzpl hzjn hzup hzmi hzdp
  have hk2 : ∀ i c, (ja b i).k ≠ 1 → leCell c (.bool (decide ((ja b i).k = 3))) → RowLe ⟨zpl (ln_ (X i)) 1, 4, zjn (ln_ (X i)) (fun j => (tc (X i) j).sc) (fun j => cutL [.int .i64 (ja b i).p.l, .lit true, .lit false, c] (0 + j * 4) 4)⟩ ⟨ln_ (X (i + 1)), 4, fun j => (tc (X (i + 1)) j).sc⟩ := fun i c h hc => by
    rw [← hRX]
    refine deLe_app hzpl hzjn (L := X i) (by rw [hRX]; exact RowLe.rfl' _) (x2 i h) ?_
    exact leDeed (leLit _) (leLit _) hc
  repeat' (first
    | ((with_reducible apply go_ev hT 400); (· (cbv; try rfl)); (fail_if_success with_reducible apply stuck_id))
    | (with_reducible refine go_brn hnt (fun h => ?_) (fun h => ?_))
    | (with_reducible refine go_brl hcm (fun hlt => ?_) (fun hge => ?_))
    | ((with_reducible refine go_need ?_ ?_ ?_); (· first | omega | (simp only [Int.ofNat_eq_natCast]; omega)); (· first | omega | (simp only [Int.ofNat_eq_natCast]; omega)))
    | ((with_reducible refine go_ob ?_ ?_); (· first | trivial | (refine ⟨trivial, ?_⟩; omega) | (rw [hzpl]; refine ⟨trivial, ?_⟩; show _ + _ ≤ 1073741824; omega) | (rw [hzpl]; show _ + _ ≤ 1073741824; omega) | ((rw [hzpl]; exact Nat.le_trans (Nat.add_le_add_right (xl2 i) 1) (show i + 1 ≤ 1073741824 from by omega)))))
    | ((with_reducible apply go_ret_rows hT); (· (cbv; try rfl)); (· (cbv; try rfl)); (· (cbv; (try simp only [true_and, and_true]); (try ((repeat' apply And.intro) <;> (first | trivial | rfl | decide  | ((refine rowLe_of (by rw [x0, hln]; rfl) (fun j hj => absurd hj (Nat.not_lt_zero _)))) | ((exact hk2 i _ (of_decide_eq_false (by assumption)) rfl)) | ((rw [x1 i (of_decide_eq_true (by assumption))]; exact RowLe.rfl' _)) | ((have haN : i = jn b := (by omega); subst haN; exact RowLe.rfl' _))))))); (· (cbv; (try simp only [true_and, and_true]); (try ((repeat' apply And.intro) <;> (first | trivial | rfl | exact RowLe.rfl' _  | ((refine rowLe_of (by rw [x0, hln]; rfl) (fun j hj => absurd hj (Nat.not_lt_zero _)))) | ((exact hk2 i _ (of_decide_eq_false (by assumption)) rfl)) | ((rw [x1 i (of_decide_eq_true (by assumption))]; exact RowLe.rfl' _)) | ((have haN : i = jn b := (by omega); subst haN; exact RowLe.rfl' _))))))); (· rfl))
    | ((with_reducible apply go_row 3 4); (· (cbv; try rfl)))
    | ((with_reducible refine go_loopk (σ := {i : Nat // i ≤ jn b}) [5, 9, 10, 11, 12, 13, 14, 15, 16, 17, 18, 19, 20, 21, 22, 23, 24, 25] (fun x => [(8, .pt (.one (.int .i64 (.ofNat x.1))))]) (fun x => []) (fun x => [(0, ⟨ln_ (X x.1), 4, fun j => (tc (X x.1) j).sc⟩)]) (fun x => jn b - x.1) ⟨0, by omega⟩ ?_ ?_ ?_ ?_); (· (refine le_mk ?_ ?_ ?_ ?_ <;> (cbv; (try simp only [true_and, and_true]); (try ((repeat' apply And.intro) <;> (first | trivial | rfl | exact RowLe.rfl' _ | (rw [wrap_nat har _ (by omega)]) | ((refine rowLe_of (by rw [x0, hln]; rfl) (fun j hj => absurd hj (Nat.not_lt_zero _)))) | ((exact hk2 i _ (of_decide_eq_false (by assumption)) rfl)) | ((rw [x1 i (of_decide_eq_true (by assumption))]; exact RowLe.rfl' _)) | ((have haN : i = jn b := (by omega); subst haN; exact RowLe.rfl' _)))))))); (· (cbv; try rfl)); (· simp); (rintro ⟨i, hi⟩ mm hmm))
    | ((with_reducible refine go_stop (⟨i + 1, by omega⟩ : {i : Nat // i ≤ jn b}) ?_ ?_ ?_ ?_); (· exact Nat.lt_of_lt_of_eq (show jn b - (i + 1) < jn b - i from by omega) (Eq.symm (by assumption))); (· (refine le_mk ?_ ?_ ?_ ?_ <;> (cbv; (try simp only [true_and, and_true]); (try ((repeat' apply And.intro) <;> (first | trivial | rfl | exact RowLe.rfl' _ | (rw [wrap_nat har _ (by omega)]) | ((refine rowLe_of (by rw [x0, hln]; rfl) (fun j hj => absurd hj (Nat.not_lt_zero _)))) | ((exact hk2 i _ (of_decide_eq_false (by assumption)) rfl)) | ((rw [x1 i (of_decide_eq_true (by assumption))]; exact RowLe.rfl' _)) | ((have haN : i = jn b := (by omega); subst haN; exact RowLe.rfl' _)))))))); (· (cbv; try rfl)); (· simp))
    )
  all_goals trace_state

end Go.Proofs.Ytbljhhkjjlgnmaa
