/- Texts joined: SwD SwE SwF. No condition. -/
import Derived.Test.YtbljhhkjjlgnmaaGreatN4
/- Layer 19 of the program: the constraints of a statement. No condition. -/
namespace Go.Proofs.YtbljhhkjjlgnmaaGreat
open Go.RowKit
set_option linter.unusedVariables false
set_option linter.unusedSimpArgs false

structure KCon where
  fr : Int
  to : Int
  at_ : Int
  why : Int
def KCon.zero : KCon := ⟨0, 0, 0, 0⟩
def KCon.sc (k : KCon) : List SC := [.int .i64 k.fr, .int .i64 k.to, .int .i64 k.at_, .int .u8 k.why]
/-- A list of constraints as a row. -/
def conR (L : List KCon) : ORow := ⟨L.length, 4, fun j => (L.getD j .zero).sc⟩
def isRefK (k : Int) : Bool := k == 3 || k == 4
def GPlace.whole (p : GPlace) : Bool := !p.d && p.f == 0
/-- The constraints of an assignment. -/
def ofL (lk : Nat → Int) (s : GStmt) (at_ loan : Int) : List KCon :=
  if s.p.whole then
    if s.r.k == 4 then ⟨loan, s.p.l, at_, 2⟩ :: (if s.r.p.d && isRefK (lk s.r.p.l.toNat) then [⟨s.r.p.l, s.p.l, at_, 3⟩] else [])
    else if s.r.k == 1 && s.r.a.k != 1 && s.r.a.p.whole && isRefK (lk s.r.a.p.l.toNat) && isRefK (lk s.p.l.toNat) then [⟨s.r.a.p.l, s.p.l, at_, 1⟩]
    else []
  else []



theorem wSwD_2 {p : Prop} (h : p := by (first | (cbv; (try simp only [true_and, and_true]); (try ((repeat' apply And.intro) <;> (first | trivial | rfl | exact RowLe.rfl' _ | decide | (rw [wrap_nat har _ (by omega)]) | ((clear hX hT hAt; exact ⟨by rw [hln, hL]; subst hnd hnt; simp_all⟩)) | ((clear hX hT hAt; have e : L = [⟨loan, ql, at_, 2⟩, ⟨pl, ql, at_, 3⟩] := (by subst hnd hnt; simp_all); clear hL; subst e; refine rowLe_snoc hzpl hzjn (by rw [hln]; rfl) (fun j hj => ?_) (by rw [hgt]; exact leCL_rfl _); have hj0 : j = 0 := (by omega); subst hj0; rw [hgt]; exact leCL_rfl _)) | ((clear hX hT hAt; have e : L = [⟨loan, ql, at_, 2⟩] := (by subst hnd hnt; simp_all); clear hL; subst e; refine ⟨by rw [hln]; rfl, Nat.le_refl _, by decide, Nat.le_refl _, rfl, rfl, fun j hj => ?_⟩; have hj0 : j = 0 := (by omega); subst hj0; rw [hgt]; exact leCL_rfl _)) | ((clear hX hT hAt; have e : L = [⟨al, ql, at_, 1⟩] := (by subst hnd hnt; simp_all); clear hL; subst e; refine ⟨by rw [hln]; rfl, Nat.le_refl _, by decide, Nat.le_refl _, rfl, rfl, fun j hj => ?_⟩; have hj0 : j = 0 := (by omega); subst hj0; rw [hgt]; exact leCL_rfl _)) | fail))); done) | fail)) : Pf p := ⟨h⟩

end Go.Proofs.YtbljhhkjjlgnmaaGreat

/- Layer 19 of the program: the constraints of a function, once the function is known to be right. No condition. -/
namespace Go.Proofs.YtbljhhkjjlgnmaaGreat
open Go.RowKit
set_option linter.unusedVariables false
set_option linter.unusedSimpArgs false

theorem allPts_len (sn : Nat → Nat) : ∀ n, (allPts sn n).length = stN sn n
  | 0 => rfl
  | n + 1 => by simp only [allPts, List.length_append, allPts_len sn n, blkPts, List.length_map, List.length_range, stN]; omega
theorem allPts_mem (sn : Nat → Nat) : ∀ n p, p ∈ allPts sn n → p.1 < n ∧ p.2 ≤ sn p.1
  | 0, p, h => by simp [allPts] at h
  | n + 1, p, h => by
    simp only [allPts, List.mem_append] at h
    rcases h with h | h
    · have := allPts_mem sn n p h; exact ⟨by omega, this.2⟩
    · simp only [blkPts, List.mem_map, List.mem_range] at h
      obtain ⟨i, h1, rfl⟩ := h
      exact ⟨by simp, by simp; omega⟩

set_option maxRecDepth 100000 in
set_option maxHeartbeats 4000000 in
theorem pointsC (F : GFun) (w : World) (hF : F.At w) (hS : F.Sm) (hC : ∀ w, F.At w → Calls Tryz.prog 45 #[F.val] w (Ret w (.int .i64 0))) :
    Calls Tryz.prog 46 #[F.val] w (RetR w (funX F) (.tup [.one (.rs 0), .one (.int .i64 0)]) [⟨stN F.sn F.bn, 2, fun j => [.int .i64 (.ofNat ((allPts F.sn F.bn).getD j (0, 0)).1), .int .i64 (.ofNat ((allPts F.sn F.bn).getD j (0, 0)).2)]⟩]) := by
  have h1 (wc : World) (hk : KB ⟨w, []⟩ wc) := hC wc (hF.later hk)
  have h2 (wc : World) (hk : KB ⟨w, []⟩ wc) := allC F wc (hF.later hk) hS.s hS.b
  have hR : ptR (allPts F.sn F.bn) = ⟨stN F.sn F.bn, 2, fun j => [.int .i64 (.ofNat ((allPts F.sn F.bn).getD j (0, 0)).1), .int .i64 (.ofNat ((allPts F.sn F.bn).getD j (0, 0)).2)]⟩ := by rw [ptR, allPts_len]
  rw [hR] at h2
  clear hR hC hS
  obtain ⟨N, hN⟩ : ∃ N, N = stN F.sn F.bn := ⟨_, rfl⟩
  obtain ⟨p1, hp1⟩ : ∃ f : Nat → Nat, f = fun j => ((allPts F.sn F.bn).getD j (0, 0)).1 := ⟨_, rfl⟩
  obtain ⟨p2, hp2⟩ : ∃ f : Nat → Nat, f = fun j => ((allPts F.sn F.bn).getD j (0, 0)).2 := ⟨_, rfl⟩
  have hR : (⟨stN F.sn F.bn, 2, fun j => [.int .i64 (.ofNat ((allPts F.sn F.bn).getD j (0, 0)).1), .int .i64 (.ofNat ((allPts F.sn F.bn).getD j (0, 0)).2)]⟩ : ORow) = ⟨N, 2, fun j => [.int .i64 (.ofNat (p1 j)), .int .i64 (.ofNat (p2 j))]⟩ := by rw [hN, hp1, hp2]
  rw [hR] at h2 ⊢
  clear hR hN hp1 hp2
  obtain ⟨pa, un, lA, ln, lc, lk, lt, bA, bn, bc, sA, sn, sc, s, jA, jn, jc, ja, jk, jo, jf, jx, je, jd⟩ := F
  obtain ⟨hX, hl, hb, hs, hj⟩ := hF
  simp only at hl hb hs hj
  refine go_start (args := [.pt (.agg (GFun.dat _))]) (c := (funX _)) Tryz.func46 rfl hX rfl rfl ?_
  obtain ⟨nd, hnd, nt, hnt, ar, har, cm, hcm, mx, hmx, mn, hmn, ar01, ar12, zpl, hzpl, zjn, hzjn, zup, hzup, zmi, hzmi, zdp, hzdp, hT⟩ := t0_all
  repeat' (first
    | refine go1 ?_ | refine gobn ?_ | exact go0
    | ((with_reducible apply go_call (f := 45) (hf := Tryz.call45)); (· (cbv; try rfl)); (· intro wc hbc hxc; exact h1 wc hbc))
    | ((with_reducible apply go_callR (f := 65) (hf := Tryz.call65)); (· intro S; cbv; try rfl); (· intro wc S hbc hxc hrc; exact h2 wc hbc); (· rfl))
    | fail)

/-- How many loans lie before the a-th point. -/
def loN (ln : Nat) (s : Nat → Nat → GStmt) (sn pb pi : Nat → Nat) : Nat → Nat
  | 0 => ln
  | a + 1 => loN ln s sn pb pi a + if pi a < sn (pb a) ∧ (s (pb a) (pi a)).k = 1 ∧ (s (pb a) (pi a)).r.k = 4 then 1 else 0
/-- The constraints of the first points. -/
def conL (lk : Nat → Int) (ln : Nat) (s : Nat → Nat → GStmt) (sn pb pi : Nat → Nat) : Nat → List KCon
  | 0 => []
  | a + 1 => conL lk ln s sn pb pi a ++ if pi a < sn (pb a) ∧ (s (pb a) (pi a)).k = 1 then ofL lk (s (pb a) (pi a)) (.ofNat a) (.ofNat (loN ln s sn pb pi a)) else []
def allCon (F : GFun) : List KCon := conL F.lk F.ln F.s F.sn (fun j => ((allPts F.sn F.bn).getD j (0, 0)).1) (fun j => ((allPts F.sn F.bn).getD j (0, 0)).2) (stN F.sn F.bn)
/-- Every place of the function's assignments names one of its locals. -/
def GFun.Near (F : GFun) : Prop := ∀ b i, b < F.bn → i < F.sn b → (F.s b i).k = 1 →
  (0 ≤ (F.s b i).p.l ∧ (F.s b i).p.l < F.ln) ∧ (0 ≤ (F.s b i).r.p.l ∧ (F.s b i).r.p.l < F.ln) ∧ (0 ≤ (F.s b i).r.a.p.l ∧ (F.s b i).r.a.p.l < F.ln)
theorem ofL_len (lk : Nat → Int) (s : GStmt) (a l : Int) : (ofL lk s a l).length ≤ 2 := by
  unfold ofL
  split
  · split
    · split <;> simp
    · split <;> simp
  · simp

theorem wSwE_1 {p : Prop} (h : p := by (first | (cbv; (try simp only [true_and, and_true]); (try ((repeat' apply And.intro) <;> (first | trivial | rfl | exact RowLe.rfl' _ | decide | (rw [wrap_nat har _ (by omega)]) | ((rw [l0]; done)) | ((refine rowLe_of (by rw [x0, hln]; rfl) (fun j hj => absurd hj (Nat.not_lt_zero _)))) | ((have q := ll a; rw [wrap_nat har _ (by omega), l1 a (hne a (by assumption) (by assumption)) (of_decide_eq_true (by assumption)) (of_decide_eq_true (by assumption))]; done)) | ((rw [l2 a (fun g => hnk a (by assumption) g.1)]; done)) | ((rw [l2 a (fun g => of_decide_eq_false (by assumption) g.2.1)]; done)) | ((rw [l2 a (fun g => of_decide_eq_false (by assumption) g.2.2)]; done)) | ((rw [x2 a (fun g => hnk a (by assumption) g.1)]; exact RowLe.rfl' _)) | ((rw [x2 a (fun g => of_decide_eq_false (by assumption) g.2)]; exact RowLe.rfl' _)) | ((exact hj1 a (hne a (by assumption) (by assumption)) (of_decide_eq_true (by assumption)))) | ((have haN : a = N := (by omega); subst haN; exact RowLe.rfl' _)) | fail))); done) | fail)) : Pf p := ⟨h⟩

end Go.Proofs.YtbljhhkjjlgnmaaGreat

/- Layers 15 and 19 of the reference: the statement of a point by its number; the points of loans. No condition. -/
namespace Go.Proofs.YtbljhhkjjlgnmaaGreat
open Go.RowKit
set_option linter.unusedVariables false
set_option linter.unusedSimpArgs false

/-- Block and index of the point with a number. -/
def pbN (F : GFun) (n : Nat) : Nat := ((allPts F.sn F.bn).getD n (0, 0)).1
def piN (F : GFun) (n : Nat) : Nat := ((allPts F.sn F.bn).getD n (0, 0)).2
theorem allPts_num (sn : Nat → Nat) : ∀ bn n, n < stN sn bn → n = stN sn ((allPts sn bn).getD n (0, 0)).1 + ((allPts sn bn).getD n (0, 0)).2
  | 0, n, h => by simp [stN] at h
  | bn + 1, n, h => by
    have hl := allPts_len sn bn
    simp only [stN] at h
    by_cases g : n < stN sn bn
    · have := allPts_num sn bn n g
      have e : (allPts sn (bn + 1)).getD n (0, 0) = (allPts sn bn).getD n (0, 0) := by
        simp only [allPts, List.getD]
        rw [List.getElem?_append_left (by omega)]
      rw [e]; exact this
    · have e : (allPts sn (bn + 1)).getD n (0, 0) = (bn, n - stN sn bn) := by
        simp only [allPts, List.getD]
        rw [List.getElem?_append_right (by omega), hl]
        simp only [blkPts, List.getElem?_map]
        rw [List.getElem?_range (by omega)]
        rfl
      rw [e]; simp only; omega
theorem num_pt {F : GFun} {n : Nat} (h : n < stN F.sn F.bn) : pbN F n < F.bn ∧ piN F n ≤ F.sn (pbN F n) ∧ n = stN F.sn (pbN F n) + piN F n := by
  have hl : n < (allPts F.sn F.bn).length := by rw [allPts_len]; exact h
  have hm := allPts_mem F.sn F.bn ((allPts F.sn F.bn).getD n (0, 0)) (by
    simp only [List.getD, List.getElem?_eq_getElem hl, Option.getD_some]
    exact List.getElem_mem hl)
  exact ⟨hm.1, hm.2, allPts_num F.sn F.bn n h⟩
/-- The statement of a point, and whether there is one. -/
def isAt (F : GFun) (n : Nat) : Bool := decide (piN F n < F.sn (pbN F n))
def stAt (F : GFun) (n : Nat) : GStmt := if piN F n < F.sn (pbN F n) then F.s (pbN F n) (piN F n) else .zero
theorem stmtN (F : GFun) (w : World) (hF : F.At w) (hS : F.Sm) (n : Nat) (hn : n < stN F.sn F.bn) :
    Calls Tryz.prog 74 #[F.val, .int .i64 (.ofNat n)] w (Ret w (.tuple #[(stAt F n).val, .bool (isAt F n)])) := by
  obtain ⟨h1, h2, h3⟩ := num_pt hn
  by_cases g : piN F n < F.sn (pbN F n)
  · have := stmtC F w hF hS (pbN F n) (piN F n) h1 g
    rw [← h3] at this
    simp only [stAt, isAt, if_pos g, decide_eq_true g]
    exact this
  · have e : piN F n = F.sn (pbN F n) := by omega
    have := stmtC_end F w hF hS (pbN F n) h1
    rw [← e, ← h3] at this
    simp only [stAt, isAt, if_neg g, decide_eq_false g]
    exact this

/-- The points with a borrow, among the first n. -/
def loanPts (F : GFun) : Nat → List Nat
  | 0 => []
  | n + 1 => loanPts F n ++ if isAt F n = true ∧ (stAt F n).k = 1 ∧ (stAt F n).r.k = 4 then [n] else []
theorem loanPts_len (F : GFun) : ∀ n, (loanPts F n).length ≤ n
  | 0 => Nat.le_refl _
  | n + 1 => by
    have := loanPts_len F n
    simp only [loanPts, List.length_append]
    split <;> simp <;> omega

theorem wSwF_0 {p : Prop} (h : p := by (first | (cbv; (try simp only [true_and, and_true]); (try ((repeat' apply And.intro) <;> (first | trivial | rfl | exact RowLe.rfl' _ | decide | (rw [wrap_nat har _ (by omega)]) | ((refine rowLe_of (by rw [x0, hln]; rfl) (fun j hj => absurd hj (Nat.not_lt_zero _)))) | ((exact hj1 n (by assumption) (of_decide_eq_true (by assumption)) (of_decide_eq_true (by assumption)))) | ((rw [x2 n (fun g => Bool.noConfusion (g.1.symm.trans (by assumption)))]; exact RowLe.rfl' _)) | ((rw [x2 n (fun g => of_decide_eq_false (by assumption) g.2.1)]; exact RowLe.rfl' _)) | ((rw [x2 n (fun g => of_decide_eq_false (by assumption) g.2.2)]; exact RowLe.rfl' _)) | ((have haN : n = N := (by omega); subst haN; exact RowLe.rfl' _)) | fail))); done) | fail)) : Pf p := ⟨h⟩

end Go.Proofs.YtbljhhkjjlgnmaaGreat
