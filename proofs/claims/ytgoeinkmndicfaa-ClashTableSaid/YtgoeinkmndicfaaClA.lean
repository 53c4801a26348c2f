/- Layer 23: the accesses of a point, by the program. No condition. -/
import Derived.Test.YtgoeinkmndicfaaClB
import Derived.Test.YtgoeinkmndicfaaN6
namespace Go.Proofs.Ytgoeinkmndicfaa
open Go.RowKit
set_option linter.unusedVariables false
set_option linter.unusedSimpArgs false

/-! Lists of accesses. -/
def touR (L : List GTouch) : ORow := ⟨L.length, 5, fun j => (L.getD j .zero).sc⟩
theorem touPlain (L : List GTouch) : plainR [touR L] := ⟨fun _ _ => rfl, trivial⟩
theorem touLe_nil : NilLe (touR []) := ⟨rfl⟩
theorem touLe_one {cs : List SC} {t : GTouch} {L : List GTouch} (e : L = [t]) (h : leCL (cutL cs (0 + 0 * 5) 5) t.sc) : RowLe ⟨1, 5, fun j => cutL cs (0 + j * 5) 5⟩ (touR L) := by
  subst e
  refine ⟨rfl, rfl, fun j hj => ?_⟩
  have hj : j < 1 := hj
  obtain rfl : j = 0 := by omega
  exact h
theorem touLe_app {pl : Nat → Nat → Nat} {jn : Nat → (Nat → List SC) → (Nat → List SC) → Nat → List SC} (hpl : pl = fun x y => x + y) (hjn : jn = rJn) {n : Nat} {el : Nat → List SC} {L M : List GTouch} {t : GTouch} {cs : List SC} (h : RowLe ⟨n, 5, el⟩ (touR L)) (e : M = L ++ [t]) (hc : leCL (cutL cs (0 + 0 * 5) 5) t.sc) : RowLe ⟨pl n 1, 5, jn n el (fun j => cutL cs (0 + j * 5) 5)⟩ (touR M) := by
  subst e
  have hn : n = L.length := h.n
  refine rowLe_snoc hpl hjn (by rw [List.length_append, ← hn]; rfl) (fun j hj => ?_) ?_
  · have := h.el j hj
    simp only [touR] at this
    rw [show (L ++ [t]).getD j .zero = L.getD j .zero by simp [List.getD, List.getElem?_append_left (show j < L.length by omega)]]
    exact this
  · rw [hn, show (L ++ [t]).getD L.length .zero = t by simp [List.getD]]
    exact hc
theorem touLe_blk {cs : List SC} {t : GTouch} {L : List GTouch} (e : L = [t]) (hl : decide (5 ≤ cs.length) = true) (hf : freeL cs = true) (hs : solidL cs = true) (h : leCL (cutL cs (0 * 5) 5) t.sc) : BlkLe cs 1 1 (touR L) := by
  subst e
  refine ⟨rfl, Nat.le_refl _, by decide, of_decide_eq_true hl, hf, hs, fun j hj => ?_⟩
  have hj : j < 1 := hj
  obtain rfl : j = 0 := by omega
  exact h

/-! What the accesses are. -/
def ptrB (F : GFun) (l : Int) : Bool := decide (3 ≤ F.lk l.toNat)
def deepB (F : GFun) (p : GPlace) : Bool := !(wholeP p && ptrB F p.l)
def opT (F : GFun) (o : GOper) : List GTouch := if o.k = 2 then [⟨o.p, false, deepB F o.p⟩] else if o.k = 3 then [⟨o.p, true, true⟩] else []
def opsT (F : GFun) (g : Nat → GOper) : Nat → List GTouch
  | 0 => []
  | i + 1 => opsT F g i ++ opT F (g i)
def rvT (F : GFun) (r : GRv) : List GTouch := if r.k = 1 then opT F r.a else if r.k = 2 ∨ r.k = 3 then opT F r.a ++ opT F r.b else [⟨r.p, decide (r.k = 5) || decide (r.bo = 2), true⟩]
def stT (F : GFun) (s : GStmt) : List GTouch := if s.k = 3 then [⟨⟨s.l, false, 0⟩, true, false⟩] else if s.k = 1 then rvT F s.r ++ [⟨s.p, true, false⟩] else opT F s.a
def jmT (F : GFun) (b : Nat) : List GTouch := if F.jk b = 2 then opT F (F.jo b) else if F.jk b = 3 then [⟨.zero, false, true⟩] else if F.jk b = 4 then opsT F (F.ja b) (F.jn b) ++ [⟨F.jd b, true, false⟩] else []
theorem opsT_len (F : GFun) (g : Nat → GOper) : ∀ n, (opsT F g n).length ≤ n
  | 0 => Nat.le_refl _
  | n + 1 => by
    have := opsT_len F g n
    have h2 : (opT F (g n)).length ≤ 1 := by
      unfold opT; split
      · simp
      · split <;> simp
    simp only [opsT, List.length_append]; omega
/-- A place of an operand that is read is of a local. -/
def opIn (n : Nat) (o : GOper) : Prop := o.k = 1 ∨ (o.k = 2 ∨ o.k = 3) ∧ 0 ≤ o.p.l ∧ o.p.l < n
theorem opIn_of {n : Nat} {may : Bool} {o : GOper} (ho : o.ok = true) (h : ∀ q ∈ opPl may o, 0 ≤ q.1.l ∧ q.1.l < (n : Int)) : opIn n o := by
  by_cases g : o.k = 1
  · exact .inl g
  · refine .inr ⟨?_, h (o.p, _) (by unfold opPl; rw [if_neg g]; exact List.mem_singleton.2 rfl)⟩
    simp only [GOper.ok, Bool.or_eq_true, Bool.and_eq_true, beq_iff_eq] at ho
    omega
theorem opsPl_mem {g : Nat → GOper} {q : GPlace × Bool} : ∀ {n i}, i < n → q ∈ opPl true (g i) → q ∈ opsPl g n
  | n + 1, i, hi, h => by
    simp only [opsPl, List.mem_append]
    rcases Nat.lt_or_ge i n with h1 | h1
    · exact .inl (opsPl_mem h1 h)
    · obtain rfl : i = n := by omega
      exact .inr h
theorem argIn {F : GFun} (h : F.Ok) {b : Nat} (hb : b < F.bn) (hk : F.jk b = 4) {i : Nat} (hi : i < F.jn b) : opIn F.ln (F.ja b i) := by
  have h1 := h.jmIn hb
  have ho := h.okJ hb
  simp only [GJump.ok, GFun.jump, Bool.or_eq_true, Bool.and_eq_true, beq_iff_eq, argL_all, List.all_eq_true, List.mem_range] at ho
  have ho : (F.ja b i).ok = true := by
    rcases ho with ((ho | ho) | ho) | ho
    · omega
    · omega
    · omega
    · exact ho.2 i hi
  refine opIn_of (may := true) ho fun q hq => h1 q ?_
  unfold jmPlB jmPl
  rw [if_neg (by omega), if_pos hk]
  exact List.mem_cons_of_mem _ (opsPl_mem hi hq)
theorem condIn {F : GFun} (h : F.Ok) {b : Nat} (hb : b < F.bn) (hk : F.jk b = 2) : opIn F.ln (F.jo b) := by
  have h1 := h.jmIn hb
  have ho := h.okJ hb
  simp only [GJump.ok, GFun.jump, Bool.or_eq_true, Bool.and_eq_true, beq_iff_eq] at ho
  have ho : (F.jo b).ok = true := by
    rcases ho with ((ho | ho) | ho) | ho
    · omega
    · exact ho.1.1.2
    · omega
    · omega
  refine opIn_of (may := false) ho fun q hq => h1 q ?_
  unfold jmPlB jmPl
  rw [if_pos hk]
  exact hq
/-- What a statement's operands are. -/
structure StIn (n : Nat) (s : GStmt) : Prop where
  k : s.k = 1 ∨ s.k = 2 ∨ s.k = 3 ∨ s.k = 4
  r : s.k = 1 → s.r.k = 1 ∧ opIn n s.r.a ∨ (s.r.k = 2 ∨ s.r.k = 3) ∧ opIn n s.r.a ∧ opIn n s.r.b ∨ s.r.k = 4 ∨ s.r.k = 5
  a : s.k = 2 ∨ s.k = 4 → opIn n s.a
theorem st_in {F : GFun} (h : F.Ok) {b i : Nat} (hb : b < F.bn) (hi : i < F.sn b) : StIn F.ln (F.s b i) := by
  have h1 := h.stIn hb hi
  have hs := h.okS hb hi
  generalize F.s b i = s at h1 hs
  have hk : s.k = 1 ∨ s.k = 2 ∨ s.k = 3 ∨ s.k = 4 := by
    simp only [GStmt.ok, Bool.or_eq_true, Bool.and_eq_true, beq_iff_eq] at hs
    omega
  refine ⟨hk, fun g => ?_, fun g => ?_⟩
  · have hr : s.r.ok = true := by
      simp only [GStmt.ok, Bool.or_eq_true, Bool.and_eq_true, beq_iff_eq] at hs
      grind
    have mem : ∀ q, q ∈ stPl s ↔ q ∈ (if s.r.k = 4 ∨ s.r.k = 5 then [(s.p, false), (s.r.p, false)] else if s.r.k = 1 then (s.p, false) :: opPl true s.r.a else (s.p, false) :: (opPl false s.r.a ++ opPl false s.r.b)) := fun q => by
      unfold stPl
      rw [if_neg (by omega), if_neg (by omega), if_pos g]
    simp only [GRv.ok, Bool.or_eq_true, Bool.and_eq_true, beq_iff_eq] at hr
    by_cases g4 : s.r.k = 4 ∨ s.r.k = 5
    · exact .inr (.inr g4)
    by_cases g1 : s.r.k = 1
    · refine .inl ⟨g1, opIn_of (may := true) (by grind) fun q hq => h1 q ((mem q).2 ?_)⟩
      rw [if_neg g4, if_pos g1]; exact List.mem_cons_of_mem _ hq
    · refine .inr (.inl ⟨by omega, opIn_of (may := false) (by grind) fun q hq => h1 q ((mem q).2 ?_), opIn_of (may := false) (by grind) fun q hq => h1 q ((mem q).2 ?_)⟩)
      · rw [if_neg g4, if_neg g1]; exact List.mem_cons_of_mem _ (List.mem_append_left _ hq)
      · rw [if_neg g4, if_neg g1]; exact List.mem_cons_of_mem _ (List.mem_append_right _ hq)
  · refine opIn_of (may := false) ?_ fun q hq => h1 q ?_
    · simp only [GStmt.ok, Bool.or_eq_true, Bool.and_eq_true, beq_iff_eq] at hs
      grind
    · unfold stPl; rw [if_neg (by omega), if_pos g]; exact hq

theorem leLit (b : Bool) : leCell (.lit b) (.bool b) := rfl
theorem leBoo (b : Bool) : leCell (.bool b) (.bool b) := rfl
theorem leDeep {d : Bool} {c : SC} (h : leCell c (.bool d)) {p : GPlace} {w : Bool} {c2 : SC} (h2 : leCell c2 (.bool w)) : leCL [.int .i64 p.l, .bool p.d, .int .u8 p.f, c2, c] (GTouch.sc ⟨p, w, d⟩) := ⟨⟨rfl, rfl⟩, rfl, ⟨rfl, rfl⟩, h2, h, trivial⟩

set_option maxRecDepth 100000 in
set_option maxHeartbeats 4000000 in
theorem argsT (F : GFun) (w : World) (hF : F.At w) (hO : F.Ok) (b : Nat) (hb : b < F.bn) (hk : F.jk b = 4) :
    Calls Try.prog 65 #[F.val, .slice (F.jA b) (F.jn b) (F.jc b)] w (RetR w (funX F) (.pt (.one (.rs 0))) [touR (opsT F (F.ja b) (F.jn b))]) := by
  have hin : ∀ i, i < F.jn b → opIn F.ln (F.ja b i) := fun i hi => argIn hO hb hk hi
  have hn8 := hO.jn8 hb
  obtain ⟨X, hX'⟩ : ∃ f : Nat → List GTouch, f = opsT F (F.ja b) := ⟨_, rfl⟩
  have x0 : X 0 = [] := by rw [hX']; rfl
  have x2 : ∀ i, (F.ja b i).k = 2 → X (i + 1) = X i ++ [⟨(F.ja b i).p, false, deepB F (F.ja b i).p⟩] := fun i h => by rw [hX']; simp only [opsT, opT, if_pos h]
  have x3 : ∀ i, (F.ja b i).k = 3 → X (i + 1) = X i ++ [⟨(F.ja b i).p, true, true⟩] := fun i h => by rw [hX']; simp only [opsT, opT, if_pos h, show ¬ (F.ja b i).k = 2 by omega, if_false]
  have x1 : ∀ i, (F.ja b i).k ≠ 2 → (F.ja b i).k ≠ 3 → X (i + 1) = X i := fun i h h' => by rw [hX']; simp only [opsT, opT, if_neg h, if_neg h', List.append_nil]
  have xl : ∀ i, (X i).length ≤ i := fun i => by rw [hX']; exact opsT_len _ _ i
  rw [← hX']
  obtain ⟨ln_, hln⟩ : ∃ f : List GTouch → Nat, f = List.length := ⟨_, rfl⟩
  obtain ⟨tc, htc⟩ : ∃ f : List GTouch → Nat → GTouch, f = fun L j => L.getD j .zero := ⟨_, rfl⟩
  have hRX : ∀ L, touR L = ⟨ln_ L, 5, fun j => (tc L j).sc⟩ := fun L => by rw [touR, hln, htc]
  have hpt : ∀ l, ptrB F l = decide (3 ≤ F.lk l.toNat) := fun l => rfl
  obtain ⟨dp, hdp⟩ : ∃ f : GPlace → Bool, f = deepB F := ⟨_, rfl⟩
  rw [← hdp] at x2
  have hd1 : ∀ p, wholeP p = false → dp p = true := fun p h => by rw [hdp]; simp [deepB, h]
  have hd2 : ∀ p, wholeP p = true → dp p = !decide (3 ≤ F.lk p.l.toNat) := fun p h => by rw [hdp]; simp [deepB, h, ptrB]
  clear hX' hO hdp hpt
  rw [hRX]
  have xl2 : ∀ i, ln_ (X i) ≤ i := fun i => by rw [hln]; exact xl i
  obtain ⟨pa, un, lA, ln, lc, lk, lt, bA, bn, bc, sA, sn, sc, s, jA, jn, jc, ja, jk, jo, jf, jx, je, jd⟩ := F
  obtain ⟨hX, hl, hb, hs, hj⟩ := hF
  simp only at hl hb hs hj
  simp only at hin hn8 x1 x2 x3 hd2
  refine go_start (args := [.pt (.agg (GFun.dat ⟨pa, un, lA, ln, lc, lk, lt, bA, bn, bc, sA, sn, sc, s, jA, jn, jc, ja, jk, jo, jf, jx, je, jd⟩)), .pt (.one (.xs 3 b))]) (c := (funX ⟨pa, un, lA, ln, lc, lk, lt, bA, bn, bc, sA, sn, sc, s, jA, jn, jc, ja, jk, jo, jf, jx, je, jd⟩)) Try.func65 rfl hX rfl rfl ?_
  obtain ⟨nd, hnd⟩ : ∃ f : Bool → Bool → Bool, f = and := ⟨_, rfl⟩
  obtain ⟨nt, hnt⟩ : ∃ f : Bool → Bool, f = not := ⟨_, rfl⟩
  obtain ⟨ar, har⟩ : ∃ f : BinOp → IntKind → Int → Int → Int, f = rAr := ⟨_, rfl⟩
  obtain ⟨cm, hcm⟩ : ∃ f : BinOp → Int → Int → Bool, f = rCm := ⟨_, rfl⟩
  obtain ⟨mx, hmx⟩ : ∃ f : Int → Int → Int, f = rMx := ⟨_, rfl⟩
  obtain ⟨mn, hmn⟩ : ∃ f : Int → Int → Int, f = rMn := ⟨_, rfl⟩
  have ar01 : ar .add .i64 0 1 = 1 := by rw [har]; decide
  have ar12 : ar .add .i64 1 1 = 2 := by rw [har]; decide
  obtain ⟨zpl, hzpl⟩ : ∃ f : Nat → Nat → Nat, f = fun x y => x + y := ⟨_, rfl⟩
  obtain ⟨zjn, hzjn⟩ : ∃ f : Nat → (Nat → List SC) → (Nat → List SC) → Nat → List SC, f = rJn := ⟨_, rfl⟩
  obtain ⟨zup, hzup⟩ : ∃ f : (Nat → List SC) → Nat → Nat → List SC → Nat → List SC, f = rUp := ⟨_, rfl⟩
  obtain ⟨zmi, hzmi⟩ : ∃ f : Nat → Nat → Nat, f = fun x y => x - y := ⟨_, rfl⟩
  obtain ⟨zdp, hzdp⟩ : ∃ f : Nat → (Nat → List SC) → Nat → List SC, f = rDp := ⟨_, rfl⟩
  have hT := T0_ok hnd hnt har hcm hmx hmn hzpl hzjn hzup hzmi hzdp
  have hk2 : ∀ i c, (ja b i).k = 2 → leCell c (.bool (dp (ja b i).p)) → RowLe ⟨zpl (ln_ (X i)) 1, 5, zjn (ln_ (X i)) (fun j => (tc (X i) j).sc) (fun j => cutL [.int .i64 (ja b i).p.l, .bool (ja b i).p.d, .int .u8 (ja b i).p.f, .lit false, c] (0 + j * 5) 5)⟩ ⟨ln_ (X (i + 1)), 5, fun j => (tc (X (i + 1)) j).sc⟩ := fun i c h hc => by
    rw [← hRX]
    refine touLe_app hzpl hzjn (L := X i) (by rw [hRX]; exact RowLe.rfl' _) (x2 i h) ?_
    exact leDeep hc (leLit _)
  have hk3 : ∀ i, (ja b i).k = 3 → RowLe ⟨zpl (ln_ (X i)) 1, 5, zjn (ln_ (X i)) (fun j => (tc (X i) j).sc) (fun j => cutL [.int .i64 (ja b i).p.l, .bool (ja b i).p.d, .int .u8 (ja b i).p.f, .lit true, .lit true] (0 + j * 5) 5)⟩ ⟨ln_ (X (i + 1)), 5, fun j => (tc (X (i + 1)) j).sc⟩ := fun i h => by
    rw [← hRX]
    refine touLe_app hzpl hzjn (L := X i) (by rw [hRX]; exact RowLe.rfl' _) (x3 i h) ?_
    exact leDeep (leLit _) (leLit _)
  have hlo : ∀ i, i < jn b → (ja b i).k = 2 → 0 ≤ (ja b i).p.l ∧ (ja b i).p.l < ln := fun i hi h => by
    rcases hin i hi with g | g
    · omega
    · exact g.2
  repeat' (first
    | ((with_reducible apply go_ev hT 400); (· (cbv; try rfl)); (fail_if_success with_reducible apply stuck_id))
    | ((with_reducible refine go_brt ?_ ?_); (· first | rfl | assumption | (rw [hcm]; decide)))
    | ((with_reducible refine go_brf ?_ ?_); (· first | rfl | assumption | (rw [hcm]; decide)))
    | ((with_reducible refine go_brnt hnt ?_ ?_); (· first | rfl | assumption))
    | ((with_reducible refine go_brnf hnt ?_ ?_); (· first | rfl | assumption))
    | (with_reducible refine go_brn hnt (fun h => ?_) (fun h => ?_))
    | (with_reducible refine go_brl hcm (fun hlt => ?_) (fun hge => ?_))
    | (with_reducible refine go_br (fun h => ?_) (fun h => ?_))
    | ((with_reducible apply go_ret_val hT); (· (cbv; try rfl)); (· (cbv; try rfl)))
    | ((with_reducible apply go_fin_val hT); (· (cbv; try rfl)); (· (cbv; try rfl)))
    | ((with_reducible apply go_draw); (· rfl); (· kernel_rfl); (· kernel_rfl))
    | ((with_reducible apply go_drawE); (· kernel_rfl))
    | (with_reducible refine go_fork ?_)
    | (with_reducible refine fork_cons ?_ ?_)
    | (with_reducible exact fork_nil)
    | ((with_reducible refine go_need ?_ ?_ ?_); (· first | omega | (simp only [Int.ofNat_eq_natCast]; omega)); (· first | omega | (simp only [Int.ofNat_eq_natCast]; omega)))
    | ((with_reducible refine go_ob ?_ ?_); (· first | trivial | (refine ⟨trivial, ?_⟩; omega) | (rw [hzpl]; refine ⟨trivial, ?_⟩; show _ + _ ≤ 1073741824; omega) | (rw [hzpl]; show _ + _ ≤ 1073741824; omega) | ((rw [hzpl]; exact Nat.le_trans (Nat.add_le_add_right (xl2 i) 1) (show i + 1 ≤ 1073741824 from by omega)))))
    | ((with_reducible apply go_ret_rows hT); (· (cbv; try rfl)); (· (cbv; try rfl)); (· (cbv; (try simp only [true_and, and_true]); (try ((repeat' apply And.intro) <;> (first | trivial | rfl | decide  | ((refine rowLe_of (by rw [x0, hln]; rfl) (fun j hj => absurd hj (Nat.not_lt_zero _)))) | ((exact hk3 i (of_decide_eq_true (by assumption)))) | ((refine hk2 i _ (of_decide_eq_true (by assumption)) ?_; first | exact (hd1 _ (hz.symm.trans (by assumption))).symm | (rw [hnt, hcm]; exact (hd2 _ (hz.symm.trans (by assumption))).symm))) | ((rw [x1 i (of_decide_eq_false (by assumption)) (of_decide_eq_false (by assumption))]; exact RowLe.rfl' _)) | ((have haN : i = jn b := (by omega); subst haN; exact RowLe.rfl' _))))))); (· (cbv; (try simp only [true_and, and_true]); (try ((repeat' apply And.intro) <;> (first | trivial | rfl | exact RowLe.rfl' _  | ((refine rowLe_of (by rw [x0, hln]; rfl) (fun j hj => absurd hj (Nat.not_lt_zero _)))) | ((exact hk3 i (of_decide_eq_true (by assumption)))) | ((refine hk2 i _ (of_decide_eq_true (by assumption)) ?_; first | exact (hd1 _ (hz.symm.trans (by assumption))).symm | (rw [hnt, hcm]; exact (hd2 _ (hz.symm.trans (by assumption))).symm))) | ((rw [x1 i (of_decide_eq_false (by assumption)) (of_decide_eq_false (by assumption))]; exact RowLe.rfl' _)) | ((have haN : i = jn b := (by omega); subst haN; exact RowLe.rfl' _))))))); (· rfl))
    | ((with_reducible apply go_fin_rows hT); (· (cbv; try rfl)); (· (cbv; try rfl)); (· (cbv; (try simp only [true_and, and_true]); (try ((repeat' apply And.intro) <;> (first | trivial | rfl | decide  | ((refine rowLe_of (by rw [x0, hln]; rfl) (fun j hj => absurd hj (Nat.not_lt_zero _)))) | ((exact hk3 i (of_decide_eq_true (by assumption)))) | ((refine hk2 i _ (of_decide_eq_true (by assumption)) ?_; first | exact (hd1 _ (hz.symm.trans (by assumption))).symm | (rw [hnt, hcm]; exact (hd2 _ (hz.symm.trans (by assumption))).symm))) | ((rw [x1 i (of_decide_eq_false (by assumption)) (of_decide_eq_false (by assumption))]; exact RowLe.rfl' _)) | ((have haN : i = jn b := (by omega); subst haN; exact RowLe.rfl' _))))))); (· (cbv; (try simp only [true_and, and_true]); (try ((repeat' apply And.intro) <;> (first | trivial | rfl | exact RowLe.rfl' _  | ((refine rowLe_of (by rw [x0, hln]; rfl) (fun j hj => absurd hj (Nat.not_lt_zero _)))) | ((exact hk3 i (of_decide_eq_true (by assumption)))) | ((refine hk2 i _ (of_decide_eq_true (by assumption)) ?_; first | exact (hd1 _ (hz.symm.trans (by assumption))).symm | (rw [hnt, hcm]; exact (hd2 _ (hz.symm.trans (by assumption))).symm))) | ((rw [x1 i (of_decide_eq_false (by assumption)) (of_decide_eq_false (by assumption))]; exact RowLe.rfl' _)) | ((have haN : i = jn b := (by omega); subst haN; exact RowLe.rfl' _))))))); (· rfl))
    | ((with_reducible apply go_call_bool (f := 52) (hf := Try.call52)); (· (cbv; try rfl)); (· intro wc hbc hxc; exact clashWholeC _ _ _ wc); intro z hz)
    | ((with_reducible apply go_callq_bool (f := 52) (hf := Try.call52)); (· (cbv; try rfl)); (· intro wc hbc hxc; exact clashWholeC _ _ _ wc); intro z hz)
    | ((with_reducible apply go_row 5 5); (· (cbv; try rfl)))
    | (((with_reducible apply go_need); (· exact (hlo i (by assumption) (of_decide_eq_true (by assumption))).1); (· exact (hlo i (by assumption) (of_decide_eq_true (by assumption))).2)))
    | ((with_reducible refine go_loopk (σ := {i : Nat // i ≤ jn b}) [7, 8, 12, 13, 14, 15, 16, 17, 18, 19, 20, 21, 22, 23, 24, 25, 26, 27, 28, 29, 30, 31, 32, 33, 34, 35, 36, 37, 38, 39, 40, 41, 42, 43, 44, 45, 46, 47, 48, 49] (fun x => [(11, .pt (.one (.int .i64 (.ofNat x.1))))]) (fun x => []) (fun x => [(0, ⟨ln_ (X x.1), 5, fun j => (tc (X x.1) j).sc⟩)]) (fun x => jn b - x.1) ⟨0, by omega⟩ ?_ ?_ ?_ ?_); (· (refine le_mk ?_ ?_ ?_ ?_ <;> (cbv; (try simp only [true_and, and_true]); (try ((repeat' apply And.intro) <;> (first | trivial | rfl | exact RowLe.rfl' _ | (rw [wrap_nat har _ (by omega)]) | ((refine rowLe_of (by rw [x0, hln]; rfl) (fun j hj => absurd hj (Nat.not_lt_zero _)))) | ((exact hk3 i (of_decide_eq_true (by assumption)))) | ((refine hk2 i _ (of_decide_eq_true (by assumption)) ?_; first | exact (hd1 _ (hz.symm.trans (by assumption))).symm | (rw [hnt, hcm]; exact (hd2 _ (hz.symm.trans (by assumption))).symm))) | ((rw [x1 i (of_decide_eq_false (by assumption)) (of_decide_eq_false (by assumption))]; exact RowLe.rfl' _)) | ((have haN : i = jn b := (by omega); subst haN; exact RowLe.rfl' _)))))))); (· (cbv; try rfl)); (· simp); (rintro ⟨i, hi⟩ mm hmm))
    | ((with_reducible refine go_stop (⟨i + 1, by omega⟩ : {i : Nat // i ≤ jn b}) ?_ ?_ ?_ ?_); (· exact Nat.lt_of_lt_of_eq (show jn b - (i + 1) < jn b - i from by omega) (Eq.symm (by assumption))); (· (refine le_mk ?_ ?_ ?_ ?_ <;> (cbv; (try simp only [true_and, and_true]); (try ((repeat' apply And.intro) <;> (first | trivial | rfl | exact RowLe.rfl' _ | (rw [wrap_nat har _ (by omega)]) | ((refine rowLe_of (by rw [x0, hln]; rfl) (fun j hj => absurd hj (Nat.not_lt_zero _)))) | ((exact hk3 i (of_decide_eq_true (by assumption)))) | ((refine hk2 i _ (of_decide_eq_true (by assumption)) ?_; first | exact (hd1 _ (hz.symm.trans (by assumption))).symm | (rw [hnt, hcm]; exact (hd2 _ (hz.symm.trans (by assumption))).symm))) | ((rw [x1 i (of_decide_eq_false (by assumption)) (of_decide_eq_false (by assumption))]; exact RowLe.rfl' _)) | ((have haN : i = jn b := (by omega); subst haN; exact RowLe.rfl' _)))))))); (· (cbv; try rfl)); (· simp))
    )
  all_goals trace_state

end Go.Proofs.Ytgoeinkmndicfaa
