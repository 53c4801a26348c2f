/- InitsMeets: what is set at a point is what is set behind all points that lead to it. No condition. -/
import Derived.Test.YtbljhhkjjlgnmaaGreatFlC
import Derived.Test.YtbljhhkjjlgnmaaGreatN6
namespace Go.Proofs.YtbljhhkjjlgnmaaGreat
open Go.RowKit
set_option linter.unusedVariables false
set_option linter.unusedSimpArgs false

def mPut (B : Nat → Bool) (X : Nat → Nat → Bool) (j : Nat) : Nat → Nat → Bool := fun i l => if i = j then X i l && B l else X i l
theorem mPut_all (B : Nat → Bool) (j l : Nat) : ∀ (L : List Nat) (X : Nat → Nat → Bool), (L.foldl (mPut B) X j l = true ↔ X j l = true ∧ (j ∈ L → B l = true))
  | [], X => by simp
  | a :: L, X => by
    rw [List.foldl_cons, mPut_all B j l L]
    unfold mPut
    by_cases e : j = a
    · rw [if_pos e, Bool.and_eq_true]
      constructor
      · rintro ⟨⟨h1, h2⟩, _⟩; exact ⟨h1, fun _ => h2⟩
      · rintro ⟨h1, h2⟩; exact ⟨⟨h1, h2 (by simp [e])⟩, fun _ => h2 (by simp [e])⟩
    · rw [if_neg e]; simp [e]

/-- The law's own table ahead of point n. -/
def meW (G : FlowG) (re : Nat → Bool) (L : Nat → List Nat) (S : Nat → Nat → Bool) : Nat → Nat → Nat → Bool
  | 0 => fun j l => if j = 0 then G.i0 l else true
  | n + 1 => if re n = true then (L n).foldl (mPut (G.be n (S n))) (meW G re L S n) else meW G re L S n
theorem meW_iff {G : FlowG} {re : Nat → Bool} {L : Nat → List Nat} {S : Nat → Nat → Bool} (j l : Nat) : ∀ n, (meW G re L S n j l = true ↔ ((j = 0 → G.i0 l = true) ∧ ∀ m, m < n → re m = true → j ∈ L m → G.be m (S m) l = true))
  | 0 => by
    simp only [meW]
    by_cases e : j = 0
    · simp [e]
    · simp [e]
  | n + 1 => by
    simp only [meW]
    by_cases h : re n = true
    · rw [if_pos h, mPut_all, meW_iff j l n]
      constructor
      · rintro ⟨⟨h1, h2⟩, h3⟩
        refine ⟨h1, fun m hm hr hj => ?_⟩
        rcases Nat.lt_or_eq_of_le (Nat.le_of_lt_succ hm) with h' | rfl
        · exact h2 m h' hr hj
        · exact h3 hj
      · rintro ⟨h1, h2⟩
        exact ⟨⟨h1, fun m hm => h2 m (by omega)⟩, h2 n (by omega) h⟩
    · rw [if_neg h, meW_iff j l n]
      constructor
      · rintro ⟨h1, h2⟩
        refine ⟨h1, fun m hm hr hj => ?_⟩
        rcases Nat.lt_or_eq_of_le (Nat.le_of_lt_succ hm) with h' | rfl
        · exact h2 m h' hr hj
        · exact absurd hr h
      · rintro ⟨h1, h2⟩
        exact ⟨h1, fun m hm => h2 m (by omega)⟩
theorem meW_end {F : GFun} (hO : F.Ok) {j l : Nat} : meW (flowF F) (fun n => reachB F (pbN F n)) (rsucc F) (setM F) (stN F.sn F.bn) j l = setM F j l := by
  have hlt : ∀ m, ReachG (succN F) m → m < stN F.sn F.bn := fun m h => by
    induction h with
    | zero => exact pts_pos hO
    | step _ hn ih => exact succN_lt hO ih _ hn
  have h1 := meW_iff (G := flowF F) (re := fun n => reachB F (pbN F n)) (L := rsucc F) (S := setM F) j l (stN F.sn F.bn)
  have h2 : ∀ m, setM F m l = true ↔ ¬ Cl ((flowF F).Z l) ((flowF F).R l) m := fun m => by
    rw [← clB_iff]; unfold setM FlowG.unB; simp
  have h3 : ∀ m, setM F m l = false ↔ Cl ((flowF F).Z l) ((flowF F).R l) m := fun m => by
    rw [← clB_iff]; unfold setM FlowG.unB; simp
  have be : ∀ m, (flowF F).be m (setM F m) l = ((flowF F).gS m l || (setM F m l && !(flowF F).uS m l)) := fun _ => rfl
  rw [Bool.eq_iff_iff, h1, h2]
  constructor
  · rintro ⟨a, b⟩ hc
    cases hc with
    | zero h =>
      rcases h with ⟨h, g⟩ | ⟨m, hm, g, u, hj⟩
      · rw [a h] at g; cases g
      · have := b m (hlt m hm) ((reachG_pt hO (hlt m hm)).1 hm) ((rsucc_mem (hlt m hm)).2 hj)
        rw [be, g, u] at this; simp at this
    | step h g =>
      rename_i m
      obtain ⟨hm, g, hj⟩ := g
      have := b m (hlt m hm) ((reachG_pt hO (hlt m hm)).1 hm) ((rsucc_mem (hlt m hm)).2 hj)
      rw [be, g, (h3 m).2 h] at this; simp at this
  · intro hc
    refine ⟨fun e => ?_, fun m hm hr hj => ?_⟩
    · by_cases g : (flowF F).i0 l = true
      · exact g
      · exact (hc (.zero (.inl ⟨e, by simpa using g⟩))).elim
    · have hR := (reachG_pt hO hm).2 hr
      have hj := (rsucc_mem hm).1 hj
      rw [be]
      by_cases g : (flowF F).gS m l = true
      · rw [g]; rfl
      · have g : (flowF F).gS m l = false := by simpa using g
        by_cases u : (flowF F).uS m l = true
        · exact (hc (.zero (.inr ⟨m, hR, g, u, hj⟩))).elim
        · by_cases s : setM F m l = true
          · simp [s, u]
          · exact (hc (.step ((h3 m).1 (by simpa using s)) ⟨hR, g, hj⟩)).elim

/-- Two rows of memory, as outside rows. -/
def TwoM (a : Option Addr) (n cap : Nat) (f : Nat → List SC) (a' : Option Addr) (n' cap' : Nat) (g : Nat → List SC) : Nat → Nat → Row
  | 0, _ => ⟨a, n, cap, 1, f⟩
  | _, _ => ⟨a', n', cap', 1, g⟩

theorem RowIs.twoM {c c2 : Nat → Nat → Row} {w : World} {R R' : ORow} {v v' : Value} (h : RowIs c w R v) (h' : RowIs c2 w R' v') (hp : ∀ j, j < R.n → plainL (R.el j) = true) (hp' : ∀ j, j < R'.n → plainL (R'.el j) = true) (h1 : R.es = 1) (h2 : R'.es = 1) :
    ∃ a cap a' cap', v = .slice a R.n cap ∧ v' = .slice a' R'.n cap' ∧ XOk ⟨[], TwoM a R.n cap R.el a' R'.n cap' R'.el, []⟩ ⟨w, []⟩ := by
  obtain ⟨a, cap, rfl, hX⟩ := h.one hp
  obtain ⟨a', cap', rfl, hX'⟩ := h'.one hp'
  refine ⟨a, cap, a', cap', rfl, rfl, fun q i j hj => ?_⟩
  match q, hj with
  | 0, hj =>
    obtain ⟨b, p, g1, g2, g3, vs, g4, g5⟩ := hX 0 0 j hj
    rw [h1] at g5
    exact ⟨b, p, g1, g2, g3, vs, plainL_is (hp j hj) g4, g5⟩
  | q + 1, hj =>
    obtain ⟨b, p, g1, g2, g3, vs, g4, g5⟩ := hX' 0 0 j hj
    rw [h2] at g5
    exact ⟨b, p, g1, g2, g3, vs, plainL_is (hp' j hj) g4, g5⟩

set_option maxRecDepth 100000 in
theorem sameMskC (n : Nat) (f g : Nat → Nat) (hfg : ∀ j, j < n → f j = g j) (hn : n ≤ 1000000) (c c2 : Nat → Nat → Row) (w : World) (v v' : Value) (hR : RowIs c w ⟨n, 1, fun j => [.int .u32 (.ofNat (f j))]⟩ v) (hR' : RowIs c2 w ⟨n, 1, fun j => [.int .u32 (.ofNat (g j))]⟩ v') :
    Calls Tryz.prog 19 #[v, v'] w (Ret w (.bool true)) := by
  obtain ⟨a, cap, a', cap', rfl, rfl, hX⟩ := hR.twoM hR' (fun j _ => rfl) (fun j _ => rfl) rfl rfl
  clear hR hR'
  refine go_start (args := [.pt (.one (.xs 0 0)), .pt (.one (.xs 1 0))]) (c := (TwoM a n cap (fun j => [.int .u32 (.ofNat (f j))]) a' n cap' (fun j => [.int .u32 (.ofNat (g j))]))) Tryz.func19 rfl hX rfl rfl ?_
  obtain ⟨nd, hnd, nt, hnt, ar, har, cm, hcm, mx, hmx, mn, hmn, ar01, ar12, zpl, hzpl, zjn, hzjn, zup, hzup, zmi, hzmi, zdp, hzdp, hT⟩ := t0_all
  repeat' (first
    | ((with_reducible apply go_ev hT 400); (· (cbv; try rfl)); (fail_if_success with_reducible apply stuck_id))
    | ((with_reducible refine go_brt ?_ ?_); (· first | rfl | assumption | (rw [hcm]; decide)))
    | ((with_reducible refine go_brf ?_ ?_); (· first | rfl | assumption | (rw [hcm]; decide)))
    | ((with_reducible refine go_brnt hnt ?_ ?_); (· first | rfl | assumption))
    | ((with_reducible refine go_brnf hnt ?_ ?_); (· first | rfl | assumption))
    | (with_reducible refine go_brn hnt (fun h => ?_) (fun h => ?_))
    | (with_reducible refine go_brl hcm (fun hlt => ?_) (fun hge => ?_))
    | (with_reducible refine go_br (fun h => ?_) (fun h => ?_))
    | ((with_reducible apply go_ret_val hT); (· (cbv; try rfl)); (· (cbv; try rfl)))
    | ((with_reducible apply go_fin_val hT); (· (cbv; try rfl)); (· (cbv; try rfl)))
    | ((with_reducible apply go_draw); (· rfl); (· kernel_rfl); (· kernel_rfl))
    | ((with_reducible apply go_drawE); (· kernel_rfl))
    | (with_reducible refine go_fork ?_)
    | (with_reducible refine fork_cons ?_ ?_)
    | (with_reducible exact fork_nil)
    | ((with_reducible refine go_need ?_ ?_ ?_); (· first | omega | (simp only [Int.ofNat_eq_natCast]; omega)); (· first | omega | (simp only [Int.ofNat_eq_natCast]; omega)))
    | ((with_reducible refine go_ob ?_ ?_); (· first | trivial | (refine ⟨trivial, ?_⟩; omega) | (rw [hzpl]; refine ⟨trivial, ?_⟩; show _ + _ ≤ 1073741824; omega) | (rw [hzpl]; show _ + _ ≤ 1073741824; omega)))
    | ((with_reducible apply go_ret_rows hT); (· (cbv; try rfl)); (· (cbv; try rfl)); (· (cbv; (try simp only [true_and, and_true]); (try ((repeat' apply And.intro) <;> (first | trivial | rfl | decide ))))); (· (cbv; (try simp only [true_and, and_true]); (try ((repeat' apply And.intro) <;> (first | trivial | rfl | exact RowLe.rfl' _ ))))); (· rfl))
    | ((with_reducible apply go_fin_rows hT); (· (cbv; try rfl)); (· (cbv; try rfl)); (· (cbv; (try simp only [true_and, and_true]); (try ((repeat' apply And.intro) <;> (first | trivial | rfl | decide ))))); (· (cbv; (try simp only [true_and, and_true]); (try ((repeat' apply And.intro) <;> (first | trivial | rfl | exact RowLe.rfl' _ ))))); (· rfl))
    | ((with_reducible refine go_loopk (σ := {i : Nat // i ≤ n}) [4, 11, 12, 13, 14, 15, 16, 17, 18, 19, 20, 21, 22, 23, 24, 25] (fun x => [(5, .pt (.one (.int .i64 (.ofNat x.1))))]) (fun x => []) (fun x => []) (fun x => n - x.1) ⟨0, by omega⟩ ?_ ?_ ?_ ?_); (· (refine le_mk ?_ ?_ ?_ ?_ <;> (cbv; (try simp only [true_and, and_true]); (try ((repeat' apply And.intro) <;> (first | trivial | rfl | exact RowLe.rfl' _ | (rw [wrap_nat har _ (by omega)]))))))); (· (cbv; try rfl)); (· simp); (rintro ⟨i, hi⟩ mm hmm))
    | ((with_reducible refine go_stop ⟨i + 1, by omega⟩ ?_ ?_ ?_ ?_); (· exact Nat.lt_of_lt_of_eq (show n - (i + 1) < n - i from by omega) (Eq.symm (by assumption))); (· (refine le_mk ?_ ?_ ?_ ?_ <;> (cbv; (try simp only [true_and, and_true]); (try ((repeat' apply And.intro) <;> (first | trivial | rfl | exact RowLe.rfl' _ | (rw [wrap_nat har _ (by omega)]))))))); (· (cbv; try rfl)); (· simp))
    )
  all_goals (try rfl)
  all_goals (exfalso; rw [hfg i hlt] at h; simp at h)

set_option maxRecDepth 100000 in
set_option maxHeartbeats 8000000 in
theorem behL (F : GFun) (w : World) (hF : F.At w) (hO : F.Ok) (n : Nat) (hn : n < stN F.sn F.bn) (S : Nat → Bool) :
    Calls Tryz.prog 26 #[F.val, .int .i64 (.ofNat n), .int .u32 (.ofNat (mk S F.ln))] w (Ret w (.int .u32 (.ofNat (mk ((flowF F).be n S) F.ln)))) := by
  have h10 (wc : World) (hk : KB ⟨w, []⟩ wc) (l : Nat) := rSetsC F wc (hF.later hk) hO n hn (.ofNat l)
  have h20 (wc : World) (hk : KB ⟨w, []⟩ wc) (l : Nat) := rUnsetsC F wc (hF.later hk) hO n hn (.ofNat l)
  have hl16 := hO.ln16
  obtain ⟨sB, hsB⟩ : ∃ f : Nat → Bool, f = fun l => stB F n (.ofNat l) := ⟨_, rfl⟩
  obtain ⟨uB, huB⟩ : ∃ f : Nat → Bool, f = fun l => unsB F n (.ofNat l) := ⟨_, rfl⟩
  have h1 (wc : World) (hk : KB ⟨w, []⟩ wc) (l : Nat) : Calls Tryz.prog 60 #[F.val, .int .i64 (.ofNat n), .int .i64 (.ofNat l)] wc (Ret wc (.bool (sB l))) := by rw [hsB]; exact h10 wc hk l
  have h2 (wc : World) (hk : KB ⟨w, []⟩ wc) (l : Nat) : Calls Tryz.prog 61 #[F.val, .int .i64 (.ofNat n), .int .i64 (.ofNat l)] wc (Ret wc (.bool (uB l))) := by rw [huB]; exact h20 wc hk l
  have hbe : ∀ l, (flowF F).be n S l = (sB l || (S l && !uB l)) := fun l => by
    have e1 : (flowF F).gS n l = sB l := by rw [hsB]; exact gs_eq hO hn l
    have e2 : (!(flowF F).gS n l && (flowF F).uS n l) = uB l := by rw [huB]; exact us_eq hO hn l
    unfold FlowG.be
    rw [← e2, e1]
    cases sB l <;> simp
  obtain ⟨T, hT'⟩ : ∃ f : Nat → Bool, f = (flowF F).be n S := ⟨_, rfl⟩
  rw [← hT'] at hbe ⊢
  obtain ⟨mM, hmM⟩ : ∃ f : Nat → Nat, f = fun k => mk (fun l => if l < k then T l else S l) F.ln := ⟨_, rfl⟩
  have m0 : mk S F.ln = mM 0 := by rw [hmM]; exact mk_ext fun l _ => by simp
  have me : mk T F.ln = mM F.ln := by rw [hmM]; exact mk_ext fun l hl => by simp [hl]
  have qz : ∀ {ar : BinOp → IntKind → Int → Int → Int}, ar = rAr → ∀ k, k < F.ln → ar .quo .u64 (.ofNat k) 0 = .ofNat k := fun {ar} har k hk => quo_u64 har (x := Int.ofNat k) (Int.natCast_nonneg k) (by simp only [Int.ofNat_eq_natCast]; omega)
  have hq1 : ∀ {ar : BinOp → IntKind → Int → Int → Int}, ar = rAr → ∀ k, k < F.ln → sB k = true → ar .or .u32 (.ofNat (mM k)) (ar .shl .u32 1 (ar .quo .u64 (.ofNat k) 0)) = .ofNat (mM (k + 1)) := fun {ar} har k hk g => by
    rw [qz har k hk, u32_shl har (by omega), mk_one hk, hmM, mk_or har (by omega)]
    refine congrArg Int.ofNat (mk_ext fun l _ => ?_)
    have hb := hbe l
    by_cases e : l = k
    · subst e; rw [g] at hb; simp [hb]
    · by_cases h : l < k
      · simp [h, e, show l < k + 1 by omega]
      · simp [h, e, show ¬ l < k + 1 by omega]
  have hq2 : ∀ {ar : BinOp → IntKind → Int → Int → Int}, ar = rAr → ∀ k, k < F.ln → sB k = false → uB k = true → ar .andNot .u32 (.ofNat (mM k)) (ar .shl .u32 1 (ar .quo .u64 (.ofNat k) 0)) = .ofNat (mM (k + 1)) := fun {ar} har k hk g g2 => by
    rw [qz har k hk, u32_shl har (by omega), mk_one hk, hmM, mk_andNot har (by omega)]
    refine congrArg Int.ofNat (mk_ext fun l _ => ?_)
    have hb := hbe l
    by_cases e : l = k
    · subst e; rw [g, g2] at hb; simp [hb]
    · by_cases h : l < k
      · simp [h, e, show l < k + 1 by omega]
      · simp [h, e, show ¬ l < k + 1 by omega]
  have hq3 : ∀ k, sB k = false → uB k = false → Int.ofNat (mM k) = Int.ofNat (mM (k + 1)) := fun k g g2 => by
    rw [hmM]
    refine congrArg Int.ofNat (mk_ext fun l _ => ?_)
    have hb := hbe l
    by_cases e : l = k
    · subst e; rw [g, g2] at hb; simp [hb]
    · by_cases h : l < k
      · simp [h, show l < k + 1 by omega]
      · simp [h, show ¬ l < k + 1 by omega]
  rw [m0, me]
  clear hmM hbe hT' hsB huB h10 h20 m0 me hO
  obtain ⟨pa, un, lA, ln, lc, lk, lt, bA, bn, bc, sA, sn, sc, s, jA, jn, jc, ja, jk, jo, jf, jx, je, jd⟩ := F
  obtain ⟨hX, hl, hb, hs, hj⟩ := hF
  simp only at hl hb hs hj
  try simp only at h1 h2 qz hq1 hq2 hl16
  refine go_start (args := [.pt (.agg (GFun.dat ⟨pa, un, lA, ln, lc, lk, lt, bA, bn, bc, sA, sn, sc, s, jA, jn, jc, ja, jk, jo, jf, jx, je, jd⟩)), .pt (.one (.int .i64 (.ofNat n))), .pt (.one (.int .u32 (.ofNat (mM 0))))]) (c := (funX ⟨pa, un, lA, ln, lc, lk, lt, bA, bn, bc, sA, sn, sc, s, jA, jn, jc, ja, jk, jo, jf, jx, je, jd⟩)) Tryz.func26 rfl hX rfl rfl ?_
  obtain ⟨nd, hnd, nt, hnt, ar, har, cm, hcm, mx, hmx, mn, hmn, ar01, ar12, zpl, hzpl, zjn, hzjn, zup, hzup, zmi, hzmi, zdp, hzdp, hT⟩ := t0_all
  have qz := @qz ar har
  have hq1 := @hq1 ar har
  have hq2 := @hq2 ar har
  repeat' (first
    | ((with_reducible apply go_ev hT 400); (· (cbv; try rfl)); (fail_if_success with_reducible apply stuck_id))
    | ((with_reducible refine go_brt ?_ ?_); (· first | rfl | assumption | (rw [hcm]; decide)))
    | ((with_reducible refine go_brf ?_ ?_); (· first | rfl | assumption | (rw [hcm]; decide)))
    | ((with_reducible refine go_brnt hnt ?_ ?_); (· first | rfl | assumption))
    | ((with_reducible refine go_brnf hnt ?_ ?_); (· first | rfl | assumption))
    | (with_reducible refine go_brn hnt (fun h => ?_) (fun h => ?_))
    | (with_reducible refine go_brl hcm (fun hlt => ?_) (fun hge => ?_))
    | (with_reducible refine go_br (fun h => ?_) (fun h => ?_))
    | ((with_reducible apply go_ret_val hT); (· (cbv; try rfl)); (· (cbv; try rfl)))
    | ((with_reducible apply go_fin_val hT); (· (cbv; try rfl)); (· (cbv; try rfl)))
    | ((with_reducible apply go_draw); (· rfl); (· kernel_rfl); (· kernel_rfl))
    | ((with_reducible apply go_drawE); (· kernel_rfl))
    | (with_reducible refine go_fork ?_)
    | (with_reducible refine fork_cons ?_ ?_)
    | (with_reducible exact fork_nil)
    | ((with_reducible refine go_need ?_ ?_ ?_); (· first | omega | (simp only [Int.ofNat_eq_natCast]; omega)); (· first | omega | (simp only [Int.ofNat_eq_natCast]; omega)))
    | ((with_reducible refine go_ob ?_ ?_); (· first | trivial | (refine ⟨trivial, ?_⟩; omega) | (rw [hzpl]; refine ⟨trivial, ?_⟩; show _ + _ ≤ 1073741824; omega) | (rw [hzpl]; show _ + _ ≤ 1073741824; omega)))
    | ((with_reducible apply go_ret_rows hT); (· (cbv; try rfl)); (· (cbv; try rfl)); (· (cbv; (try simp only [true_and, and_true]); (try ((repeat' apply And.intro) <;> (first | trivial | rfl | decide  | ((exact hq1 k (by assumption) (by assumption))) | ((exact hq2 k (by assumption) (by assumption) (by assumption))) | ((exact hq3 k (by assumption) (by assumption)))))))); (· (cbv; (try simp only [true_and, and_true]); (try ((repeat' apply And.intro) <;> (first | trivial | rfl | exact RowLe.rfl' _  | ((exact hq1 k (by assumption) (by assumption))) | ((exact hq2 k (by assumption) (by assumption) (by assumption))) | ((exact hq3 k (by assumption) (by assumption)))))))); (· rfl))
    | ((with_reducible apply go_fin_rows hT); (· (cbv; try rfl)); (· (cbv; try rfl)); (· (cbv; (try simp only [true_and, and_true]); (try ((repeat' apply And.intro) <;> (first | trivial | rfl | decide  | ((exact hq1 k (by assumption) (by assumption))) | ((exact hq2 k (by assumption) (by assumption) (by assumption))) | ((exact hq3 k (by assumption) (by assumption)))))))); (· (cbv; (try simp only [true_and, and_true]); (try ((repeat' apply And.intro) <;> (first | trivial | rfl | exact RowLe.rfl' _  | ((exact hq1 k (by assumption) (by assumption))) | ((exact hq2 k (by assumption) (by assumption) (by assumption))) | ((exact hq3 k (by assumption) (by assumption)))))))); (· rfl))
    | ((with_reducible apply go_call (f := 60) (hf := Tryz.call60)); (· (cbv; try rfl)); (· intro wc hbc hxc; exact h1 wc hbc k))
    | ((with_reducible apply go_callq (f := 60) (hf := Tryz.call60)); (· (cbv; try rfl)); (· intro wc hbc hxc; exact h1 wc hbc k))
    | ((with_reducible apply go_call (f := 61) (hf := Tryz.call61)); (· (cbv; try rfl)); (· intro wc hbc hxc; exact h2 wc hbc k))
    | ((with_reducible apply go_callq (f := 61) (hf := Tryz.call61)); (· (cbv; try rfl)); (· intro wc hbc hxc; exact h2 wc hbc k))
    | (((with_reducible apply go_need); (· rw [qz k (by assumption)]; exact Int.natCast_nonneg _); (· rw [qz k (by assumption)]; exact (show ((k : Nat) : Int) < ((k + 1 : Nat) : Int) by omega))))
    | ((with_reducible refine go_loopk (σ := {k : Nat // k ≤ ln}) [8, 9, 10, 11, 12, 13, 14, 15, 16, 17, 18, 19, 20, 21, 22, 23, 24, 25, 26, 27, 28, 29, 30, 31, 32] (fun x => [(7, .pt (.one (.int .i64 (.ofNat x.1)))), (2, .pt (.one (.int .u32 (.ofNat (mM x.1)))))]) (fun x => []) (fun x => []) (fun x => ln - x.1) ⟨0, by omega⟩ ?_ ?_ ?_ ?_); (· (refine le_mk ?_ ?_ ?_ ?_ <;> (cbv; (try simp only [true_and, and_true]); (try ((repeat' apply And.intro) <;> (first | trivial | rfl | exact RowLe.rfl' _ | (rw [wrap_nat har _ (by omega)]) | ((exact hq1 k (by assumption) (by assumption))) | ((exact hq2 k (by assumption) (by assumption) (by assumption))) | ((exact hq3 k (by assumption) (by assumption))))))))); (· (cbv; try rfl)); (· simp); (rintro ⟨k, hk⟩ mm hmm))
    | ((with_reducible refine go_stop (⟨k + 1, by omega⟩ : {k : Nat // k ≤ ln}) ?_ ?_ ?_ ?_); (· exact Nat.lt_of_lt_of_eq (show ln - (k + 1) < ln - k from by omega) (Eq.symm (by assumption))); (· (refine le_mk ?_ ?_ ?_ ?_ <;> (cbv; (try simp only [true_and, and_true]); (try ((repeat' apply And.intro) <;> (first | trivial | rfl | exact RowLe.rfl' _ | (rw [wrap_nat har _ (by omega)]) | ((exact hq1 k (by assumption) (by assumption))) | ((exact hq2 k (by assumption) (by assumption) (by assumption))) | ((exact hq3 k (by assumption) (by assumption))))))))); (· (cbv; try rfl)); (· simp))
    | (fail)
    )
  all_goals (have haN : k = ln := by omega)
  all_goals (subst haN; rfl)

end Go.Proofs.YtbljhhkjjlgnmaaGreat
