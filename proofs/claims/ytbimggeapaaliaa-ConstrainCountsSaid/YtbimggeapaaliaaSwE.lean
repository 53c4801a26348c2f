/- Layer 19 of the program: the constraints of a function, once the function is known to be right. No condition. -/
import Derived.Test.YtbimggeapaaliaaSwA
import Derived.Test.YtbimggeapaaliaaSwC
import Derived.Test.YtbimggeapaaliaaSwD
namespace Go.Proofs.Ytbimggeapaaliaa
open Go.RowKit
set_option linter.unusedVariables false
set_option linter.unusedSimpArgs false

theorem allPts_len (sn : Nat → Nat) : ∀ n, (allPts sn n).length = stN sn n
  | 0 => rfl
  | n + 1 => by simp only [allPts, List.length_append, allPts_len sn n, blkPts, List.length_map, List.length_range, stN]; omega
theorem allPts_mem (sn : Nat → Nat) : ∀ n p, p ∈ allPts sn n → p.1 < n ∧ p.2 ≤ sn p.1
  | 0, p, h => by simp [allPts] at h
  | n + 1, p, h => by
    simp only [allPts, List.mem_append] at h
    rcases h with h | h
    · have := allPts_mem sn n p h; exact ⟨by omega, this.2⟩
    · simp only [blkPts, List.mem_map, List.mem_range] at h
      obtain ⟨i, h1, rfl⟩ := h
      exact ⟨by simp, by simp; omega⟩

set_option maxRecDepth 100000 in
set_option maxHeartbeats 4000000 in
theorem pointsC (F : GFun) (w : World) (hF : F.At w) (hS : F.Sm) (hC : ∀ w, F.At w → Calls Try.prog 22 #[F.val] w (Ret w (.int .i64 0))) :
    Calls Try.prog 23 #[F.val] w (RetR w (funX F) (.tup [.one (.rs 0), .one (.int .i64 0)]) [⟨stN F.sn F.bn, 2, fun j => [.int .i64 (.ofNat ((allPts F.sn F.bn).getD j (0, 0)).1), .int .i64 (.ofNat ((allPts F.sn F.bn).getD j (0, 0)).2)]⟩]) := by
  have h1 (wc : World) (hk : KB ⟨w, []⟩ wc) := hC wc (hF.later hk)
  have h2 (wc : World) (hk : KB ⟨w, []⟩ wc) := allC F wc (hF.later hk) hS.s hS.b
  have hR : ptR (allPts F.sn F.bn) = ⟨stN F.sn F.bn, 2, fun j => [.int .i64 (.ofNat ((allPts F.sn F.bn).getD j (0, 0)).1), .int .i64 (.ofNat ((allPts F.sn F.bn).getD j (0, 0)).2)]⟩ := by rw [ptR, allPts_len]
  rw [hR] at h2
  clear hR hC hS
  obtain ⟨N, hN⟩ : ∃ N, N = stN F.sn F.bn := ⟨_, rfl⟩
  obtain ⟨p1, hp1⟩ : ∃ f : Nat → Nat, f = fun j => ((allPts F.sn F.bn).getD j (0, 0)).1 := ⟨_, rfl⟩
  obtain ⟨p2, hp2⟩ : ∃ f : Nat → Nat, f = fun j => ((allPts F.sn F.bn).getD j (0, 0)).2 := ⟨_, rfl⟩
  have hR : (⟨stN F.sn F.bn, 2, fun j => [.int .i64 (.ofNat ((allPts F.sn F.bn).getD j (0, 0)).1), .int .i64 (.ofNat ((allPts F.sn F.bn).getD j (0, 0)).2)]⟩ : ORow) = ⟨N, 2, fun j => [.int .i64 (.ofNat (p1 j)), .int .i64 (.ofNat (p2 j))]⟩ := by rw [hN, hp1, hp2]
  rw [hR] at h2 ⊢
  clear hR hN hp1 hp2
  obtain ⟨pa, un, lA, ln, lc, lk, lt, bA, bn, bc, sA, sn, sc, s, jA, jn, jc, ja, jk, jo, jf, jx, je, jd⟩ := F
  obtain ⟨hX, hl, hb, hs, hj⟩ := hF
  simp only at hl hb hs hj
  refine go_start (args := [.pt (.agg (GFun.dat _))]) (c := (funX _)) Try.func23 rfl hX rfl rfl ?_
  obtain ⟨nd, hnd⟩ : ∃ f : Bool → Bool → Bool, f = and := ⟨_, rfl⟩
  obtain ⟨nt, hnt⟩ : ∃ f : Bool → Bool, f = not := ⟨_, rfl⟩
  obtain ⟨ar, har⟩ : ∃ f : BinOp → IntKind → Int → Int → Int, f = rAr := ⟨_, rfl⟩
  obtain ⟨cm, hcm⟩ : ∃ f : BinOp → Int → Int → Bool, f = rCm := ⟨_, rfl⟩
  obtain ⟨mx, hmx⟩ : ∃ f : Int → Int → Int, f = rMx := ⟨_, rfl⟩
  obtain ⟨mn, hmn⟩ : ∃ f : Int → Int → Int, f = rMn := ⟨_, rfl⟩
  have ar01 : ar .add .i64 0 1 = 1 := by rw [har]; decide
  have ar12 : ar .add .i64 1 1 = 2 := by rw [har]; decide
  obtain ⟨zpl, hzpl⟩ : ∃ f : Nat → Nat → Nat, f = fun x y => x + y := ⟨_, rfl⟩
  obtain ⟨zjn, hzjn⟩ : ∃ f : Nat → (Nat → List SC) → (Nat → List SC) → Nat → List SC, f = rJn := ⟨_, rfl⟩
  obtain ⟨zup, hzup⟩ : ∃ f : (Nat → List SC) → Nat → Nat → List SC → Nat → List SC, f = rUp := ⟨_, rfl⟩
  obtain ⟨zmi, hzmi⟩ : ∃ f : Nat → Nat → Nat, f = fun x y => x - y := ⟨_, rfl⟩
  obtain ⟨zdp, hzdp⟩ : ∃ f : Nat → (Nat → List SC) → Nat → List SC, f = rDp := ⟨_, rfl⟩
  have hT := T0_ok hnd hnt har hcm hmx hmn hzpl hzjn hzup hzmi hzdp
  repeat' (first
    | ((with_reducible apply go_ev hT 400); (· (cbv; try rfl)); (fail_if_success with_reducible apply stuck_id))
    | ((with_reducible refine go_brt ?_ ?_); (· first | rfl | assumption | (rw [hcm]; decide)))
    | ((with_reducible refine go_brf ?_ ?_); (· first | rfl | assumption | (rw [hcm]; decide)))
    | ((with_reducible refine go_brnt hnt ?_ ?_); (· first | rfl | assumption))
    | ((with_reducible refine go_brnf hnt ?_ ?_); (· first | rfl | assumption))
    | (with_reducible refine go_brn hnt (fun h => ?_) (fun h => ?_))
    | (with_reducible refine go_brl hcm (fun hlt => ?_) (fun hge => ?_))
    | (with_reducible refine go_br (fun h => ?_) (fun h => ?_))
    | ((with_reducible apply go_ret_val hT); (· (cbv; try rfl)); (· (cbv; try rfl)))
    | ((with_reducible apply go_fin_val hT); (· (cbv; try rfl)); (· (cbv; try rfl)))
    | ((with_reducible apply go_draw); (· rfl); (· kernel_rfl); (· kernel_rfl))
    | ((with_reducible apply go_drawE); (· kernel_rfl))
    | (with_reducible refine go_fork ?_)
    | (with_reducible refine fork_cons ?_ ?_)
    | (with_reducible exact fork_nil)
    | ((with_reducible refine go_need ?_ ?_ ?_); (· first | omega | (simp only [Int.ofNat_eq_natCast]; omega)); (· first | omega | (simp only [Int.ofNat_eq_natCast]; omega)))
    | ((with_reducible refine go_ob ?_ ?_); (· first | trivial | (refine ⟨trivial, ?_⟩; omega) | (rw [hzpl]; refine ⟨trivial, ?_⟩; show _ + _ ≤ 1073741824; omega) | (rw [hzpl]; show _ + _ ≤ 1073741824; omega)))
    | ((with_reducible apply go_ret_rows hT); (· (cbv; try rfl)); (· (cbv; try rfl)); (· (cbv; (try simp only [true_and, and_true]); (try ((repeat' apply And.intro) <;> (first | trivial | rfl | decide ))))); (· (cbv; (try simp only [true_and, and_true]); (try ((repeat' apply And.intro) <;> (first | trivial | rfl | exact RowLe.rfl' _ ))))); (· rfl))
    | ((with_reducible apply go_fin_rows hT); (· (cbv; try rfl)); (· (cbv; try rfl)); (· (cbv; (try simp only [true_and, and_true]); (try ((repeat' apply And.intro) <;> (first | trivial | rfl | decide ))))); (· (cbv; (try simp only [true_and, and_true]); (try ((repeat' apply And.intro) <;> (first | trivial | rfl | exact RowLe.rfl' _ ))))); (· rfl))
    | ((with_reducible apply go_call (f := 22) (hf := Try.call22)); (· (cbv; try rfl)); (· intro wc hbc hxc; exact h1 wc hbc))
    | ((with_reducible apply go_callq (f := 22) (hf := Try.call22)); (· (cbv; try rfl)); (· intro wc hbc hxc; exact h1 wc hbc))
    | ((with_reducible apply go_callR (f := 34) (hf := Try.call34)); (· intro S; cbv; try rfl); (· intro wc S hbc hxc hrc; exact h2 wc hbc); (· rfl))
    )

/-- How many loans lie before the a-th point. -/
def loN (ln : Nat) (s : Nat → Nat → GStmt) (sn pb pi : Nat → Nat) : Nat → Nat
  | 0 => ln
  | a + 1 => loN ln s sn pb pi a + if pi a < sn (pb a) ∧ (s (pb a) (pi a)).k = 1 ∧ (s (pb a) (pi a)).r.k = 4 then 1 else 0
/-- The constraints of the first points. -/
def conL (lk : Nat → Int) (ln : Nat) (s : Nat → Nat → GStmt) (sn pb pi : Nat → Nat) : Nat → List KCon
  | 0 => []
  | a + 1 => conL lk ln s sn pb pi a ++ if pi a < sn (pb a) ∧ (s (pb a) (pi a)).k = 1 then ofL lk (s (pb a) (pi a)) (.ofNat a) (.ofNat (loN ln s sn pb pi a)) else []
def allCon (F : GFun) : List KCon := conL F.lk F.ln F.s F.sn (fun j => ((allPts F.sn F.bn).getD j (0, 0)).1) (fun j => ((allPts F.sn F.bn).getD j (0, 0)).2) (stN F.sn F.bn)
/-- Every place of the function's assignments names one of its locals. -/
def GFun.Near (F : GFun) : Prop := ∀ b i, b < F.bn → i < F.sn b → (F.s b i).k = 1 →
  (0 ≤ (F.s b i).p.l ∧ (F.s b i).p.l < F.ln) ∧ (0 ≤ (F.s b i).r.p.l ∧ (F.s b i).r.p.l < F.ln) ∧ (0 ≤ (F.s b i).r.a.p.l ∧ (F.s b i).r.a.p.l < F.ln)
theorem ofL_len (lk : Nat → Int) (s : GStmt) (a l : Int) : (ofL lk s a l).length ≤ 2 := by
  unfold ofL
  split
  · split
    · split <;> simp
    · split <;> simp
  · simp

set_option maxRecDepth 100000 in
set_option maxHeartbeats 4000000 in
theorem allConC (F : GFun) (w : World) (hF : F.At w) (hS : F.Sm) (hNr : F.Near) (hC : ∀ w, F.At w → Calls Try.prog 22 #[F.val] w (Ret w (.int .i64 0))) :
    Calls Try.prog 8 #[F.val] w (RetR w (funX F) (.tup [.one (.rs 0), .one (.int .i64 0)]) [conR (allCon F)]) := by
  have h1 (wc : World) (hk : KB ⟨w, []⟩ wc) := hC wc (hF.later hk)
  have h2 (wc : World) (hk : KB ⟨w, []⟩ wc) := pointsC F wc (hF.later hk) hS hC
  unfold allCon
  have hm : ∀ a, a < stN F.sn F.bn → ((allPts F.sn F.bn).getD a (0, 0)).1 < F.bn ∧ ((allPts F.sn F.bn).getD a (0, 0)).2 ≤ F.sn ((allPts F.sn F.bn).getD a (0, 0)).1 := fun a ha => by
    have hl : a < (allPts F.sn F.bn).length := by rw [allPts_len]; exact ha
    refine allPts_mem F.sn F.bn _ ?_
    simp only [List.getD, List.getElem?_eq_getElem hl, Option.getD_some]
    exact List.getElem_mem hl
  have hN9 : stN F.sn F.bn ≤ 930 := by
    have := stN_le hS.s F.bn (Nat.le_refl _)
    have := hS.b
    omega
  have hl30 := hS.l
  obtain ⟨N, hN⟩ : ∃ N, N = stN F.sn F.bn := ⟨_, rfl⟩
  obtain ⟨pb, hpb⟩ : ∃ f : Nat → Nat, f = fun j => ((allPts F.sn F.bn).getD j (0, 0)).1 := ⟨_, rfl⟩
  obtain ⟨pi, hpi⟩ : ∃ f : Nat → Nat, f = fun j => ((allPts F.sn F.bn).getD j (0, 0)).2 := ⟨_, rfl⟩
  have hR : (⟨stN F.sn F.bn, 2, fun j => [.int .i64 (.ofNat ((allPts F.sn F.bn).getD j (0, 0)).1), .int .i64 (.ofNat ((allPts F.sn F.bn).getD j (0, 0)).2)]⟩ : ORow) = ⟨N, 2, fun j => [.int .i64 (.ofNat (pb j)), .int .i64 (.ofNat (pi j))]⟩ := by rw [hN, hpb, hpi]
  rw [hR] at h2
  have hb1 : ∀ a, a < N → pb a < F.bn := fun a ha => by rw [hpb]; exact (hm a (hN ▸ ha)).1
  have hi1 : ∀ a, a < N → pi a ≤ F.sn (pb a) := fun a ha => by rw [hpb, hpi]; exact (hm a (hN ▸ ha)).2
  rw [← hpb, ← hpi, ← hN]
  rw [← hN] at hN9
  clear hR hm hC hS hN hpb hpi
  obtain ⟨lo, hlo⟩ : ∃ f : Nat → Nat, f = loN F.ln F.s F.sn pb pi := ⟨_, rfl⟩
  obtain ⟨X, hXX⟩ : ∃ f : Nat → List KCon, f = conL F.lk F.ln F.s F.sn pb pi := ⟨_, rfl⟩
  obtain ⟨O, hO⟩ : ∃ f : Nat → List KCon, f = fun a => ofL F.lk (F.s (pb a) (pi a)) (.ofNat a) (.ofNat (lo a)) := ⟨_, rfl⟩
  obtain ⟨ln_, hln⟩ : ∃ f : List KCon → Nat, f = List.length := ⟨_, rfl⟩
  obtain ⟨gt_, hgt⟩ : ∃ f : List KCon → Nat → KCon, f = fun L j => L.getD j .zero := ⟨_, rfl⟩
  have hRc : ∀ L, conR L = ⟨ln_ L, 4, fun j => (gt_ L j).sc⟩ := fun L => by rw [conR, hln, hgt]
  rw [← hXX, hRc]
  have l0 : lo 0 = F.ln := by rw [hlo]; rfl
  have l1 : ∀ a, pi a < F.sn (pb a) → (F.s (pb a) (pi a)).k = 1 → (F.s (pb a) (pi a)).r.k = 4 → lo (a + 1) = lo a + 1 := fun a g1 g2 g3 => by rw [hlo]; simp only [loN]; rw [if_pos ⟨g1, g2, g3⟩]
  have l2 : ∀ a, ¬ (pi a < F.sn (pb a) ∧ (F.s (pb a) (pi a)).k = 1 ∧ (F.s (pb a) (pi a)).r.k = 4) → lo (a + 1) = lo a := fun a g => by rw [hlo]; simp only [loN]; rw [if_neg g]; rfl
  have ll : ∀ a, lo a ≤ F.ln + a := fun a => by
    induction a with
    | zero => rw [l0]; omega
    | succ a ih =>
      by_cases g : pi a < F.sn (pb a) ∧ (F.s (pb a) (pi a)).k = 1 ∧ (F.s (pb a) (pi a)).r.k = 4
      · rw [l1 a g.1 g.2.1 g.2.2]; omega
      · rw [l2 a g]; omega
  have x0 : X 0 = [] := by rw [hXX]; rfl
  have x1 : ∀ a, pi a < F.sn (pb a) → (F.s (pb a) (pi a)).k = 1 → X (a + 1) = X a ++ O a := fun a g1 g2 => by rw [hXX, hO, hlo]; simp only [conL]; rw [if_pos ⟨g1, g2⟩]
  have x2 : ∀ a, ¬ (pi a < F.sn (pb a) ∧ (F.s (pb a) (pi a)).k = 1) → X (a + 1) = X a := fun a g => by rw [hXX]; simp only [conL]; rw [if_neg g]; simp
  have ol : ∀ a, ln_ (O a) ≤ 2 := fun a => by rw [hln, hO]; exact ofL_len _ _ _ _
  have xl : ∀ a, ln_ (X a) ≤ 2 * a := fun a => by
    induction a with
    | zero => rw [x0, hln]; simp
    | succ a ih =>
      have := ol a
      by_cases g : pi a < F.sn (pb a) ∧ (F.s (pb a) (pi a)).k = 1
      · rw [x1 a g.1 g.2, hln, List.length_append]; rw [hln] at ih this; omega
      · rw [x2 a g]; omega
  have hOf : ∀ a, a < N → pi a < F.sn (pb a) → (F.s (pb a) (pi a)).k = 1 → ∀ wc, KB ⟨w, []⟩ wc → Calls Try.prog 24 #[F.val, (F.s (pb a) (pi a)).val, .int .i64 (.ofNat a), .int .i64 (.ofNat (lo a))] wc (RetR wc (funX F) (.pt (.one (.rs 0))) [⟨ln_ (O a), 4, fun j => (gt_ (O a) j).sc⟩]) := fun a ha g1 g2 wc hk => by
    have hq := hNr (pb a) (pi a) (hb1 a ha) g1 g2
    rw [← hRc, hO]
    exact conOf F _ _ _ wc (hF.later hk) hq.1 hq.2.1 hq.2.2
  have hjx : ∀ a j, j < ln_ (X a) → ∀ b, gt_ (X a ++ b) j = gt_ (X a) j := fun a j hj b => by
    rw [hgt]; rw [hln] at hj
    simp [List.getD, List.getElem?_append_left hj]
  have hjy : ∀ a b j, gt_ (X a ++ b) (ln_ (X a) + j) = gt_ b j := fun a b j => by
    rw [hgt, hln]
    simp [List.getD, List.getElem?_append_right]
  clear hO hXX hlo hRc hNr
  obtain ⟨pa, un, lA, ln, lc, lk, lt, bA, bn, bc, sA, sn, sc, s, jA, jn, jc, ja, jk, jo, jf, jx, je, jd⟩ := F
  obtain ⟨hX, hl, hb, hs, hj⟩ := hF
  simp only at hl hb hs hj
  simp only at h1 h2 hb1 hi1 l0 l1 l2 ll x1 x2 hOf hl30
  have hne : ∀ a, a < N → decide (Int.ofNat (pi a) = Int.ofNat (sn (pb a))) = false → pi a < sn (pb a) := fun a ha h => by
    have h1 := hi1 a ha
    have h2 : ¬ Int.ofNat (pi a) = Int.ofNat (sn (pb a)) := of_decide_eq_false h
    simp only [Int.ofNat_eq_natCast] at h2
    omega
  have hnk : ∀ a, decide (Int.ofNat (pi a) = Int.ofNat (sn (pb a))) = true → ¬ pi a < sn (pb a) := fun a h => by
    have h2 : Int.ofNat (pi a) = Int.ofNat (sn (pb a)) := of_decide_eq_true h
    simp only [Int.ofNat_eq_natCast] at h2
    omega
  refine go_start (args := [.pt (.agg (GFun.dat _))]) (c := (funX _)) Try.func8 rfl hX rfl rfl ?_
  obtain ⟨nd, hnd⟩ : ∃ f : Bool → Bool → Bool, f = and := ⟨_, rfl⟩
  obtain ⟨nt, hnt⟩ : ∃ f : Bool → Bool, f = not := ⟨_, rfl⟩
  obtain ⟨ar, har⟩ : ∃ f : BinOp → IntKind → Int → Int → Int, f = rAr := ⟨_, rfl⟩
  obtain ⟨cm, hcm⟩ : ∃ f : BinOp → Int → Int → Bool, f = rCm := ⟨_, rfl⟩
  obtain ⟨mx, hmx⟩ : ∃ f : Int → Int → Int, f = rMx := ⟨_, rfl⟩
  obtain ⟨mn, hmn⟩ : ∃ f : Int → Int → Int, f = rMn := ⟨_, rfl⟩
  have ar01 : ar .add .i64 0 1 = 1 := by rw [har]; decide
  have ar12 : ar .add .i64 1 1 = 2 := by rw [har]; decide
  obtain ⟨zpl, hzpl⟩ : ∃ f : Nat → Nat → Nat, f = fun x y => x + y := ⟨_, rfl⟩
  obtain ⟨zjn, hzjn⟩ : ∃ f : Nat → (Nat → List SC) → (Nat → List SC) → Nat → List SC, f = rJn := ⟨_, rfl⟩
  obtain ⟨zup, hzup⟩ : ∃ f : (Nat → List SC) → Nat → Nat → List SC → Nat → List SC, f = rUp := ⟨_, rfl⟩
  obtain ⟨zmi, hzmi⟩ : ∃ f : Nat → Nat → Nat, f = fun x y => x - y := ⟨_, rfl⟩
  obtain ⟨zdp, hzdp⟩ : ∃ f : Nat → (Nat → List SC) → Nat → List SC, f = rDp := ⟨_, rfl⟩
  have hT := T0_ok hnd hnt har hcm hmx hmn hzpl hzjn hzup hzmi hzdp
  have hj1 : ∀ a, pi a < sn (pb a) → (s (pb a) (pi a)).k = 1 → RowLe ⟨zpl (ln_ (X a)) (ln_ (O a)), 4, zjn (ln_ (X a)) (fun j => (gt_ (X a) j).sc) (fun j => (gt_ (O a) j).sc)⟩ ⟨ln_ (X (a + 1)), 4, fun j => (gt_ (X (a + 1)) j).sc⟩ := fun a g1 g2 => by
    rw [x1 a g1 g2]
    refine rowLe_join hzpl hzjn (by rw [hln]; exact List.length_append) (fun j hj => ?_) (fun j hj => ?_)
    · show leCL (gt_ (X a) j).sc (gt_ (X a ++ O a) j).sc
      rw [hjx a j hj]; exact leCL_rfl _
    · show leCL (gt_ (O a) j).sc (gt_ (X a ++ O a) (ln_ (X a) + j)).sc
      rw [hjy]; exact leCL_rfl _
  repeat' (first
    | ((with_reducible apply go_ev hT 400); (· (cbv; try rfl)); (fail_if_success with_reducible apply stuck_id))
    | ((with_reducible refine go_brt ?_ ?_); (· first | rfl | assumption | (rw [hcm]; decide)))
    | ((with_reducible refine go_brf ?_ ?_); (· first | rfl | assumption | (rw [hcm]; decide)))
    | ((with_reducible refine go_brnt hnt ?_ ?_); (· first | rfl | assumption))
    | ((with_reducible refine go_brnf hnt ?_ ?_); (· first | rfl | assumption))
    | (with_reducible refine go_brn hnt (fun h => ?_) (fun h => ?_))
    | (with_reducible refine go_brl hcm (fun hlt => ?_) (fun hge => ?_))
    | (with_reducible refine go_br (fun h => ?_) (fun h => ?_))
    | ((with_reducible apply go_ret_val hT); (· (cbv; try rfl)); (· (cbv; try rfl)))
    | ((with_reducible apply go_fin_val hT); (· (cbv; try rfl)); (· (cbv; try rfl)))
    | ((with_reducible apply go_draw); (· rfl); (· kernel_rfl); (· kernel_rfl))
    | ((with_reducible apply go_drawE); (· kernel_rfl))
    | (with_reducible refine go_fork ?_)
    | (with_reducible refine fork_cons ?_ ?_)
    | (with_reducible exact fork_nil)
    | ((with_reducible refine go_need ?_ ?_ ?_); (· first | omega | (simp only [Int.ofNat_eq_natCast]; omega)); (· first | omega | (simp only [Int.ofNat_eq_natCast]; omega)))
    | ((with_reducible refine go_ob ?_ ?_); (· first | trivial | (refine ⟨trivial, ?_⟩; omega) | (rw [hzpl]; refine ⟨trivial, ?_⟩; show _ + _ ≤ 1073741824; omega) | (rw [hzpl]; show _ + _ ≤ 1073741824; omega) | ((rw [hzpl]; exact Nat.le_trans (Nat.add_le_add (xl a) (ol a)) (show 2 * a + 2 ≤ 1073741824 from by omega)))))
    | ((with_reducible apply go_ret_rows hT); (· (cbv; try rfl)); (· (cbv; try rfl)); (· (cbv; (try simp only [true_and, and_true]); (try ((repeat' apply And.intro) <;> (first | trivial | rfl | decide  | ((rw [l0]; done)) | ((refine rowLe_of (by rw [x0, hln]; rfl) (fun j hj => absurd hj (Nat.not_lt_zero _)))) | ((have q := ll a; rw [wrap_nat har _ (by omega), l1 a (hne a (by assumption) (by assumption)) (of_decide_eq_true (by assumption)) (of_decide_eq_true (by assumption))]; done)) | ((rw [l2 a (fun g => hnk a (by assumption) g.1)]; done)) | ((rw [l2 a (fun g => of_decide_eq_false (by assumption) g.2.1)]; done)) | ((rw [l2 a (fun g => of_decide_eq_false (by assumption) g.2.2)]; done)) | ((rw [x2 a (fun g => hnk a (by assumption) g.1)]; exact RowLe.rfl' _)) | ((rw [x2 a (fun g => of_decide_eq_false (by assumption) g.2)]; exact RowLe.rfl' _)) | ((exact hj1 a (hne a (by assumption) (by assumption)) (of_decide_eq_true (by assumption)))) | ((have haN : a = N := (by omega); subst haN; exact RowLe.rfl' _))))))); (· (cbv; (try simp only [true_and, and_true]); (try ((repeat' apply And.intro) <;> (first | trivial | rfl | exact RowLe.rfl' _  | ((rw [l0]; done)) | ((refine rowLe_of (by rw [x0, hln]; rfl) (fun j hj => absurd hj (Nat.not_lt_zero _)))) | ((have q := ll a; rw [wrap_nat har _ (by omega), l1 a (hne a (by assumption) (by assumption)) (of_decide_eq_true (by assumption)) (of_decide_eq_true (by assumption))]; done)) | ((rw [l2 a (fun g => hnk a (by assumption) g.1)]; done)) | ((rw [l2 a (fun g => of_decide_eq_false (by assumption) g.2.1)]; done)) | ((rw [l2 a (fun g => of_decide_eq_false (by assumption) g.2.2)]; done)) | ((rw [x2 a (fun g => hnk a (by assumption) g.1)]; exact RowLe.rfl' _)) | ((rw [x2 a (fun g => of_decide_eq_false (by assumption) g.2)]; exact RowLe.rfl' _)) | ((exact hj1 a (hne a (by assumption) (by assumption)) (of_decide_eq_true (by assumption)))) | ((have haN : a = N := (by omega); subst haN; exact RowLe.rfl' _))))))); (· rfl))
    | ((with_reducible apply go_fin_rows hT); (· (cbv; try rfl)); (· (cbv; try rfl)); (· (cbv; (try simp only [true_and, and_true]); (try ((repeat' apply And.intro) <;> (first | trivial | rfl | decide  | ((rw [l0]; done)) | ((refine rowLe_of (by rw [x0, hln]; rfl) (fun j hj => absurd hj (Nat.not_lt_zero _)))) | ((have q := ll a; rw [wrap_nat har _ (by omega), l1 a (hne a (by assumption) (by assumption)) (of_decide_eq_true (by assumption)) (of_decide_eq_true (by assumption))]; done)) | ((rw [l2 a (fun g => hnk a (by assumption) g.1)]; done)) | ((rw [l2 a (fun g => of_decide_eq_false (by assumption) g.2.1)]; done)) | ((rw [l2 a (fun g => of_decide_eq_false (by assumption) g.2.2)]; done)) | ((rw [x2 a (fun g => hnk a (by assumption) g.1)]; exact RowLe.rfl' _)) | ((rw [x2 a (fun g => of_decide_eq_false (by assumption) g.2)]; exact RowLe.rfl' _)) | ((exact hj1 a (hne a (by assumption) (by assumption)) (of_decide_eq_true (by assumption)))) | ((have haN : a = N := (by omega); subst haN; exact RowLe.rfl' _))))))); (· (cbv; (try simp only [true_and, and_true]); (try ((repeat' apply And.intro) <;> (first | trivial | rfl | exact RowLe.rfl' _  | ((rw [l0]; done)) | ((refine rowLe_of (by rw [x0, hln]; rfl) (fun j hj => absurd hj (Nat.not_lt_zero _)))) | ((have q := ll a; rw [wrap_nat har _ (by omega), l1 a (hne a (by assumption) (by assumption)) (of_decide_eq_true (by assumption)) (of_decide_eq_true (by assumption))]; done)) | ((rw [l2 a (fun g => hnk a (by assumption) g.1)]; done)) | ((rw [l2 a (fun g => of_decide_eq_false (by assumption) g.2.1)]; done)) | ((rw [l2 a (fun g => of_decide_eq_false (by assumption) g.2.2)]; done)) | ((rw [x2 a (fun g => hnk a (by assumption) g.1)]; exact RowLe.rfl' _)) | ((rw [x2 a (fun g => of_decide_eq_false (by assumption) g.2)]; exact RowLe.rfl' _)) | ((exact hj1 a (hne a (by assumption) (by assumption)) (of_decide_eq_true (by assumption)))) | ((have haN : a = N := (by omega); subst haN; exact RowLe.rfl' _))))))); (· rfl))
    | ((with_reducible apply go_call (f := 22) (hf := Try.call22)); (· (cbv; try rfl)); (· intro wc hbc hxc; exact h1 wc hbc))
    | ((with_reducible apply go_callq (f := 22) (hf := Try.call22)); (· (cbv; try rfl)); (· intro wc hbc hxc; exact h1 wc hbc))
    | ((with_reducible apply go_callR (f := 23) (hf := Try.call23)); (· intro S; cbv; try rfl); (· intro wc S hbc hxc hrc; exact h2 wc hbc); (· rfl))
    | ((with_reducible apply go_row 7 4); (· (cbv; try rfl)))
    | ((with_reducible refine go_loopk (σ := {a : Nat // a ≤ N}) [9, 10, 11, 31, 32, 33, 34, 35, 36, 37, 38, 39, 40, 41, 42, 43, 44, 45, 46, 47, 48, 49, 50, 51, 52, 53, 54, 55, 56, 57, 58, 59, 60, 61, 62, 63, 64, 65, 66, 67, 68, 69, 70, 71, 72, 73, 74, 75, 76, 77] (fun x => [(8, .pt (.one (.int .i64 (.ofNat (lo x.1))))), (30, .pt (.one (.int .i64 (.ofNat x.1))))]) (fun x => []) (fun x => [(1, ⟨ln_ (X x.1), 4, fun j => (gt_ (X x.1) j).sc⟩)]) (fun x => N - x.1) ⟨0, by omega⟩ ?_ ?_ ?_ ?_); (· (refine le_mk ?_ ?_ ?_ ?_ <;> (cbv; (try simp only [true_and, and_true]); (try ((repeat' apply And.intro) <;> (first | trivial | rfl | exact RowLe.rfl' _ | (rw [wrap_nat har _ (by omega)]) | ((rw [l0]; done)) | ((refine rowLe_of (by rw [x0, hln]; rfl) (fun j hj => absurd hj (Nat.not_lt_zero _)))) | ((have q := ll a; rw [wrap_nat har _ (by omega), l1 a (hne a (by assumption) (by assumption)) (of_decide_eq_true (by assumption)) (of_decide_eq_true (by assumption))]; done)) | ((rw [l2 a (fun g => hnk a (by assumption) g.1)]; done)) | ((rw [l2 a (fun g => of_decide_eq_false (by assumption) g.2.1)]; done)) | ((rw [l2 a (fun g => of_decide_eq_false (by assumption) g.2.2)]; done)) | ((rw [x2 a (fun g => hnk a (by assumption) g.1)]; exact RowLe.rfl' _)) | ((rw [x2 a (fun g => of_decide_eq_false (by assumption) g.2)]; exact RowLe.rfl' _)) | ((exact hj1 a (hne a (by assumption) (by assumption)) (of_decide_eq_true (by assumption)))) | ((have haN : a = N := (by omega); subst haN; exact RowLe.rfl' _)))))))); (· (cbv; try rfl)); (· simp); (rintro ⟨a, ha⟩ mm hmm))
    | (((with_reducible apply go_need); (· exact Int.natCast_nonneg _); (· have q := hb1 a (by assumption); show ((pb a : Nat) : Int) < _; omega)))
    | (((with_reducible apply go_need); (· exact Int.natCast_nonneg _); (· have q := hne a (by assumption) (by assumption); show ((pi a : Nat) : Int) < _; omega)))
    | ((with_reducible apply go_callR (f := 24) (hf := Try.call24)); (· intro S; cbv; try rfl); (· intro wc S hbc hxc hrc; exact hOf a (by assumption) (hne a (by assumption) (by assumption)) (of_decide_eq_true (by assumption)) wc hbc); (· rfl))
    | ((with_reducible refine go_stop ⟨a + 1, by omega⟩ ?_ ?_ ?_ ?_); (· exact Nat.lt_of_lt_of_eq (show N - (a + 1) < N - a from by omega) (Eq.symm (by assumption))); (· (refine le_mk ?_ ?_ ?_ ?_ <;> (cbv; (try simp only [true_and, and_true]); (try ((repeat' apply And.intro) <;> (first | trivial | rfl | exact RowLe.rfl' _ | (rw [wrap_nat har _ (by omega)]) | ((rw [l0]; done)) | ((refine rowLe_of (by rw [x0, hln]; rfl) (fun j hj => absurd hj (Nat.not_lt_zero _)))) | ((have q := ll a; rw [wrap_nat har _ (by omega), l1 a (hne a (by assumption) (by assumption)) (of_decide_eq_true (by assumption)) (of_decide_eq_true (by assumption))]; done)) | ((rw [l2 a (fun g => hnk a (by assumption) g.1)]; done)) | ((rw [l2 a (fun g => of_decide_eq_false (by assumption) g.2.1)]; done)) | ((rw [l2 a (fun g => of_decide_eq_false (by assumption) g.2.2)]; done)) | ((rw [x2 a (fun g => hnk a (by assumption) g.1)]; exact RowLe.rfl' _)) | ((rw [x2 a (fun g => of_decide_eq_false (by assumption) g.2)]; exact RowLe.rfl' _)) | ((exact hj1 a (hne a (by assumption) (by assumption)) (of_decide_eq_true (by assumption)))) | ((have haN : a = N := (by omega); subst haN; exact RowLe.rfl' _)))))))); (· (cbv; try rfl)); (· simp))
    )
  all_goals trace_state

end Go.Proofs.Ytbimggeapaaliaa
