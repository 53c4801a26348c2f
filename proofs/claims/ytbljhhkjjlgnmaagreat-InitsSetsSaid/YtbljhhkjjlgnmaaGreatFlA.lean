/- InitsSets, the walk. No condition. -/
import Derived.Test.YtbljhhkjjlgnmaaGreatIrE
import Derived.Test.YtbljhhkjjlgnmaaGreatN6
namespace Go.Proofs.YtbljhhkjjlgnmaaGreat
open Go.RowKit
set_option linter.unusedVariables false
set_option linter.unusedSimpArgs false

/-- Two rows of memory, as outside rows. -/
def TwoM (a : Option Addr) (n cap : Nat) (f : Nat → List SC) (a' : Option Addr) (n' cap' : Nat) (g : Nat → List SC) : Nat → Nat → Row
  | 0, _ => ⟨a, n, cap, 1, f⟩
  | _, _ => ⟨a', n', cap', 1, g⟩

theorem RowIs.twoM {c c2 : Nat → Nat → Row} {w : World} {R R' : ORow} {v v' : Value} (h : RowIs c w R v) (h' : RowIs c2 w R' v') (hp : ∀ j, j < R.n → plainL (R.el j) = true) (hp' : ∀ j, j < R'.n → plainL (R'.el j) = true) (h1 : R.es = 1) (h2 : R'.es = 1) :
    ∃ a cap a' cap', v = .slice a R.n cap ∧ v' = .slice a' R'.n cap' ∧ XOk ⟨[], TwoM a R.n cap R.el a' R'.n cap' R'.el, []⟩ ⟨w, []⟩ := by
  obtain ⟨a, cap, rfl, hX⟩ := h.one hp
  obtain ⟨a', cap', rfl, hX'⟩ := h'.one hp'
  refine ⟨a, cap, a', cap', rfl, rfl, fun q i j hj => ?_⟩
  match q, hj with
  | 0, hj =>
    obtain ⟨b, p, g1, g2, g3, vs, g4, g5⟩ := hX 0 0 j hj
    rw [h1] at g5
    exact ⟨b, p, g1, g2, g3, vs, plainL_is (hp j hj) g4, g5⟩
  | q + 1, hj =>
    obtain ⟨b, p, g1, g2, g3, vs, g4, g5⟩ := hX' 0 0 j hj
    rw [h2] at g5
    exact ⟨b, p, g1, g2, g3, vs, plainL_is (hp' j hj) g4, g5⟩

set_option maxRecDepth 100000 in
theorem sameMasksC (n : Nat) (f g : Nat → Nat) (hfg : ∀ j, j < n → f j = g j) (hn : n ≤ 1000000) (c c2 : Nat → Nat → Row) (w : World) (v v' : Value) (hR : RowIs c w ⟨n, 1, fun j => [.int .u32 (.ofNat (f j))]⟩ v) (hR' : RowIs c2 w ⟨n, 1, fun j => [.int .u32 (.ofNat (g j))]⟩ v') :
    Calls Tryz.prog 19 #[v, v'] w (Ret w (.bool true)) := by
  obtain ⟨a, cap, a', cap', rfl, rfl, hX⟩ := hR.twoM hR' (fun j _ => rfl) (fun j _ => rfl) rfl rfl
  clear hR hR'
  refine go_start (args := [.pt (.one (.xs 0 0)), .pt (.one (.xs 1 0))]) (c := (TwoM a n cap (fun j => [.int .u32 (.ofNat (f j))]) a' n cap' (fun j => [.int .u32 (.ofNat (g j))]))) Tryz.func19 rfl hX rfl rfl ?_
  obtain ⟨nd, hnd⟩ : ∃ f : Bool → Bool → Bool, f = and := ⟨_, rfl⟩
  obtain ⟨nt, hnt⟩ : ∃ f : Bool → Bool, f = not := ⟨_, rfl⟩
  obtain ⟨ar, har⟩ : ∃ f : BinOp → IntKind → Int → Int → Int, f = rAr := ⟨_, rfl⟩
  obtain ⟨cm, hcm⟩ : ∃ f : BinOp → Int → Int → Bool, f = rCm := ⟨_, rfl⟩
  obtain ⟨mx, hmx⟩ : ∃ f : Int → Int → Int, f = rMx := ⟨_, rfl⟩
  obtain ⟨mn, hmn⟩ : ∃ f : Int → Int → Int, f = rMn := ⟨_, rfl⟩
  have ar01 : ar .add .i64 0 1 = 1 := by rw [har]; decide
  have ar12 : ar .add .i64 1 1 = 2 := by rw [har]; decide
  obtain ⟨zpl, hzpl⟩ : ∃ f : Nat → Nat → Nat, f = fun x y => x + y := ⟨_, rfl⟩
  obtain ⟨zjn, hzjn⟩ : ∃ f : Nat → (Nat → List SC) → (Nat → List SC) → Nat → List SC, f = rJn := ⟨_, rfl⟩
  obtain ⟨zup, hzup⟩ : ∃ f : (Nat → List SC) → Nat → Nat → List SC → Nat → List SC, f = rUp := ⟨_, rfl⟩
  obtain ⟨zmi, hzmi⟩ : ∃ f : Nat → Nat → Nat, f = fun x y => x - y := ⟨_, rfl⟩
  obtain ⟨zdp, hzdp⟩ : ∃ f : Nat → (Nat → List SC) → Nat → List SC, f = rDp := ⟨_, rfl⟩
  have hT := T0_ok hnd hnt har hcm hmx hmn hzpl hzjn hzup hzmi hzdp
  repeat' (first
    | ((with_reducible apply go_ev hT 400); (· (cbv; try rfl)); (fail_if_success with_reducible apply stuck_id))
    | ((with_reducible refine go_brnf hnt ?_ ?_); (· first | rfl | assumption))
    | (with_reducible refine go_brn hnt (fun h => ?_) (fun h => ?_))
    | (with_reducible refine go_brl hcm (fun hlt => ?_) (fun hge => ?_))
    | ((with_reducible apply go_ret_val hT); (· (cbv; try rfl)); (· (cbv; try rfl)))
    | ((with_reducible apply go_draw); (· rfl); (· kernel_rfl); (· kernel_rfl))
    | ((with_reducible refine go_need ?_ ?_ ?_); (· first | omega | (simp only [Int.ofNat_eq_natCast]; omega)); (· first | omega | (simp only [Int.ofNat_eq_natCast]; omega)))
    | ((with_reducible refine go_loopk (σ := {i : Nat // i ≤ n}) [4, 11, 12, 13, 14, 15, 16, 17, 18, 19, 20, 21, 22, 23, 24, 25] (fun x => [(5, .pt (.one (.int .i64 (.ofNat x.1))))]) (fun x => []) (fun x => []) (fun x => n - x.1) ⟨0, by omega⟩ ?_ ?_ ?_ ?_); (· (refine le_mk ?_ ?_ ?_ ?_ <;> (cbv; (try simp only [true_and, and_true]); (try ((repeat' apply And.intro) <;> (first | trivial | rfl | exact RowLe.rfl' _ | (rw [wrap_nat har _ (by omega)]))))))); (· (cbv; try rfl)); (· simp); (rintro ⟨i, hi⟩ mm hmm))
    | ((with_reducible refine go_stop ⟨i + 1, by omega⟩ ?_ ?_ ?_ ?_); (· exact Nat.lt_of_lt_of_eq (show n - (i + 1) < n - i from by omega) (Eq.symm (by assumption))); (· (refine le_mk ?_ ?_ ?_ ?_ <;> (cbv; (try simp only [true_and, and_true]); (try ((repeat' apply And.intro) <;> (first | trivial | rfl | exact RowLe.rfl' _ | (rw [wrap_nat har _ (by omega)]))))))); (· (cbv; try rfl)); (· simp))
    )
  all_goals (try rfl)
  all_goals (exfalso; rw [hfg i hlt] at h; simp at h)

set_option maxRecDepth 100000 in
theorem sameMasksN (w : World) :
    Calls Tryz.prog 19 #[.slice none 0 0, .slice none 0 0] w (Ret w (.bool true)) := by
  refine go_start (args := [.pt (.one (.val (.slice none 0 0))), .pt (.one (.val (.slice none 0 0)))]) (c := NoRows) Tryz.func19 rfl (noRows_ok _) rfl rfl ?_
  obtain ⟨nd, hnd⟩ : ∃ f : Bool → Bool → Bool, f = and := ⟨_, rfl⟩
  obtain ⟨nt, hnt⟩ : ∃ f : Bool → Bool, f = not := ⟨_, rfl⟩
  obtain ⟨ar, har⟩ : ∃ f : BinOp → IntKind → Int → Int → Int, f = rAr := ⟨_, rfl⟩
  obtain ⟨cm, hcm⟩ : ∃ f : BinOp → Int → Int → Bool, f = rCm := ⟨_, rfl⟩
  obtain ⟨mx, hmx⟩ : ∃ f : Int → Int → Int, f = rMx := ⟨_, rfl⟩
  obtain ⟨mn, hmn⟩ : ∃ f : Int → Int → Int, f = rMn := ⟨_, rfl⟩
  have ar01 : ar .add .i64 0 1 = 1 := by rw [har]; decide
  have ar12 : ar .add .i64 1 1 = 2 := by rw [har]; decide
  obtain ⟨zpl, hzpl⟩ : ∃ f : Nat → Nat → Nat, f = fun x y => x + y := ⟨_, rfl⟩
  obtain ⟨zjn, hzjn⟩ : ∃ f : Nat → (Nat → List SC) → (Nat → List SC) → Nat → List SC, f = rJn := ⟨_, rfl⟩
  obtain ⟨zup, hzup⟩ : ∃ f : (Nat → List SC) → Nat → Nat → List SC → Nat → List SC, f = rUp := ⟨_, rfl⟩
  obtain ⟨zmi, hzmi⟩ : ∃ f : Nat → Nat → Nat, f = fun x y => x - y := ⟨_, rfl⟩
  obtain ⟨zdp, hzdp⟩ : ∃ f : Nat → (Nat → List SC) → Nat → List SC, f = rDp := ⟨_, rfl⟩
  have hT := T0_ok hnd hnt har hcm hmx hmn hzpl hzjn hzup hzmi hzdp
  repeat' (first
    | ((with_reducible apply go_ev hT 400); (· (cbv; try rfl)); (fail_if_success with_reducible apply stuck_id); (try simp only [ar01, ar12]))
    | ((with_reducible refine go_brf ?_ ?_); (· first | rfl | assumption | (rw [hcm]; decide)))
    | ((with_reducible refine go_brnf hnt ?_ ?_); (· first | rfl | assumption))
    | ((with_reducible apply go_ret_val hT); (· (cbv; try rfl)); (· (cbv; try rfl)))
    | (with_reducible apply go_rounds 1)
    )
  all_goals rfl

theorem fchk_ne6 (F : GFun) : fchkV F ≠ 6 := by
  unfold fchkV
  split
  · decide
  · split
    · decide
    · split <;> decide

set_option maxRecDepth 100000 in
set_option maxHeartbeats 8000000 in
theorem setsL (F : GFun) (w : World) (hF : F.At w) (hK : F.Ty8) :
    Calls Tryz.prog 3 #[F.val] w (Ret w (.bool true)) := by
  have h1 (wc : World) (hk : KB ⟨w, []⟩ wc) := greatC F wc (hF.later hk)
  have h2 (wc : World) (hk : KB ⟨w, []⟩ wc) := gfC F wc (hF.later hk)
  generalize greatB F = q1 at h1
  generalize gfB F = q2 at h2
  by_cases hO : fchkV F = 0
  case neg =>
    have h3 (wc : World) (hk : KB ⟨w, []⟩ wc) := setBad F wc (hF.later hk) hO
    have h4 (wc : World) (hk : KB ⟨w, []⟩ wc) := firstBad F wc (hF.later hk) hO
    have h5 (wc : World) (hk : KB ⟨w, []⟩ wc) := initsBad F wc (hF.later hk) hO (fchk_ne6 F)
    have h6 (wc : World) (hk : KB ⟨w, []⟩ wc) := rSetBad F wc (hF.later hk) hK (by rw [rchk_eq]; exact hO)
    have h7 (wc : World) (hk : KB ⟨w, []⟩ wc) := rFirstBad F wc (hF.later hk) hK (by rw [rchk_eq]; exact hO)
    have h8 (wc : World) (hk : KB ⟨w, []⟩ wc) := rInitsBad F wc (hF.later hk) hK (by rw [rchk_eq]; exact hO) (by rw [rchk_eq]; exact fchk_ne6 F)
    rw [rchk_eq] at h6 h7 h8
    generalize fchkV F = z at h3 h4 h5 h6 h7 h8
    clear hK hO
    obtain ⟨pa, un, lA, ln, lc, lk, lt, bA, bn, bc, sA, sn, sc, s, jA, jn, jc, ja, jk, jo, jf, jx, je, jd⟩ := F
    obtain ⟨hX, hl, hb, hs, hj⟩ := hF
    simp only at hl hb hs hj
    refine go_start (args := [.pt (.agg (GFun.dat _))]) (c := (funX _)) Tryz.func3 rfl hX rfl rfl ?_
    obtain ⟨nd, hnd⟩ : ∃ f : Bool → Bool → Bool, f = and := ⟨_, rfl⟩
    obtain ⟨nt, hnt⟩ : ∃ f : Bool → Bool, f = not := ⟨_, rfl⟩
    obtain ⟨ar, har⟩ : ∃ f : BinOp → IntKind → Int → Int → Int, f = rAr := ⟨_, rfl⟩
    obtain ⟨cm, hcm⟩ : ∃ f : BinOp → Int → Int → Bool, f = rCm := ⟨_, rfl⟩
    obtain ⟨mx, hmx⟩ : ∃ f : Int → Int → Int, f = rMx := ⟨_, rfl⟩
    obtain ⟨mn, hmn⟩ : ∃ f : Int → Int → Int, f = rMn := ⟨_, rfl⟩
    have ar01 : ar .add .i64 0 1 = 1 := by rw [har]; decide
    have ar12 : ar .add .i64 1 1 = 2 := by rw [har]; decide
    obtain ⟨zpl, hzpl⟩ : ∃ f : Nat → Nat → Nat, f = fun x y => x + y := ⟨_, rfl⟩
    obtain ⟨zjn, hzjn⟩ : ∃ f : Nat → (Nat → List SC) → (Nat → List SC) → Nat → List SC, f = rJn := ⟨_, rfl⟩
    obtain ⟨zup, hzup⟩ : ∃ f : (Nat → List SC) → Nat → Nat → List SC → Nat → List SC, f = rUp := ⟨_, rfl⟩
    obtain ⟨zmi, hzmi⟩ : ∃ f : Nat → Nat → Nat, f = fun x y => x - y := ⟨_, rfl⟩
    obtain ⟨zdp, hzdp⟩ : ∃ f : Nat → (Nat → List SC) → Nat → List SC, f = rDp := ⟨_, rfl⟩
    have hT := T0_ok hnd hnt har hcm hmx hmn hzpl hzjn hzup hzmi hzdp
    repeat' (first
      | ((with_reducible apply go_ev hT 400); (· (cbv; try rfl)); (fail_if_success with_reducible apply stuck_id))
      | ((with_reducible refine go_brt ?_ ?_); (· first | rfl | assumption | (rw [hcm]; decide)))
      | (with_reducible refine go_br (fun h => ?_) (fun h => ?_))
      | ((with_reducible apply go_ret_val hT); (· (cbv; try rfl)); (· (cbv; try rfl)))
      | ((with_reducible apply go_draw); (· rfl); (· kernel_rfl); (· kernel_rfl))
      | ((with_reducible apply go_call_bool (f := 13) (hf := Tryz.call13)); (· (cbv; try rfl)); (· intro wc hbc hxc; exact h1 wc hbc); intro z hz)
      | ((with_reducible apply go_call_bool (f := 14) (hf := Tryz.call14)); (· (cbv; try rfl)); (· intro wc hbc hxc; exact h2 wc hbc); intro z hz)
      | ((with_reducible apply go_call (f := 15) (hf := Tryz.call15)); (· (cbv; try rfl)); (· intro wc hbc hxc; exact h3 wc hbc))
      | ((with_reducible apply go_call (f := 17) (hf := Tryz.call17)); (· (cbv; try rfl)); (· intro wc hbc hxc; exact h4 wc hbc))
      | ((with_reducible apply go_callq (f := 20) (hf := Tryz.call20)); (· (cbv; try rfl)); (· intro wc hbc hxc; exact h5 wc hbc))
      | ((with_reducible apply go_call (f := 16) (hf := Tryz.call16)); (· (cbv; try rfl)); (· intro wc hbc hxc; exact h6 wc hbc))
      | ((with_reducible apply go_call (f := 18) (hf := Tryz.call18)); (· (cbv; try rfl)); (· intro wc hbc hxc; exact h7 wc hbc))
      | ((with_reducible apply go_callq (f := 21) (hf := Tryz.call21)); (· (cbv; try rfl)); (· intro wc hbc hxc; exact h8 wc hbc))
      | ((with_reducible apply go_callq (f := 19) (hf := Tryz.call19)); (· (cbv; try rfl)); (· intro wc hbc hxc; exact sameMasksN wc))
      )
    all_goals (refine bool_eq ?_; simp_all)
  have hO : F.Ok := hO
  have h3 (wc : World) (hk : KB ⟨w, []⟩ wc) := setC F wc (hF.later hk) hO
  have h4 (wc : World) (hk : KB ⟨w, []⟩ wc) := firstC F wc (hF.later hk) hO
  have h5 (wc : World) (hk : KB ⟨w, []⟩ wc) := initsC F wc (hF.later hk) hO
  have h6 (wc : World) (hk : KB ⟨w, []⟩ wc) := rSetC F wc (hF.later hk) hK hO
  have h7 (wc : World) (hk : KB ⟨w, []⟩ wc) := rFirstC F wc (hF.later hk) hK hO
  have h8 (wc : World) (hk : KB ⟨w, []⟩ wc) := rInitsC F wc (hF.later hk) hK hO
  have hN9 := hO.pts
  obtain ⟨N, hN⟩ : ∃ N, N = stN F.sn F.bn := ⟨_, rfl⟩
  obtain ⟨rm, hrm⟩ : ∃ f : Nat → Nat, f = fun j => mk (setM F j) F.ln := ⟨_, rfl⟩
  have hRM : (⟨stN F.sn F.bn, 1, fun j => [SC.int .u32 (.ofNat (mk (setM F j) F.ln))]⟩ : ORow) = ⟨N, 1, fun j => [SC.int .u32 (.ofNat (rm j))]⟩ := by rw [hrm, hN]
  rw [hRM] at h3 h6
  rw [← hN] at hN9
  have h9 (wc : World) (c : Nat → Nat → Row) (v v' : Value) := sameMasksC N rm rm (fun _ _ => rfl) (by omega) c c wc v v'
  generalize firstI F = f1 at h4 h7
  generalize initI F = u at h5 h8
  clear hRM hrm hN hO hK
  obtain ⟨pa, un, lA, ln, lc, lk, lt, bA, bn, bc, sA, sn, sc, s, jA, jn, jc, ja, jk, jo, jf, jx, je, jd⟩ := F
  obtain ⟨hX, hl, hb, hs, hj⟩ := hF
  simp only at hl hb hs hj
  refine go_start (args := [.pt (.agg (GFun.dat _))]) (c := (funX _)) Tryz.func3 rfl hX rfl rfl ?_
  obtain ⟨nd, hnd⟩ : ∃ f : Bool → Bool → Bool, f = and := ⟨_, rfl⟩
  obtain ⟨nt, hnt⟩ : ∃ f : Bool → Bool, f = not := ⟨_, rfl⟩
  obtain ⟨ar, har⟩ : ∃ f : BinOp → IntKind → Int → Int → Int, f = rAr := ⟨_, rfl⟩
  obtain ⟨cm, hcm⟩ : ∃ f : BinOp → Int → Int → Bool, f = rCm := ⟨_, rfl⟩
  obtain ⟨mx, hmx⟩ : ∃ f : Int → Int → Int, f = rMx := ⟨_, rfl⟩
  obtain ⟨mn, hmn⟩ : ∃ f : Int → Int → Int, f = rMn := ⟨_, rfl⟩
  have ar01 : ar .add .i64 0 1 = 1 := by rw [har]; decide
  have ar12 : ar .add .i64 1 1 = 2 := by rw [har]; decide
  obtain ⟨zpl, hzpl⟩ : ∃ f : Nat → Nat → Nat, f = fun x y => x + y := ⟨_, rfl⟩
  obtain ⟨zjn, hzjn⟩ : ∃ f : Nat → (Nat → List SC) → (Nat → List SC) → Nat → List SC, f = rJn := ⟨_, rfl⟩
  obtain ⟨zup, hzup⟩ : ∃ f : (Nat → List SC) → Nat → Nat → List SC → Nat → List SC, f = rUp := ⟨_, rfl⟩
  obtain ⟨zmi, hzmi⟩ : ∃ f : Nat → Nat → Nat, f = fun x y => x - y := ⟨_, rfl⟩
  obtain ⟨zdp, hzdp⟩ : ∃ f : Nat → (Nat → List SC) → Nat → List SC, f = rDp := ⟨_, rfl⟩
  have hT := T0_ok hnd hnt har hcm hmx hmn hzpl hzjn hzup hzmi hzdp
  repeat' (first
    | ((with_reducible apply go_ev hT 400); (· (cbv; try rfl)); (fail_if_success with_reducible apply stuck_id))
    | ((with_reducible refine go_brt ?_ ?_); (· first | rfl | assumption | (rw [hcm]; decide)))
    | (with_reducible refine go_br (fun h => ?_) (fun h => ?_))
    | ((with_reducible apply go_ret_val hT); (· (cbv; try rfl)); (· (cbv; try rfl)))
    | ((with_reducible apply go_draw); (· rfl); (· kernel_rfl); (· kernel_rfl))
    | ((with_reducible apply go_call_bool (f := 13) (hf := Tryz.call13)); (· (cbv; try rfl)); (· intro wc hbc hxc; exact h1 wc hbc); intro z hz)
    | ((with_reducible apply go_call_bool (f := 14) (hf := Tryz.call14)); (· (cbv; try rfl)); (· intro wc hbc hxc; exact h2 wc hbc); intro z hz)
    | ((with_reducible apply go_callR (f := 15) (hf := Tryz.call15)); (· intro S; cbv; try rfl); (· intro wc S hbc hxc hrc; exact h3 wc hbc); (· rfl))
    | ((with_reducible apply go_call (f := 17) (hf := Tryz.call17)); (· (cbv; try rfl)); (· intro wc hbc hxc; exact h4 wc hbc))
    | ((with_reducible apply go_callq (f := 20) (hf := Tryz.call20)); (· (cbv; try rfl)); (· intro wc hbc hxc; exact h5 wc hbc))
    | ((with_reducible apply go_callR (f := 16) (hf := Tryz.call16)); (· intro S; cbv; try rfl); (· intro wc S hbc hxc hrc; exact h6 wc hbc); (· rfl))
    | ((with_reducible apply go_call (f := 18) (hf := Tryz.call18)); (· (cbv; try rfl)); (· intro wc hbc hxc; exact h7 wc hbc))
    | ((with_reducible apply go_callq (f := 21) (hf := Tryz.call21)); (· (cbv; try rfl)); (· intro wc hbc hxc; exact h8 wc hbc))
    | ((with_reducible apply go_callqRv (f := 19) (hf := Tryz.call19)); (· intro S; cbv; try rfl); (· intro wc S hbc hxc hrc; exact h9 wc _ _ _ (hrc 0 _ rfl) (hrc 1 _ rfl)))
    )
  all_goals rfl

end Go.Proofs.YtbljhhkjjlgnmaaGreat
