/- Rows of masks that are the same. No condition. -/
import Derived.Test.YtbljhhkjjlgnmaaGreatN6
import Derived.Test.YtbljhhkjjlgnmaaGreatGrC
namespace Go.Proofs.YtbljhhkjjlgnmaaGreat
open Go.RowKit
set_option linter.unusedVariables false
set_option linter.unusedSimpArgs false

/-- Two rows of memory, as outside rows. -/
def TwoM (a : Option Addr) (n cap : Nat) (f : Nat → List SC) (a' : Option Addr) (n' cap' : Nat) (g : Nat → List SC) : Nat → Nat → Row
  | 0, _ => ⟨a, n, cap, 1, f⟩
  | _, _ => ⟨a', n', cap', 1, g⟩

theorem RowIs.twoM {c c2 : Nat → Nat → Row} {w : World} {R R' : ORow} {v v' : Value} (h : RowIs c w R v) (h' : RowIs c2 w R' v') (hp : ∀ j, j < R.n → plainL (R.el j) = true) (hp' : ∀ j, j < R'.n → plainL (R'.el j) = true) (h1 : R.es = 1) (h2 : R'.es = 1) :
    ∃ a cap a' cap', v = .slice a R.n cap ∧ v' = .slice a' R'.n cap' ∧ XOk ⟨[], TwoM a R.n cap R.el a' R'.n cap' R'.el, []⟩ ⟨w, []⟩ := by
  obtain ⟨a, cap, rfl, hX⟩ := h.one hp
  obtain ⟨a', cap', rfl, hX'⟩ := h'.one hp'
  refine ⟨a, cap, a', cap', rfl, rfl, fun q i j hj => ?_⟩
  match q, hj with
  | 0, hj =>
    obtain ⟨b, p, g1, g2, g3, vs, g4, g5⟩ := hX 0 0 j hj
    rw [h1] at g5
    exact ⟨b, p, g1, g2, g3, vs, plainL_is (hp j hj) g4, g5⟩
  | q + 1, hj =>
    obtain ⟨b, p, g1, g2, g3, vs, g4, g5⟩ := hX' 0 0 j hj
    rw [h2] at g5
    exact ⟨b, p, g1, g2, g3, vs, plainL_is (hp' j hj) g4, g5⟩

set_option maxRecDepth 100000 in
theorem sameMasksC (n : Nat) (f g : Nat → Nat) (hfg : ∀ j, j < n → f j = g j) (hn : n ≤ 1000000) (c c2 : Nat → Nat → Row) (w : World) (v v' : Value) (hR : RowIs c w ⟨n, 1, fun j => [.int .u32 (.ofNat (f j))]⟩ v) (hR' : RowIs c2 w ⟨n, 1, fun j => [.int .u32 (.ofNat (g j))]⟩ v') :
    Calls Tryz.prog 19 #[v, v'] w (Ret w (.bool true)) := by
  obtain ⟨a, cap, a', cap', rfl, rfl, hX⟩ := hR.twoM hR' (fun j _ => rfl) (fun j _ => rfl) rfl rfl
  clear hR hR'
  refine go_start (args := [.pt (.one (.xs 0 0)), .pt (.one (.xs 1 0))]) (c := (TwoM a n cap (fun j => [.int .u32 (.ofNat (f j))]) a' n cap' (fun j => [.int .u32 (.ofNat (g j))]))) Tryz.func19 rfl hX rfl rfl ?_
  obtain ⟨nd, hnd, nt, hnt, ar, har, cm, hcm, mx, hmx, mn, hmn, ar01, ar12, zpl, hzpl, zjn, hzjn, zup, hzup, zmi, hzmi, zdp, hzdp, hT⟩ := t0_all
  repeat' (first
    | refine go1 ?_ | refine gobt ?_ | refine gobn ?_ | refine go3 (fun hlt => ?_) (fun hge => ?_) | refine go2 (fun h => ?_) (fun h => ?_) | exact go0 | refine god ?_ | refine gof ?_ | refine gob ?_ | (with_reducible refine fork_cons ?_ ?_)
    | ((with_reducible refine go_loopk (σ := {i : Nat // i ≤ n}) [4, 11, 12, 13, 14, 15, 16, 17, 18, 19, 20, 21, 22, 23, 24, 25] (fun x => [(5, .pt (.one (.int .i64 (.ofNat x.1))))]) (fun x => []) (fun x => []) (fun x => n - x.1) ⟨0, by omega⟩ ?_ ?_ ?_ ?_); (· exact le_mkP gole gole gole gole); (· (cbv; try rfl)); (· simp); (rintro ⟨i, hi⟩ mm hmm))
    | ((with_reducible refine go_stop ⟨i + 1, by omega⟩ ?_ ?_ ?_ ?_); (· exact Nat.lt_of_lt_of_eq (show n - (i + 1) < n - i from by omega) (Eq.symm (by assumption))); (· exact le_mkP gole gole gole gole); (· (cbv; try rfl)); (· simp))
    | fail)
  all_goals (try rfl)
  all_goals (exfalso; rw [hfg i hlt] at h; simp at h)

set_option maxRecDepth 100000 in
theorem sameMasksN (w : World) :
    Calls Tryz.prog 19 #[.slice none 0 0, .slice none 0 0] w (Ret w (.bool true)) := by
  refine go_start (args := [.pt (.one (.val (.slice none 0 0))), .pt (.one (.val (.slice none 0 0)))]) (c := NoRows) Tryz.func19 rfl (noRows_ok _) rfl rfl ?_
  obtain ⟨nd, hnd, nt, hnt, ar, har, cm, hcm, mx, hmx, mn, hmn, ar01, ar12, zpl, hzpl, zjn, hzjn, zup, hzup, zmi, hzmi, zdp, hzdp, hT⟩ := t0_all
  repeat' (first
    | ((with_reducible apply go_ev hT 400); (· (cbv; try rfl)); (fail_if_success with_reducible apply stuck_id); (try simp only [ar01, ar12]))
    | refine go1 ?_ | refine gobt ?_ | refine gobn ?_ | refine go3 (fun hlt => ?_) (fun hge => ?_) | refine go2 (fun h => ?_) (fun h => ?_) | exact go0 | refine god ?_ | refine gof ?_ | refine gob ?_ | (with_reducible refine fork_cons ?_ ?_)
    | (with_reducible apply go_rounds 1)
    | fail)
  all_goals rfl

theorem fchk_ne6 (F : GFun) : fchkV F ≠ 6 := by
  unfold fchkV
  split
  · decide
  · split
    · decide
    · split <;> decide

end Go.Proofs.YtbljhhkjjlgnmaaGreat
