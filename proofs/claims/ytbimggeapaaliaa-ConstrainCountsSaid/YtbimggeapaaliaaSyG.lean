/- Layer 7 of the program: the counts of the two-phase locals. No condition. -/
import Derived.Test.YtbimggeapaaliaaSyE
namespace Go.Proofs.Ytbimggeapaaliaa
open Go.RowKit
set_option linter.unusedVariables false
set_option linter.unusedSimpArgs false

/-- Sixteen numbers in a row. -/
def arrC (f : Nat → Int) : List SC := [.int .i64 (f 0), .int .i64 (f 1), .int .i64 (f 2), .int .i64 (f 3), .int .i64 (f 4), .int .i64 (f 5), .int .i64 (f 6), .int .i64 (f 7), .int .i64 (f 8), .int .i64 (f 9), .int .i64 (f 10), .int .i64 (f 11), .int .i64 (f 12), .int .i64 (f 13), .int .i64 (f 14), .int .i64 (f 15)]
def bump (f : Nat → Int) (l : Int) (j : Nat) : Int := if Int.ofNat j = l then rAr .add .i64 (f j) 1 else f j
def cE (x : (Nat → Int) × (Nat → Int)) (p : GPlace) (b : Bool) : (Nat → Int) × (Nat → Int) :=
  (bump x.1 p.l, if b = true ∧ p.d = false ∧ p.f = 0 then bump x.2 p.l else x.2)

theorem arr_eq {f g : Nat → Int} (h : ∀ j, f j = g j) : arrC f = arrC g := by rw [funext h]

set_option maxRecDepth 100000 in
set_option maxHeartbeats 1000000 in
theorem countOn (c : Nat → Nat → Row) : OnOk c 51 ((Nat → Int) × (Nat → Int)) (fun x => arrC x.1) (fun x => arrC x.2) cE (fun p => 0 ≤ p.l ∧ p.l < 16) where
  call := Try.call51
  re0 := fun _ => rfl
  re1 := fun _ => rfl
  bnd0 := fun _ _ _ => rfl
  bnd1 := fun _ _ _ => rfl
  eff := by
    intro x p b hp
    obtain ⟨f, g⟩ := x
    obtain ⟨l, d, n⟩ := p
    simp only at hp
    obtain ⟨y, hy⟩ : ∃ y, y = cE (f, g) ⟨l, d, n⟩ b := ⟨_, rfl⟩
    simp only [← hy]
    have hl : l = 0 ∨ l = 1 ∨ l = 2 ∨ l = 3 ∨ l = 4 ∨ l = 5 ∨ l = 6 ∨ l = 7 ∨ l = 8 ∨ l = 9 ∨ l = 10 ∨ l = 11 ∨ l = 12 ∨ l = 13 ∨ l = 14 ∨ l = 15 := by omega
    clear hp
    rcases hl with rfl | rfl | rfl | rfl | rfl | rfl | rfl | rfl | rfl | rfl | rfl | rfl | rfl | rfl | rfl | rfl
    all_goals
      skip
      refine go_start_eff Try.func51 rfl rfl (fun w bs hlen => ?_)
      obtain ⟨nd, hnd⟩ : ∃ f : Bool → Bool → Bool, f = and := ⟨_, rfl⟩
      obtain ⟨nt, hnt⟩ : ∃ f : Bool → Bool, f = not := ⟨_, rfl⟩
      obtain ⟨ar, har⟩ : ∃ f : BinOp → IntKind → Int → Int → Int, f = rAr := ⟨_, rfl⟩
      obtain ⟨cm, hcm⟩ : ∃ f : BinOp → Int → Int → Bool, f = rCm := ⟨_, rfl⟩
      obtain ⟨mx, hmx⟩ : ∃ f : Int → Int → Int, f = rMx := ⟨_, rfl⟩
      obtain ⟨mn, hmn⟩ : ∃ f : Int → Int → Int, f = rMn := ⟨_, rfl⟩
      have ar01 : ar .add .i64 0 1 = 1 := by rw [har]; decide
      have ar12 : ar .add .i64 1 1 = 2 := by rw [har]; decide
      obtain ⟨zpl, hzpl⟩ : ∃ f : Nat → Nat → Nat, f = fun x y => x + y := ⟨_, rfl⟩
      obtain ⟨zjn, hzjn⟩ : ∃ f : Nat → (Nat → List SC) → (Nat → List SC) → Nat → List SC, f = rJn := ⟨_, rfl⟩
      obtain ⟨zup, hzup⟩ : ∃ f : (Nat → List SC) → Nat → Nat → List SC → Nat → List SC, f = rUp := ⟨_, rfl⟩
      obtain ⟨zmi, hzmi⟩ : ∃ f : Nat → Nat → Nat, f = fun x y => x - y := ⟨_, rfl⟩
      obtain ⟨zdp, hzdp⟩ : ∃ f : Nat → (Nat → List SC) → Nat → List SC, f = rDp := ⟨_, rfl⟩
      have hT := T0_ok hnd hnt har hcm hmx hmn hzpl hzjn hzup hzmi hzdp
      repeat' (first
        | ((with_reducible apply go_ev hT 400); (· (cbv; try rfl)); (fail_if_success with_reducible apply stuck_id))
        | ((with_reducible refine go_brt ?_ ?_); (· first | rfl | assumption | (rw [hcm]; decide)))
        | ((with_reducible refine go_brf ?_ ?_); (· first | rfl | assumption | (rw [hcm]; decide)))
        | ((with_reducible refine go_brnt hnt ?_ ?_); (· first | rfl | assumption))
        | ((with_reducible refine go_brnf hnt ?_ ?_); (· first | rfl | assumption))
        | (with_reducible refine go_brn hnt (fun h => ?_) (fun h => ?_))
        | (with_reducible refine go_brl hcm (fun hlt => ?_) (fun hge => ?_))
        | (with_reducible refine go_br (fun h => ?_) (fun h => ?_))
        | ((with_reducible apply go_ret_val hT); (· (cbv; try rfl)); (· (cbv; try rfl)))
        | ((with_reducible apply go_fin_val hT); (· (cbv; try rfl)); (· (cbv; try rfl)))
        | ((with_reducible apply go_fin_eff hT hlen); (· (cbv; try rfl)); (· (cbv; try rfl)); (· rfl); (· (cbv; (try simp only [true_and, and_true]); (try ((repeat' apply And.intro) <;> (first | trivial | rfl | exact RowLe.rfl' _ | (rw [wrap_nat har _ (by omega)]) | ((rw [hy]; simp_all [cE, bump]; done))))))); (· (cbv; try rfl)))
        | ((with_reducible apply go_ret_eff hT hlen); (· (cbv; try rfl)); (· (cbv; try rfl)); (· rfl); (· (cbv; (try simp only [true_and, and_true]); (try ((repeat' apply And.intro) <;> (first | trivial | rfl | exact RowLe.rfl' _ | (rw [wrap_nat har _ (by omega)]) | ((rw [hy]; simp_all [cE, bump]; done))))))); (· (cbv; try rfl)))
        | ((with_reducible apply go_draw); (· rfl); (· kernel_rfl); (· kernel_rfl))
        | ((with_reducible apply go_drawE); (· kernel_rfl))
        | (with_reducible refine go_fork ?_)
        | (with_reducible refine fork_cons ?_ ?_)
        | (with_reducible exact fork_nil)
        | ((with_reducible refine go_need ?_ ?_ ?_); (· first | omega | (simp only [Int.ofNat_eq_natCast]; omega)); (· first | omega | (simp only [Int.ofNat_eq_natCast]; omega)))
        | ((with_reducible refine go_ob ?_ ?_); (· first | trivial | (refine ⟨trivial, ?_⟩; omega) | (rw [hzpl]; refine ⟨trivial, ?_⟩; show _ + _ ≤ 1073741824; omega) | (rw [hzpl]; show _ + _ ≤ 1073741824; omega)))
        | ((with_reducible apply go_ret_rows hT); (· (cbv; try rfl)); (· (cbv; try rfl)); (· (cbv; (try simp only [true_and, and_true]); (try ((repeat' apply And.intro) <;> (first | trivial | rfl | decide  | ((rw [hy]; simp_all [cE, bump]; done))))))); (· (cbv; (try simp only [true_and, and_true]); (try ((repeat' apply And.intro) <;> (first | trivial | rfl | exact RowLe.rfl' _  | ((rw [hy]; simp_all [cE, bump]; done))))))); (· rfl))
        | ((with_reducible apply go_fin_rows hT); (· (cbv; try rfl)); (· (cbv; try rfl)); (· (cbv; (try simp only [true_and, and_true]); (try ((repeat' apply And.intro) <;> (first | trivial | rfl | decide  | ((rw [hy]; simp_all [cE, bump]; done))))))); (· (cbv; (try simp only [true_and, and_true]); (try ((repeat' apply And.intro) <;> (first | trivial | rfl | exact RowLe.rfl' _  | ((rw [hy]; simp_all [cE, bump]; done))))))); (· rfl))
        | (((with_reducible apply go_ask); (· rfl); (· rfl)))
        | (((with_reducible apply go_askS); (· simp); (· rfl)))
        )

end Go.Proofs.Ytbimggeapaaliaa
