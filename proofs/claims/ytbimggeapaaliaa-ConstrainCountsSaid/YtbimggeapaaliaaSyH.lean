/- Layer 7 of the program: whether a statement assigns a two-phase borrow; rows of sixteen. No condition. -/
import Derived.Test.YtbimggeapaaliaaSyG
namespace Go.Proofs.Ytbimggeapaaliaa
open Go.RowKit
set_option linter.unusedVariables false
set_option linter.unusedSimpArgs false

def twoB (s : GStmt) : Bool := s.k == 1 && s.r.k == 4 && s.r.bo == 3

set_option maxRecDepth 100000 in
set_option maxHeartbeats 1000000 in
theorem twoC (s : GStmt) (w : World) :
    Calls Try.prog 52 #[s.val] w (Ret w (.bool (twoB s))) := by
  obtain ⟨k, ⟨ql, qd, qf⟩, ⟨rk, rop, rbo, ⟨ak, an, ⟨al, ad, af⟩⟩, ⟨bk, bn, ⟨bl, bd, bf⟩⟩, ⟨pl, pd, pf⟩⟩, ⟨ck, cn, ⟨cl, cd, cf⟩⟩, l⟩ := s
  unfold twoB
  refine go_start (args := [.pt (.agg (GStmt.sc _))]) (c := NoRows) Try.func52 rfl (noRows_ok _) rfl rfl ?_
  obtain ⟨nd, hnd⟩ : ∃ f : Bool → Bool → Bool, f = and := ⟨_, rfl⟩
  obtain ⟨nt, hnt⟩ : ∃ f : Bool → Bool, f = not := ⟨_, rfl⟩
  obtain ⟨ar, har⟩ : ∃ f : BinOp → IntKind → Int → Int → Int, f = rAr := ⟨_, rfl⟩
  obtain ⟨cm, hcm⟩ : ∃ f : BinOp → Int → Int → Bool, f = rCm := ⟨_, rfl⟩
  obtain ⟨mx, hmx⟩ : ∃ f : Int → Int → Int, f = rMx := ⟨_, rfl⟩
  obtain ⟨mn, hmn⟩ : ∃ f : Int → Int → Int, f = rMn := ⟨_, rfl⟩
  have ar01 : ar .add .i64 0 1 = 1 := by rw [har]; decide
  have ar12 : ar .add .i64 1 1 = 2 := by rw [har]; decide
  obtain ⟨zpl, hzpl⟩ : ∃ f : Nat → Nat → Nat, f = fun x y => x + y := ⟨_, rfl⟩
  obtain ⟨zjn, hzjn⟩ : ∃ f : Nat → (Nat → List SC) → (Nat → List SC) → Nat → List SC, f = rJn := ⟨_, rfl⟩
  obtain ⟨zup, hzup⟩ : ∃ f : (Nat → List SC) → Nat → Nat → List SC → Nat → List SC, f = rUp := ⟨_, rfl⟩
  obtain ⟨zmi, hzmi⟩ : ∃ f : Nat → Nat → Nat, f = fun x y => x - y := ⟨_, rfl⟩
  obtain ⟨zdp, hzdp⟩ : ∃ f : Nat → (Nat → List SC) → Nat → List SC, f = rDp := ⟨_, rfl⟩
  have hT := T0_ok hnd hnt har hcm hmx hmn hzpl hzjn hzup hzmi hzdp
  repeat' (first
    | ((with_reducible apply go_ev hT 400); (· (cbv; try rfl)); (fail_if_success with_reducible apply stuck_id))
    | ((with_reducible refine go_brt ?_ ?_); (· first | rfl | assumption | (rw [hcm]; decide)))
    | ((with_reducible refine go_brf ?_ ?_); (· first | rfl | assumption | (rw [hcm]; decide)))
    | ((with_reducible refine go_brnt hnt ?_ ?_); (· first | rfl | assumption))
    | ((with_reducible refine go_brnf hnt ?_ ?_); (· first | rfl | assumption))
    | (with_reducible refine go_brn hnt (fun h => ?_) (fun h => ?_))
    | (with_reducible refine go_brl hcm (fun hlt => ?_) (fun hge => ?_))
    | (with_reducible refine go_br (fun h => ?_) (fun h => ?_))
    | ((with_reducible apply go_ret_val hT); (· (cbv; try rfl)); (· (cbv; try rfl)))
    | ((with_reducible apply go_fin_val hT); (· (cbv; try rfl)); (· (cbv; try rfl)))
    | ((with_reducible apply go_draw); (· rfl); (· kernel_rfl); (· kernel_rfl))
    | ((with_reducible apply go_drawE); (· kernel_rfl))
    | (with_reducible refine go_fork ?_)
    | (with_reducible refine fork_cons ?_ ?_)
    | (with_reducible exact fork_nil)
    | ((with_reducible refine go_need ?_ ?_ ?_); (· first | omega | (simp only [Int.ofNat_eq_natCast]; omega)); (· first | omega | (simp only [Int.ofNat_eq_natCast]; omega)))
    | ((with_reducible refine go_ob ?_ ?_); (· first | trivial | (refine ⟨trivial, ?_⟩; omega) | (rw [hzpl]; refine ⟨trivial, ?_⟩; show _ + _ ≤ 1073741824; omega) | (rw [hzpl]; show _ + _ ≤ 1073741824; omega)))
    | ((with_reducible apply go_ret_rows hT); (· (cbv; try rfl)); (· (cbv; try rfl)); (· (cbv; (try simp only [true_and, and_true]); (try ((repeat' apply And.intro) <;> (first | trivial | rfl | decide ))))); (· (cbv; (try simp only [true_and, and_true]); (try ((repeat' apply And.intro) <;> (first | trivial | rfl | exact RowLe.rfl' _ ))))); (· rfl))
    | ((with_reducible apply go_fin_rows hT); (· (cbv; try rfl)); (· (cbv; try rfl)); (· (cbv; (try simp only [true_and, and_true]); (try ((repeat' apply And.intro) <;> (first | trivial | rfl | decide ))))); (· (cbv; (try simp only [true_and, and_true]); (try ((repeat' apply And.intro) <;> (first | trivial | rfl | exact RowLe.rfl' _ ))))); (· rfl))
    )
  all_goals
    clear ar01 ar12 hT
    subst hnd hnt hmx hmn
    refine bool_eq ?_
  all_goals grind

def arrB (f : Nat → Bool) : List SC := [.bool (f 0), .bool (f 1), .bool (f 2), .bool (f 3), .bool (f 4), .bool (f 5), .bool (f 6), .bool (f 7), .bool (f 8), .bool (f 9), .bool (f 10), .bool (f 11), .bool (f 12), .bool (f 13), .bool (f 14), .bool (f 15)]
def turn {α : Type} (f : Nat → α) (o : Nat) (v : α) (j : Nat) : α := if j = o then v else f j
theorem lt16 {o : Nat} (h : o < 16) : o = 0 ∨ o = 1 ∨ o = 2 ∨ o = 3 ∨ o = 4 ∨ o = 5 ∨ o = 6 ∨ o = 7 ∨ o = 8 ∨ o = 9 ∨ o = 10 ∨ o = 11 ∨ o = 12 ∨ o = 13 ∨ o = 14 ∨ o = 15 := by omega
theorem arrC_get (f : Nat → Int) {o : Nat} (h : o < 16) : (arrC f)[o]? = some (.int .i64 (f o)) := by
  rcases lt16 h with rfl | rfl | rfl | rfl | rfl | rfl | rfl | rfl | rfl | rfl | rfl | rfl | rfl | rfl | rfl | rfl <;> rfl
theorem arrB_get (f : Nat → Bool) {o : Nat} (h : o < 16) : (arrB f)[o]? = some (.bool (f o)) := by
  rcases lt16 h with rfl | rfl | rfl | rfl | rfl | rfl | rfl | rfl | rfl | rfl | rfl | rfl | rfl | rfl | rfl | rfl <;> rfl
theorem arrC_put (f : Nat → Int) (v : Int) {o : Nat} (h : o < 16) : pasteL (arrC f) o [.int .i64 v] = arrC (turn f o v) := by
  rcases lt16 h with rfl | rfl | rfl | rfl | rfl | rfl | rfl | rfl | rfl | rfl | rfl | rfl | rfl | rfl | rfl | rfl <;> rfl
theorem arrB_put (f : Nat → Bool) (v : Bool) {o : Nat} (h : o < 16) : pasteL (arrB f) o [.bool v] = arrB (turn f o v) := by
  rcases lt16 h with rfl | rfl | rfl | rfl | rfl | rfl | rfl | rfl | rfl | rfl | rfl | rfl | rfl | rfl | rfl | rfl <;> rfl
/-- What a count makes of a row. -/
theorem bump_turn (f : Nat → Int) (o : Nat) : bump f (Int.ofNat o) = turn f o (rAr .add .i64 (f o) 1) := by
  funext j
  unfold bump turn
  by_cases h : j = o
  · subst h; simp
  · have : ¬ Int.ofNat j = Int.ofNat o := fun e => h (Int.ofNat.inj e)
    rw [if_neg this, if_neg h]


/-! The order of states is no less than equality. -/
theorem leCell_refl' (c : SC) : leCell c c := by cases c <;> simp [leCell]
theorem leH_setN {h : List (Option (List SC))} {b : Nat} {cs cs' : List SC} (hc : leCL cs cs') : leH (setN h b (some cs)) (setN h b (some cs')) := by
  have hr : ∀ h : List (Option (List SC)), leH h h := by
    intro h
    induction h with
    | nil => trivial
    | cons x xs ih => exact ⟨by cases x <;> simp [leB, leCL_refl], ih⟩
  induction h generalizing b with
  | nil => cases b <;> simp [setN, leH]
  | cons x xs ih =>
    cases b with
    | zero => exact ⟨hc, hr _⟩
    | succ b => exact ⟨by cases x <;> simp [leB, leCL_refl], ih⟩
theorem arrB_putL (f : Nat → Bool) (v : Bool) {o : Nat} (h : o < 16) : leCL (pasteL (arrB f) o [.lit v]) (arrB (turn f o v)) := by
  rcases lt16 h with rfl | rfl | rfl | rfl | rfl | rfl | rfl | rfl | rfl | rfl | rfl | rfl | rfl | rfl | rfl | rfl <;> simp [arrB, pasteL, leCL, leCell, turn]
theorem off0 (n : Nat) : (match 0, n with | n, Nat.zero => n | a, Nat.succ b => (Nat.add a b).succ : Nat) = n := by
  cases n with
  | zero => rfl
  | succ n => show (Nat.add 0 n).succ = n.succ; simp
theorem off2 (L : Int) : (match 0, match 0, match L with | Int.ofNat n => n | Int.negSucc _ => 0 with | n, Nat.zero => n | a, Nat.succ b => (Nat.add a b).succ with | n, Nat.zero => n | a, Nat.succ b => (Nat.add a b).succ : Nat) = L.toNat := (off0 _).trans (off0 _)
theorem leS_refl' (x : SV) : leS x x := by
  cases x with
  | pt a => cases a with
    | one c => cases c <;> simp [leS, leA, leCell]
    | agg l => exact leCL_refl l
  | tup l => simp [leS]
theorem leR_refl' : ∀ l : List (Option ORow), leR l l
  | [] => trivial
  | none :: xs => ⟨trivial, leR_refl' xs⟩
  | some _ :: xs => ⟨RowLe.rfl' _, leR_refl' xs⟩
theorem leT_refl' : ∀ l : List SV, leT l l
  | [] => trivial
  | x :: xs => ⟨leS_refl' x, leT_refl' xs⟩
theorem leF_refl' : ∀ l : List (List SV), leF l l
  | [] => trivial
  | x :: xs => ⟨leT_refl' x, leF_refl' xs⟩
/-- A store at a place that is not known, and the contents told anew. -/
theorem go_askB {P : Program} {Q : Exit → Act → World → Prop} {c : Nat → Nat → Row} {w0 : Base} {b o : Nat} {cs : List SC} {x : SC} {k : List Item} {st : St} (cs' : List SC) (ho : o < cs.length) (hcs : leCL (pasteL cs o [x]) cs')
    (hb : ({ st with h := setN st.h b (some cs') } : St).bnd = true) (hm : w0.mo.length ≤ (setN st.h b (some cs')).length) (h : Goes P Q c w0 k { st with h := setN st.h b (some cs') }) : OutOk P Q c w0 (.askS b o cs x none k st) :=
  go_askS _ ho rfl (go_le { st with h := setN st.h b (some cs') } (le_mk (leT_refl' _) (leH_setN hcs) (leF_refl' _) (leR_refl' _)) hb hm h)

end Go.Proofs.Ytbimggeapaaliaa
