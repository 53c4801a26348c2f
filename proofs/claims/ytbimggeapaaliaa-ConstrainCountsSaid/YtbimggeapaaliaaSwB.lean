/- Layer 15 of the reference: the numbers of points. No condition. -/
import Derived.Test.YtbimggeapaaliaaSyD
namespace Go.Proofs.Ytbimggeapaaliaa
open Go.RowKit
set_option linter.unusedVariables false
set_option linter.unusedSimpArgs false

/-- The number of the first point of block b. -/
def stN (sn : Nat → Nat) : Nat → Nat
  | 0 => 0
  | b + 1 => stN sn b + sn b + 1
/-- A list of numbers as a row. -/
def natR (L : List Nat) : ORow := ⟨L.length, 1, fun j => [.int .i64 (Int.ofNat (L.getD j 0))]⟩
def startsL (sn : Nat → Nat) (n : Nat) : List Nat := (List.range (n + 1)).map (stN sn)
theorem startsL_succ (sn : Nat → Nat) (n : Nat) : startsL sn (n + 1) = startsL sn n ++ [stN sn (n + 1)] := by simp [startsL, List.range_succ]
theorem startsL_len (sn : Nat → Nat) (n : Nat) : (startsL sn n).length = n + 1 := by simp [startsL]
theorem startsL_get (sn : Nat → Nat) {n j : Nat} (h : j ≤ n) : (startsL sn n).getD j 0 = stN sn j := by
  simp [startsL, List.getD, List.getElem?_range (show j < n + 1 by omega)]
theorem stN_le {sn : Nat → Nat} {n : Nat} (hs : ∀ b, b < n → sn b ≤ 30) : ∀ b, b ≤ n → stN sn b ≤ b * 31
  | 0, _ => Nat.le_refl _
  | b + 1, h => by have := stN_le hs b (by omega); have := hs b (by omega); simp only [stN]; omega
theorem stN_mono (sn : Nat → Nat) {a b : Nat} (h : a < b) : stN sn a < stN sn b := by
  induction b with
  | zero => omega
  | succ b ih =>
    simp only [stN]
    rcases Nat.lt_or_eq_of_le (Nat.le_of_lt_succ h) with h | rfl
    · have := ih h; omega
    · omega
theorem add_nat {ar : BinOp → IntKind → Int → Int → Int} (har : ar = rAr) {i n : Nat} (h : i + n ≤ 9223372036854775807) : ar .add .i64 (.ofNat i) (.ofNat n) = .ofNat (i + n) := by
  rw [har]
  show IntKind.i64.wrap ((i : Int) + (n : Int)) = ((i + n : Nat) : Int)
  rw [Go.IntWalk.i64_in _ (by omega)]
  omega
theorem sub_nat {ar : BinOp → IntKind → Int → Int → Int} (har : ar = rAr) {i n : Nat} (h : n ≤ i) (h2 : i ≤ 9223372036854775807) : ar .sub .i64 (.ofNat i) (.ofNat n) = .ofNat (i - n) := by
  rw [har]
  show IntKind.i64.wrap ((i : Int) - (n : Int)) = ((i - n : Nat) : Int)
  rw [Go.IntWalk.i64_in _ (by omega)]
  omega

set_option maxRecDepth 100000 in
set_option maxHeartbeats 4000000 in
theorem startsC (F : GFun) (w : World) (hF : F.At w) (hsn : ∀ b, b < F.bn → F.sn b ≤ 30) (hbn : F.bn ≤ 30) :
    Calls Try.prog 15 #[F.val] w (RetR w (funX F) (.pt (.one (.rs 0))) [⟨F.bn + 1, 1, fun j => [.int .i64 (.ofNat (stN F.sn j))]⟩]) := by
  obtain ⟨st, hst⟩ : ∃ g : Nat → Nat, g = stN F.sn := ⟨_, rfl⟩
  have s0 : st 0 = 0 := by rw [hst]; rfl
  have s1 : ∀ b, st (b + 1) = st b + F.sn b + 1 := fun b => by rw [hst]; rfl
  have sl : ∀ b, b ≤ F.bn → st b ≤ b * 31 := by rw [hst]; exact stN_le hsn
  rw [← hst]
  clear hst
  obtain ⟨pa, un, lA, ln, lc, lk, lt, bA, bn, bc, sA, sn, sc, s, jA, jn, jc, ja, jk, jo, jf, jx, je, jd⟩ := F
  obtain ⟨hX, hl, hb, hs, hj⟩ := hF
  simp only at hl hb hs hj
  simp only at hsn hbn s1 sl ⊢
  obtain ⟨su, hsu⟩ : ∃ f : Nat → Nat, f = fun n => n + 1 := ⟨_, rfl⟩
  have hR : bn + 1 = su bn := by rw [hsu]
  rw [hR]
  clear hR
  refine go_start (args := [.pt (.agg (GFun.dat _))]) (c := (funX _)) Try.func15 rfl hX rfl rfl ?_
  obtain ⟨nd, hnd⟩ : ∃ f : Bool → Bool → Bool, f = and := ⟨_, rfl⟩
  obtain ⟨nt, hnt⟩ : ∃ f : Bool → Bool, f = not := ⟨_, rfl⟩
  obtain ⟨ar, har⟩ : ∃ f : BinOp → IntKind → Int → Int → Int, f = rAr := ⟨_, rfl⟩
  obtain ⟨cm, hcm⟩ : ∃ f : BinOp → Int → Int → Bool, f = rCm := ⟨_, rfl⟩
  obtain ⟨mx, hmx⟩ : ∃ f : Int → Int → Int, f = rMx := ⟨_, rfl⟩
  obtain ⟨mn, hmn⟩ : ∃ f : Int → Int → Int, f = rMn := ⟨_, rfl⟩
  have ar01 : ar .add .i64 0 1 = 1 := by rw [har]; decide
  have ar12 : ar .add .i64 1 1 = 2 := by rw [har]; decide
  obtain ⟨zpl, hzpl⟩ : ∃ f : Nat → Nat → Nat, f = fun x y => x + y := ⟨_, rfl⟩
  obtain ⟨zjn, hzjn⟩ : ∃ f : Nat → (Nat → List SC) → (Nat → List SC) → Nat → List SC, f = rJn := ⟨_, rfl⟩
  obtain ⟨zup, hzup⟩ : ∃ f : (Nat → List SC) → Nat → Nat → List SC → Nat → List SC, f = rUp := ⟨_, rfl⟩
  obtain ⟨zmi, hzmi⟩ : ∃ f : Nat → Nat → Nat, f = fun x y => x - y := ⟨_, rfl⟩
  obtain ⟨zdp, hzdp⟩ : ∃ f : Nat → (Nat → List SC) → Nat → List SC, f = rDp := ⟨_, rfl⟩
  have hT := T0_ok hnd hnt har hcm hmx hmn hzpl hzjn hzup hzmi hzdp
  repeat' (first
    | ((with_reducible apply go_ev hT 400); (· (cbv; try rfl)); (fail_if_success with_reducible apply stuck_id))
    | ((with_reducible refine go_brt ?_ ?_); (· first | rfl | assumption | (rw [hcm]; decide)))
    | ((with_reducible refine go_brf ?_ ?_); (· first | rfl | assumption | (rw [hcm]; decide)))
    | ((with_reducible refine go_brnt hnt ?_ ?_); (· first | rfl | assumption))
    | ((with_reducible refine go_brnf hnt ?_ ?_); (· first | rfl | assumption))
    | (with_reducible refine go_brn hnt (fun h => ?_) (fun h => ?_))
    | (with_reducible refine go_brl hcm (fun hlt => ?_) (fun hge => ?_))
    | (with_reducible refine go_br (fun h => ?_) (fun h => ?_))
    | ((with_reducible apply go_ret_val hT); (· (cbv; try rfl)); (· (cbv; try rfl)))
    | ((with_reducible apply go_fin_val hT); (· (cbv; try rfl)); (· (cbv; try rfl)))
    | ((with_reducible apply go_draw); (· rfl); (· kernel_rfl); (· kernel_rfl))
    | ((with_reducible apply go_drawE); (· kernel_rfl))
    | (with_reducible refine go_fork ?_)
    | (with_reducible refine fork_cons ?_ ?_)
    | (with_reducible exact fork_nil)
    | ((with_reducible refine go_need ?_ ?_ ?_); (· first | omega | (simp only [Int.ofNat_eq_natCast]; omega)); (· first | omega | (simp only [Int.ofNat_eq_natCast]; omega)))
    | ((with_reducible refine go_ob ?_ ?_); (· first | trivial | (refine ⟨trivial, ?_⟩; omega) | (rw [hzpl]; refine ⟨trivial, ?_⟩; show _ + _ ≤ 1073741824; omega) | (rw [hzpl]; show _ + _ ≤ 1073741824; omega) | ((rw [hzpl, hsu]; exact (show b + 1 + 1 ≤ 1073741824 from by omega)))))
    | ((with_reducible apply go_ret_rows hT); (· (cbv; try rfl)); (· (cbv; try rfl)); (· (cbv; (try simp only [true_and, and_true]); (try ((repeat' apply And.intro) <;> (first | trivial | rfl | decide  | ((refine rowLe_of (by rw [hsu]) (fun j hj => ?_); have hj0 : j = 0 := (by have hj' : j < 1 := hj; omega); subst hj0; rw [s0]; exact ⟨⟨rfl, rfl⟩, trivial⟩)) | ((have hbb : b = bn := (by omega); subst hbb; exact RowLe.rfl' _)) | ((refine rowLe_snoc hzpl hzjn (by rw [hsu]) (fun j hj => leCL_rfl _) ⟨⟨rfl, ?_⟩, trivial⟩; (have q1 := sl b (by omega); have q2 := hsn b (by omega); show ar .add .i64 (ar .add .i64 (.ofNat (st b)) (.ofNat (sn b))) 1 = .ofNat (st (su b)); rw [add_nat har (by omega), wrap_nat har _ (by omega), hsu]; simp only [s1])))))))); (· (cbv; (try simp only [true_and, and_true]); (try ((repeat' apply And.intro) <;> (first | trivial | rfl | exact RowLe.rfl' _  | ((refine rowLe_of (by rw [hsu]) (fun j hj => ?_); have hj0 : j = 0 := (by have hj' : j < 1 := hj; omega); subst hj0; rw [s0]; exact ⟨⟨rfl, rfl⟩, trivial⟩)) | ((have hbb : b = bn := (by omega); subst hbb; exact RowLe.rfl' _)) | ((refine rowLe_snoc hzpl hzjn (by rw [hsu]) (fun j hj => leCL_rfl _) ⟨⟨rfl, ?_⟩, trivial⟩; (have q1 := sl b (by omega); have q2 := hsn b (by omega); show ar .add .i64 (ar .add .i64 (.ofNat (st b)) (.ofNat (sn b))) 1 = .ofNat (st (su b)); rw [add_nat har (by omega), wrap_nat har _ (by omega), hsu]; simp only [s1])))))))); (· rfl))
    | ((with_reducible apply go_fin_rows hT); (· (cbv; try rfl)); (· (cbv; try rfl)); (· (cbv; (try simp only [true_and, and_true]); (try ((repeat' apply And.intro) <;> (first | trivial | rfl | decide  | ((refine rowLe_of (by rw [hsu]) (fun j hj => ?_); have hj0 : j = 0 := (by have hj' : j < 1 := hj; omega); subst hj0; rw [s0]; exact ⟨⟨rfl, rfl⟩, trivial⟩)) | ((have hbb : b = bn := (by omega); subst hbb; exact RowLe.rfl' _)) | ((refine rowLe_snoc hzpl hzjn (by rw [hsu]) (fun j hj => leCL_rfl _) ⟨⟨rfl, ?_⟩, trivial⟩; (have q1 := sl b (by omega); have q2 := hsn b (by omega); show ar .add .i64 (ar .add .i64 (.ofNat (st b)) (.ofNat (sn b))) 1 = .ofNat (st (su b)); rw [add_nat har (by omega), wrap_nat har _ (by omega), hsu]; simp only [s1])))))))); (· (cbv; (try simp only [true_and, and_true]); (try ((repeat' apply And.intro) <;> (first | trivial | rfl | exact RowLe.rfl' _  | ((refine rowLe_of (by rw [hsu]) (fun j hj => ?_); have hj0 : j = 0 := (by have hj' : j < 1 := hj; omega); subst hj0; rw [s0]; exact ⟨⟨rfl, rfl⟩, trivial⟩)) | ((have hbb : b = bn := (by omega); subst hbb; exact RowLe.rfl' _)) | ((refine rowLe_snoc hzpl hzjn (by rw [hsu]) (fun j hj => leCL_rfl _) ⟨⟨rfl, ?_⟩, trivial⟩; (have q1 := sl b (by omega); have q2 := hsn b (by omega); show ar .add .i64 (ar .add .i64 (.ofNat (st b)) (.ofNat (sn b))) 1 = .ofNat (st (su b)); rw [add_nat har (by omega), wrap_nat har _ (by omega), hsu]; simp only [s1])))))))); (· rfl))
    | ((with_reducible apply go_row 3 1); (· (cbv; try rfl)))
    | ((with_reducible refine go_loopk (σ := {b : Nat // b ≤ bn}) [6, 7, 8, 9, 10, 11, 12, 13, 14, 15, 16, 17, 18, 19, 20, 21, 22, 23, 24, 25, 26, 27, 28] (fun x => [(4, .pt (.one (.int .i64 (.ofNat x.1))))]) (fun x => []) (fun x => [(0, ⟨su x.1, 1, fun j => [.int .i64 (.ofNat (st j))]⟩)]) (fun x => bn - x.1) ⟨0, by omega⟩ ?_ ?_ ?_ ?_); (· (refine le_mk ?_ ?_ ?_ ?_ <;> (cbv; (try simp only [true_and, and_true]); (try ((repeat' apply And.intro) <;> (first | trivial | rfl | exact RowLe.rfl' _ | (rw [wrap_nat har _ (by omega)]) | ((refine rowLe_of (by rw [hsu]) (fun j hj => ?_); have hj0 : j = 0 := (by have hj' : j < 1 := hj; omega); subst hj0; rw [s0]; exact ⟨⟨rfl, rfl⟩, trivial⟩)) | ((have hbb : b = bn := (by omega); subst hbb; exact RowLe.rfl' _)) | ((refine rowLe_snoc hzpl hzjn (by rw [hsu]) (fun j hj => leCL_rfl _) ⟨⟨rfl, ?_⟩, trivial⟩; (have q1 := sl b (by omega); have q2 := hsn b (by omega); show ar .add .i64 (ar .add .i64 (.ofNat (st b)) (.ofNat (sn b))) 1 = .ofNat (st (su b)); rw [add_nat har (by omega), wrap_nat har _ (by omega), hsu]; simp only [s1]))))))))); (· (cbv; try rfl)); (· simp); (rintro ⟨b, hb1⟩ mm hmm))
    | ((with_reducible refine go_stop ⟨b + 1, by omega⟩ ?_ ?_ ?_ ?_); (· exact Nat.lt_of_lt_of_eq (show bn - (b + 1) < bn - b from by omega) (Eq.symm (by assumption))); (· (refine le_mk ?_ ?_ ?_ ?_ <;> (cbv; (try simp only [true_and, and_true]); (try ((repeat' apply And.intro) <;> (first | trivial | rfl | exact RowLe.rfl' _ | (rw [wrap_nat har _ (by omega)]) | ((refine rowLe_of (by rw [hsu]) (fun j hj => ?_); have hj0 : j = 0 := (by have hj' : j < 1 := hj; omega); subst hj0; rw [s0]; exact ⟨⟨rfl, rfl⟩, trivial⟩)) | ((have hbb : b = bn := (by omega); subst hbb; exact RowLe.rfl' _)) | ((refine rowLe_snoc hzpl hzjn (by rw [hsu]) (fun j hj => leCL_rfl _) ⟨⟨rfl, ?_⟩, trivial⟩; (have q1 := sl b (by omega); have q2 := hsn b (by omega); show ar .add .i64 (ar .add .i64 (.ofNat (st b)) (.ofNat (sn b))) 1 = .ofNat (st (su b)); rw [add_nat har (by omega), wrap_nat har _ (by omega), hsu]; simp only [s1]))))))))); (· (cbv; try rfl)); (· simp))
    | (((with_reducible refine go_need ?_ ?_ ?_); (· exact Int.natCast_nonneg _); (· show (b : Int) < ((su b : Nat) : Int); simp only [hsu]; omega)))
    )
  all_goals trace_state

end Go.Proofs.Ytbimggeapaaliaa
