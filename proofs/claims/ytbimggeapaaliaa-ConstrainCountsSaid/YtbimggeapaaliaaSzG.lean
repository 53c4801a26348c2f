/- Layer 7 of the reference: the check of a function. No condition. -/
import Derived.Test.YtbimggeapaaliaaSzF
namespace Go.Proofs.Ytbimggeapaaliaa
open Go.RowKit
set_option linter.unusedVariables false
set_option linter.unusedSimpArgs false

def pasB (o : GOper) (t : Int) : Bool := o.k == 3 && o.n == 0 && o.p.l == t && !o.p.d && o.p.f == 0
def pasI (g : Nat → GOper) (t : Int) : Nat → Int
  | 0 => 0
  | n + 1 => if pasB (g n) t = true then rAr .add .i64 (pasI g t n) 1 else pasI g t n

theorem pas_nd {nd : Bool → Bool → Bool} (hnd : nd = and) {o : GOper} {t : Int} {b : Bool} (h : nd (decide (o.k = 3)) (nd (decide (o.n = 0)) (nd (decide (o.p.l = t)) (nd (decide (o.p.d = false)) (decide (o.p.f = 0))))) = b) : pasB o t = b := by
  subst hnd h
  unfold pasB
  cases o.p.d <;> simp [Bool.and_assoc] <;> rfl
set_option maxRecDepth 100000 in
set_option maxHeartbeats 4000000 in
theorem passesC (A : Option Addr) (n cap : Nat) (g : Nat → GOper) (t : Int) (w : World) (hn : n ≤ maxLen) (hX : XOk ⟨[], OneR A n cap 5 fun i => (g i).sc, []⟩ ⟨w, []⟩) :
    Calls Try.prog 42 #[.slice A n cap, .int .i64 t] w (Ret w (.int .i64 (pasI g t n))) := by
  unfold maxLen at hn
  obtain ⟨acc, hacc⟩ : ∃ acc : Nat → Int, acc = pasI g t := ⟨_, rfl⟩
  have a0 : acc 0 = 0 := by rw [hacc]; rfl
  have a1 : ∀ i, pasB (g i) t = true → acc (i + 1) = rAr .add .i64 (acc i) 1 := fun i h => by rw [hacc]; simp only [pasI, if_pos h]
  have a2 : ∀ i, pasB (g i) t = false → acc (i + 1) = acc i := fun i h => by rw [hacc]; simp only [pasI, h]; rfl
  rw [← hacc]
  clear hacc
  refine go_start (args := [.pt (.one (.xs 0 0)), .pt (.one (.int .i64 t))]) (c := (OneR A n cap 5 fun i => (g i).sc)) Try.func42 rfl hX rfl rfl ?_
  obtain ⟨nd, hnd⟩ : ∃ f : Bool → Bool → Bool, f = and := ⟨_, rfl⟩
  obtain ⟨nt, hnt⟩ : ∃ f : Bool → Bool, f = not := ⟨_, rfl⟩
  obtain ⟨ar, har⟩ : ∃ f : BinOp → IntKind → Int → Int → Int, f = rAr := ⟨_, rfl⟩
  obtain ⟨cm, hcm⟩ : ∃ f : BinOp → Int → Int → Bool, f = rCm := ⟨_, rfl⟩
  obtain ⟨mx, hmx⟩ : ∃ f : Int → Int → Int, f = rMx := ⟨_, rfl⟩
  obtain ⟨mn, hmn⟩ : ∃ f : Int → Int → Int, f = rMn := ⟨_, rfl⟩
  have ar01 : ar .add .i64 0 1 = 1 := by rw [har]; decide
  have ar12 : ar .add .i64 1 1 = 2 := by rw [har]; decide
  obtain ⟨zpl, hzpl⟩ : ∃ f : Nat → Nat → Nat, f = fun x y => x + y := ⟨_, rfl⟩
  obtain ⟨zjn, hzjn⟩ : ∃ f : Nat → (Nat → List SC) → (Nat → List SC) → Nat → List SC, f = rJn := ⟨_, rfl⟩
  obtain ⟨zup, hzup⟩ : ∃ f : (Nat → List SC) → Nat → Nat → List SC → Nat → List SC, f = rUp := ⟨_, rfl⟩
  obtain ⟨zmi, hzmi⟩ : ∃ f : Nat → Nat → Nat, f = fun x y => x - y := ⟨_, rfl⟩
  obtain ⟨zdp, hzdp⟩ : ∃ f : Nat → (Nat → List SC) → Nat → List SC, f = rDp := ⟨_, rfl⟩
  have hT := T0_ok hnd hnt har hcm hmx hmn hzpl hzjn hzup hzmi hzdp
  repeat' (first
    | ((with_reducible apply go_ev hT 400); (· (cbv; try rfl)); (fail_if_success with_reducible apply stuck_id))
    | ((with_reducible refine go_brt ?_ ?_); (· first | rfl | assumption | (rw [hcm]; decide)))
    | ((with_reducible refine go_brf ?_ ?_); (· first | rfl | assumption | (rw [hcm]; decide)))
    | ((with_reducible refine go_brnt hnt ?_ ?_); (· first | rfl | assumption))
    | ((with_reducible refine go_brnf hnt ?_ ?_); (· first | rfl | assumption))
    | (with_reducible refine go_brn hnt (fun h => ?_) (fun h => ?_))
    | (with_reducible refine go_brl hcm (fun hlt => ?_) (fun hge => ?_))
    | (with_reducible refine go_br (fun h => ?_) (fun h => ?_))
    | ((with_reducible apply go_ret_val hT); (· (cbv; try rfl)); (· (cbv; try rfl)))
    | ((with_reducible apply go_fin_val hT); (· (cbv; try rfl)); (· (cbv; try rfl)))
    | ((with_reducible apply go_draw); (· rfl); (· kernel_rfl); (· kernel_rfl))
    | ((with_reducible apply go_drawE); (· kernel_rfl))
    | (with_reducible refine go_fork ?_)
    | (with_reducible refine fork_cons ?_ ?_)
    | (with_reducible exact fork_nil)
    | ((with_reducible refine go_need ?_ ?_ ?_); (· first | omega | (simp only [Int.ofNat_eq_natCast]; omega)); (· first | omega | (simp only [Int.ofNat_eq_natCast]; omega)))
    | ((with_reducible refine go_ob ?_ ?_); (· first | trivial | (refine ⟨trivial, ?_⟩; omega) | (rw [hzpl]; refine ⟨trivial, ?_⟩; show _ + _ ≤ 1073741824; omega) | (rw [hzpl]; show _ + _ ≤ 1073741824; omega)))
    | ((with_reducible apply go_ret_rows hT); (· (cbv; try rfl)); (· (cbv; try rfl)); (· (cbv; (try simp only [true_and, and_true]); (try ((repeat' apply And.intro) <;> (first | trivial | rfl | decide  | ((rw [a0]; done)) | ((rw [a1 i (pas_nd hnd h), har]; done)) | ((rw [a2 i (pas_nd hnd h)]; done))))))); (· (cbv; (try simp only [true_and, and_true]); (try ((repeat' apply And.intro) <;> (first | trivial | rfl | exact RowLe.rfl' _  | ((rw [a0]; done)) | ((rw [a1 i (pas_nd hnd h), har]; done)) | ((rw [a2 i (pas_nd hnd h)]; done))))))); (· rfl))
    | ((with_reducible apply go_fin_rows hT); (· (cbv; try rfl)); (· (cbv; try rfl)); (· (cbv; (try simp only [true_and, and_true]); (try ((repeat' apply And.intro) <;> (first | trivial | rfl | decide  | ((rw [a0]; done)) | ((rw [a1 i (pas_nd hnd h), har]; done)) | ((rw [a2 i (pas_nd hnd h)]; done))))))); (· (cbv; (try simp only [true_and, and_true]); (try ((repeat' apply And.intro) <;> (first | trivial | rfl | exact RowLe.rfl' _  | ((rw [a0]; done)) | ((rw [a1 i (pas_nd hnd h), har]; done)) | ((rw [a2 i (pas_nd hnd h)]; done))))))); (· rfl))
    | ((with_reducible refine go_loopk (σ := {i : Nat // i ≤ n}) [7, 8, 9, 10, 11, 12, 13, 14, 15, 16, 17, 18, 19, 20, 21, 22] (fun x => [(5, .pt (.one (.int .i64 (acc x.1)))), (6, .pt (.one (.int .i64 (.ofNat x.1))))]) (fun x => []) (fun x => []) (fun x => n - x.1) ⟨0, by omega⟩ ?_ ?_ ?_ ?_); (· (refine le_mk ?_ ?_ ?_ ?_ <;> (cbv; (try simp only [true_and, and_true]); (try ((repeat' apply And.intro) <;> (first | trivial | rfl | exact RowLe.rfl' _ | (rw [wrap_nat har _ (by omega)]) | ((rw [a0]; done)) | ((rw [a1 i (pas_nd hnd h), har]; done)) | ((rw [a2 i (pas_nd hnd h)]; done)))))))); (· (cbv; try rfl)); (· simp); (rintro ⟨i, hi⟩ mm hmm))
    | ((with_reducible refine go_stop ⟨i + 1, by omega⟩ ?_ ?_ ?_ ?_); (· exact Nat.lt_of_lt_of_eq (show n - (i + 1) < n - i from by omega) (Eq.symm (by assumption))); (· (refine le_mk ?_ ?_ ?_ ?_ <;> (cbv; (try simp only [true_and, and_true]); (try ((repeat' apply And.intro) <;> (first | trivial | rfl | exact RowLe.rfl' _ | (rw [wrap_nat har _ (by omega)]) | ((rw [a0]; done)) | ((rw [a1 i (pas_nd hnd h), har]; done)) | ((rw [a2 i (pas_nd hnd h)]; done)))))))); (· (cbv; try rfl)); (· simp))
    )
  all_goals (have hin : i = n := by omega)
  all_goals subst hin
  all_goals rfl

/-- What once counts: set, used, all. -/
def setT (s : GStmt) (t : Int) : Bool := twoB s && (s.p.l == t && !s.p.d && s.p.f == 0) && !(s.r.p.l == t)
theorem setT_t {nd : Bool → Bool → Bool} (hnd : nd = and) {s : GStmt} {T : Nat} (h1 : twoB s = true) (h2 : nd (decide (s.p.l = Int.ofNat T)) (nd (decide (s.p.d = false)) (decide (s.p.f = 0))) = true) (h3 : decide (s.r.p.l = Int.ofNat T) = false) : setT s T = true := by
  subst hnd
  simp only [Bool.and_eq_true, decide_eq_true_eq, decide_eq_false_iff_not, Int.ofNat_eq_natCast] at h2 h3
  simp [setT, h1, h2.1, h2.2.1, h2.2.2, h3]
theorem setT_1 {s : GStmt} {T : Nat} (h1 : twoB s = false) : setT s T = false := by simp [setT, h1]
theorem setT_2 {nd : Bool → Bool → Bool} (hnd : nd = and) {s : GStmt} {T : Nat} (h2 : nd (decide (s.p.l = Int.ofNat T)) (nd (decide (s.p.d = false)) (decide (s.p.f = 0))) = false) : setT s T = false := by
  subst hnd
  have e : (s.p.l == (T : Int) && !s.p.d && s.p.f == 0) = false := by
    rw [← h2]
    cases s.p.d <;> simp [Bool.and_assoc] <;> rfl
  simp only [setT, e]; simp
theorem setT_3 {s : GStmt} {T : Nat} (h3 : decide (s.r.p.l = Int.ofNat T) = true) : setT s T = false := by
  have h3 := of_decide_eq_true h3
  simp only [Int.ofNat_eq_natCast] at h3
  simp [setT, h3]
def stOn (T : Nat) (x : Int × Int × Int) (s : GStmt) : Int × Int × Int :=
  (if setT s T = true then rAr .add .i64 x.1 1 else x.1,
   if setT s T = true then x.2.1 else if s.k = 1 ∧ s.r.k = 1 then rAr .add .i64 x.2.1 (pasI (fun _ => s.r.a) T 1) else x.2.1,
   rAr .add .i64 x.2.2 (occS s T))
def stsOn (s : Nat → GStmt) (T : Nat) : Nat → Int × Int × Int → Int × Int × Int
  | 0, x => x
  | i + 1, x => stOn T (stsOn s T i x) (s i)
def blOn (F : GFun) (T b : Nat) (x : Int × Int × Int) : Int × Int × Int :=
  let y := stsOn (F.s b) T (F.sn b) x
  (y.1, if F.jk b = 4 then rAr .add .i64 y.2.1 (pasI (F.ja b) T (F.jn b)) else y.2.1, rAr .add .i64 y.2.2 (occJ (F.jk b) (F.jo b) (F.jd b) (F.jn b) (F.ja b) T))
def allOn (F : GFun) (T : Nat) : Nat → Int × Int × Int
  | 0 => (0, 0, 0)
  | b + 1 => blOn F T b (allOn F T b)
def onceB (F : GFun) (T : Nat) : Bool := !decide ((T : Int) ≤ F.pa) && (allOn F T F.bn).1 == 1 && (allOn F T F.bn).2.1 == 1 && (allOn F T F.bn).2.2 == 2

set_option maxRecDepth 100000 in
set_option maxHeartbeats 8000000 in
theorem onceC (F : GFun) (w : World) (hF : F.At w) (hv : allN F.bn (validB F) = true) (T : Nat) (hT16 : T < 16) :
    Calls Try.prog 29 #[F.val, .int .i64 (.ofNat T)] w (Ret w (.bool (onceB F T))) := by
  obtain ⟨z0, hz0⟩ : ∃ z, z = onceB F T := ⟨_, rfl⟩
  obtain ⟨A0, hA0⟩ : ∃ f : Nat → Int, f = fun b => (allOn F T b).1 := ⟨_, rfl⟩
  obtain ⟨B0, hB0⟩ : ∃ f : Nat → Int, f = fun b => (allOn F T b).2.1 := ⟨_, rfl⟩
  obtain ⟨C0, hC0⟩ : ∃ f : Nat → Int, f = fun b => (allOn F T b).2.2 := ⟨_, rfl⟩
  obtain ⟨A1, hA1⟩ : ∃ f : Nat → Nat → Int, f = fun b i => (stsOn (F.s b) T i (allOn F T b)).1 := ⟨_, rfl⟩
  obtain ⟨B1, hB1⟩ : ∃ f : Nat → Nat → Int, f = fun b i => (stsOn (F.s b) T i (allOn F T b)).2.1 := ⟨_, rfl⟩
  obtain ⟨C1, hC1⟩ : ∃ f : Nat → Nat → Int, f = fun b i => (stsOn (F.s b) T i (allOn F T b)).2.2 := ⟨_, rfl⟩
  obtain ⟨oS, hoS⟩ : ∃ f, f = occS := ⟨_, rfl⟩
  obtain ⟨oJ, hoJ⟩ : ∃ f : Nat → Nat → Int, f = fun b => occJ (F.jk b) (F.jo b) (F.jd b) (F.jn b) (F.ja b) := ⟨_, rfl⟩
  obtain ⟨pJ, hpJ⟩ : ∃ f : Nat → Int, f = fun b => pasI (F.ja b) T (F.jn b) := ⟨_, rfl⟩
  have a0 : A0 0 = 0 := by rw [hA0]; rfl
  have b0 : B0 0 = 0 := by rw [hB0]; rfl
  have c0 : C0 0 = 0 := by rw [hC0]; rfl
  have a1 : ∀ b, A1 b 0 = A0 b := fun b => by rw [hA0, hA1]; rfl
  have b1 : ∀ b, B1 b 0 = B0 b := fun b => by rw [hB0, hB1]; rfl
  have c1 : ∀ b, C1 b 0 = C0 b := fun b => by rw [hC0, hC1]; rfl
  have a2 : ∀ b i, setT (F.s b i) T = true → A1 b (i + 1) = rAr .add .i64 (A1 b i) 1 ∧ B1 b (i + 1) = B1 b i := fun b i h => by
    rw [hA1, hB1]; refine ⟨?_, ?_⟩ <;> simp only [stsOn, stOn, if_pos h]
  have a3 : ∀ b i, setT (F.s b i) T = false → A1 b (i + 1) = A1 b i := fun b i h => by
    rw [hA1]; simp only [stsOn, stOn, h]; rfl
  have b3 : ∀ b i, setT (F.s b i) T = false → (F.s b i).k = 1 → (F.s b i).r.k = 1 → pasB (F.s b i).r.a T = true → B1 b (i + 1) = rAr .add .i64 (B1 b i) 1 := fun b i h h1 h2 h3 => by
    rw [hB1]; simp only [stsOn, stOn, h, h1, h2, pasI, h3]; simp; congr 1
  have b4 : ∀ b i, setT (F.s b i) T = false → (F.s b i).k = 1 → (F.s b i).r.k = 1 → pasB (F.s b i).r.a T = false → B1 b (i + 1) = rAr .add .i64 (B1 b i) 0 := fun b i h h1 h2 h3 => by
    rw [hB1]; simp only [stsOn, stOn, h, h1, h2, pasI, h3]; simp
  have b5 : ∀ b i, setT (F.s b i) T = false → ¬ ((F.s b i).k = 1 ∧ (F.s b i).r.k = 1) → B1 b (i + 1) = B1 b i := fun b i h h1 => by
    rw [hB1]; simp only [stsOn, stOn, h, if_neg h1]; rfl
  have c2 : ∀ b i, C1 b (i + 1) = rAr .add .i64 (C1 b i) (oS (F.s b i) T) := fun b i => by rw [hC1, hoS]; rfl
  have a6 : ∀ b, A0 (b + 1) = A1 b (F.sn b) := fun b => by rw [hA0, hA1]; rfl
  have b6 : ∀ b, F.jk b = 4 → B0 (b + 1) = rAr .add .i64 (B1 b (F.sn b)) (pJ b) := fun b h => by rw [hB0, hB1, hpJ]; simp only [allOn, blOn, if_pos h]
  have b7 : ∀ b, ¬ F.jk b = 4 → B0 (b + 1) = B1 b (F.sn b) := fun b h => by rw [hB0, hB1]; simp only [allOn, blOn, if_neg h]
  have c6 : ∀ b, C0 (b + 1) = rAr .add .i64 (C1 b (F.sn b)) (oJ b T) := fun b => by rw [hC0, hC1, hoJ]; rfl
  have hz1 : z0 = (!decide ((T : Int) ≤ F.pa) && A0 F.bn == 1 && B0 F.bn == 1 && C0 F.bn == 2) := by rw [hz0, hA0, hB0, hC0]; rfl
  have cS : ∀ b i wc, b < F.bn → i < F.sn b → Calls Try.prog 41 #[(F.s b i).val] wc (Ret wc (arrI (oS (F.s b i)))) := fun b i wc hb hi => by
    rw [hoS]
    have h := allN_iff.1 hv b hb
    simp only [validB, Bool.and_eq_true] at h
    exact occC _ wc (allN_iff.1 h.1 i hi)
  have cJ : ∀ b wc, KB ⟨w, []⟩ wc → b < F.bn → Calls Try.prog 44 #[.agg #[.int .u8 (F.jk b), .int .u8 (F.jo b).k, .int .i64 (F.jo b).n, .int .i64 (F.jo b).p.l, .bool (F.jo b).p.d, .int .u8 (F.jo b).p.f, .int .i64 (F.jf b), .int .i64 (F.jx b), .int .i64 (F.je b), .slice (F.jA b) (F.jn b) (F.jc b), .int .i64 (F.jd b).l, .bool (F.jd b).d, .int .u8 (F.jd b).f]] wc (Ret wc (arrI (oJ b))) := fun b wc hk hb => by
    rw [hoJ]
    have h := allN_iff.1 hv b hb
    simp only [validB, Bool.and_eq_true] at h
    exact occJC _ _ _ _ _ _ _ _ _ _ _ _ _ _ _ _ wc (by unfold maxLen; have := hF.j b; omega) (argX (hF.later hk).ok b) h.2
  have cP : ∀ b wc, KB ⟨w, []⟩ wc → Calls Try.prog 42 #[.slice (F.jA b) (F.jn b) (F.jc b), .int .i64 (.ofNat T)] wc (Ret wc (.int .i64 (pJ b))) := fun b wc hk => by
    rw [hpJ]
    exact passesC _ _ _ _ _ wc (by unfold maxLen; have := hF.j b; omega) (argX (hF.later hk).ok b)
  rw [← hz0]
  clear hz0 hA0 hB0 hC0 hA1 hB1 hC1 hoS hoJ hpJ hv
  obtain ⟨pa, un, lA, ln, lc, lk, lt, bA, bn, bc, sA, sn, sc, s, jA, jn, jc, ja, jk, jo, jf, jx, je, jd⟩ := F
  obtain ⟨hX, hl, hb, hs, hj⟩ := hF
  simp only at hl hb hs hj
  simp only [] at a2 a3 b3 b4 b5 c2 a6 b6 b7 c6 hz1 cS cJ cP
  refine go_start (args := [.pt (.agg (GFun.dat _)), .pt (.one (.int .i64 (.ofNat T)))]) (c := (funX _)) Try.func29 rfl hX rfl rfl ?_
  obtain ⟨nd, hnd⟩ : ∃ f : Bool → Bool → Bool, f = and := ⟨_, rfl⟩
  obtain ⟨nt, hnt⟩ : ∃ f : Bool → Bool, f = not := ⟨_, rfl⟩
  obtain ⟨ar, har⟩ : ∃ f : BinOp → IntKind → Int → Int → Int, f = rAr := ⟨_, rfl⟩
  obtain ⟨cm, hcm⟩ : ∃ f : BinOp → Int → Int → Bool, f = rCm := ⟨_, rfl⟩
  obtain ⟨mx, hmx⟩ : ∃ f : Int → Int → Int, f = rMx := ⟨_, rfl⟩
  obtain ⟨mn, hmn⟩ : ∃ f : Int → Int → Int, f = rMn := ⟨_, rfl⟩
  have ar01 : ar .add .i64 0 1 = 1 := by rw [har]; decide
  have ar12 : ar .add .i64 1 1 = 2 := by rw [har]; decide
  obtain ⟨zpl, hzpl⟩ : ∃ f : Nat → Nat → Nat, f = fun x y => x + y := ⟨_, rfl⟩
  obtain ⟨zjn, hzjn⟩ : ∃ f : Nat → (Nat → List SC) → (Nat → List SC) → Nat → List SC, f = rJn := ⟨_, rfl⟩
  obtain ⟨zup, hzup⟩ : ∃ f : (Nat → List SC) → Nat → Nat → List SC → Nat → List SC, f = rUp := ⟨_, rfl⟩
  obtain ⟨zmi, hzmi⟩ : ∃ f : Nat → Nat → Nat, f = fun x y => x - y := ⟨_, rfl⟩
  obtain ⟨zdp, hzdp⟩ : ∃ f : Nat → (Nat → List SC) → Nat → List SC, f = rDp := ⟨_, rfl⟩
  have hT := T0_ok hnd hnt har hcm hmx hmn hzpl hzjn hzup hzmi hzdp
  repeat' (first
    | ((with_reducible apply go_ev hT 400); (· (cbv; try rfl)); (fail_if_success with_reducible apply stuck_id); (try simp only [ar01, ar12]))
    | ((with_reducible refine go_brt ?_ ?_); (· first | rfl | assumption | (rw [hcm]; decide)))
    | ((with_reducible refine go_brf ?_ ?_); (· first | rfl | assumption | (rw [hcm]; decide)))
    | ((with_reducible refine go_brnt hnt ?_ ?_); (· first | rfl | assumption))
    | ((with_reducible refine go_brnf hnt ?_ ?_); (· first | rfl | assumption))
    | (with_reducible refine go_brn hnt (fun h => ?_) (fun h => ?_))
    | (with_reducible refine go_brl hcm (fun hlt => ?_) (fun hge => ?_))
    | (with_reducible refine go_br (fun h => ?_) (fun h => ?_))
    | ((with_reducible apply go_ret_val hT); (· (cbv; try rfl)); (· (cbv; try rfl)))
    | ((with_reducible apply go_fin_val hT); (· (cbv; try rfl)); (· (cbv; try rfl)))
    | ((with_reducible apply go_draw); (· rfl); (· kernel_rfl); (· kernel_rfl))
    | ((with_reducible apply go_drawE); (· kernel_rfl))
    | (with_reducible refine go_fork ?_)
    | (with_reducible refine fork_cons ?_ ?_)
    | (with_reducible exact fork_nil)
    | ((with_reducible refine go_need ?_ ?_ ?_); (· first | omega | (simp only [Int.ofNat_eq_natCast]; omega)); (· first | omega | (simp only [Int.ofNat_eq_natCast]; omega)))
    | ((with_reducible refine go_ob ?_ ?_); (· first | trivial | (refine ⟨trivial, ?_⟩; omega) | (rw [hzpl]; refine ⟨trivial, ?_⟩; show _ + _ ≤ 1073741824; omega) | (rw [hzpl]; show _ + _ ≤ 1073741824; omega)))
    | ((with_reducible apply go_ret_rows hT); (· (cbv; try rfl)); (· (cbv; try rfl)); (· (cbv; (try simp only [true_and, and_true]); (try ((repeat' apply And.intro) <;> (first | trivial | rfl | decide  | ((rw [a0]; done)) | ((rw [b0]; done)) | ((rw [c0]; done)) | ((rw [a1]; done)) | ((rw [b1]; done)) | ((rw [c1]; done)) | ((rw [c2, har]; done)) | ((rw [a6, show i = sn b from by omega]; done)) | ((rw [c6, har, show i = sn b from by omega]; done)) | ((rw [b7 b (of_decide_eq_false (by assumption)), show i = sn b from by omega]; done)) | ((rw [(a2 b i (setT_t hnd (via (by assumption) (by assumption)) (by assumption) (by assumption))).1, har]; done)) | ((rw [(a2 b i (setT_t hnd (via (by assumption) (by assumption)) (by assumption) (by assumption))).2]; done)) | ((rw [a3 b i (by first | exact setT_1 (via (by assumption) (by assumption)) | exact setT_2 hnd (by assumption) | exact setT_3 (by assumption))]; done)) | ((rw [b3 b i (by first | exact setT_1 (via (by assumption) (by assumption)) | exact setT_2 hnd (by assumption) | exact setT_3 (by assumption)) (of_decide_eq_true (by assumption)) (of_decide_eq_true (by assumption)) (pas_nd hnd (by assumption)), har]; done)) | ((rw [b4 b i (by first | exact setT_1 (via (by assumption) (by assumption)) | exact setT_2 hnd (by assumption) | exact setT_3 (by assumption)) (of_decide_eq_true (by assumption)) (of_decide_eq_true (by assumption)) (pas_nd hnd (by assumption)), har]; done)) | ((rw [b5 b i (by first | exact setT_1 (via (by assumption) (by assumption)) | exact setT_2 hnd (by assumption) | exact setT_3 (by assumption)) (fun hh => of_decide_eq_false (by assumption) hh.1)]; done)) | ((rw [b5 b i (by first | exact setT_1 (via (by assumption) (by assumption)) | exact setT_2 hnd (by assumption) | exact setT_3 (by assumption)) (fun hh => of_decide_eq_false (by assumption) hh.2)]; done)) | ((have hi' : i = sn b := (by omega); subst hi'; rw [b6 b (of_decide_eq_true (by assumption)), har, hz]; done)) | ((have hsb := hs b; rw [wrap_nat har _ (by omega)]))))))); (· (cbv; (try simp only [true_and, and_true]); (try ((repeat' apply And.intro) <;> (first | trivial | rfl | exact RowLe.rfl' _  | ((rw [a0]; done)) | ((rw [b0]; done)) | ((rw [c0]; done)) | ((rw [a1]; done)) | ((rw [b1]; done)) | ((rw [c1]; done)) | ((rw [c2, har]; done)) | ((rw [a6, show i = sn b from by omega]; done)) | ((rw [c6, har, show i = sn b from by omega]; done)) | ((rw [b7 b (of_decide_eq_false (by assumption)), show i = sn b from by omega]; done)) | ((rw [(a2 b i (setT_t hnd (via (by assumption) (by assumption)) (by assumption) (by assumption))).1, har]; done)) | ((rw [(a2 b i (setT_t hnd (via (by assumption) (by assumption)) (by assumption) (by assumption))).2]; done)) | ((rw [a3 b i (by first | exact setT_1 (via (by assumption) (by assumption)) | exact setT_2 hnd (by assumption) | exact setT_3 (by assumption))]; done)) | ((rw [b3 b i (by first | exact setT_1 (via (by assumption) (by assumption)) | exact setT_2 hnd (by assumption) | exact setT_3 (by assumption)) (of_decide_eq_true (by assumption)) (of_decide_eq_true (by assumption)) (pas_nd hnd (by assumption)), har]; done)) | ((rw [b4 b i (by first | exact setT_1 (via (by assumption) (by assumption)) | exact setT_2 hnd (by assumption) | exact setT_3 (by assumption)) (of_decide_eq_true (by assumption)) (of_decide_eq_true (by assumption)) (pas_nd hnd (by assumption)), har]; done)) | ((rw [b5 b i (by first | exact setT_1 (via (by assumption) (by assumption)) | exact setT_2 hnd (by assumption) | exact setT_3 (by assumption)) (fun hh => of_decide_eq_false (by assumption) hh.1)]; done)) | ((rw [b5 b i (by first | exact setT_1 (via (by assumption) (by assumption)) | exact setT_2 hnd (by assumption) | exact setT_3 (by assumption)) (fun hh => of_decide_eq_false (by assumption) hh.2)]; done)) | ((have hi' : i = sn b := (by omega); subst hi'; rw [b6 b (of_decide_eq_true (by assumption)), har, hz]; done)) | ((have hsb := hs b; rw [wrap_nat har _ (by omega)]))))))); (· rfl))
    | ((with_reducible apply go_fin_rows hT); (· (cbv; try rfl)); (· (cbv; try rfl)); (· (cbv; (try simp only [true_and, and_true]); (try ((repeat' apply And.intro) <;> (first | trivial | rfl | decide  | ((rw [a0]; done)) | ((rw [b0]; done)) | ((rw [c0]; done)) | ((rw [a1]; done)) | ((rw [b1]; done)) | ((rw [c1]; done)) | ((rw [c2, har]; done)) | ((rw [a6, show i = sn b from by omega]; done)) | ((rw [c6, har, show i = sn b from by omega]; done)) | ((rw [b7 b (of_decide_eq_false (by assumption)), show i = sn b from by omega]; done)) | ((rw [(a2 b i (setT_t hnd (via (by assumption) (by assumption)) (by assumption) (by assumption))).1, har]; done)) | ((rw [(a2 b i (setT_t hnd (via (by assumption) (by assumption)) (by assumption) (by assumption))).2]; done)) | ((rw [a3 b i (by first | exact setT_1 (via (by assumption) (by assumption)) | exact setT_2 hnd (by assumption) | exact setT_3 (by assumption))]; done)) | ((rw [b3 b i (by first | exact setT_1 (via (by assumption) (by assumption)) | exact setT_2 hnd (by assumption) | exact setT_3 (by assumption)) (of_decide_eq_true (by assumption)) (of_decide_eq_true (by assumption)) (pas_nd hnd (by assumption)), har]; done)) | ((rw [b4 b i (by first | exact setT_1 (via (by assumption) (by assumption)) | exact setT_2 hnd (by assumption) | exact setT_3 (by assumption)) (of_decide_eq_true (by assumption)) (of_decide_eq_true (by assumption)) (pas_nd hnd (by assumption)), har]; done)) | ((rw [b5 b i (by first | exact setT_1 (via (by assumption) (by assumption)) | exact setT_2 hnd (by assumption) | exact setT_3 (by assumption)) (fun hh => of_decide_eq_false (by assumption) hh.1)]; done)) | ((rw [b5 b i (by first | exact setT_1 (via (by assumption) (by assumption)) | exact setT_2 hnd (by assumption) | exact setT_3 (by assumption)) (fun hh => of_decide_eq_false (by assumption) hh.2)]; done)) | ((have hi' : i = sn b := (by omega); subst hi'; rw [b6 b (of_decide_eq_true (by assumption)), har, hz]; done)) | ((have hsb := hs b; rw [wrap_nat har _ (by omega)]))))))); (· (cbv; (try simp only [true_and, and_true]); (try ((repeat' apply And.intro) <;> (first | trivial | rfl | exact RowLe.rfl' _  | ((rw [a0]; done)) | ((rw [b0]; done)) | ((rw [c0]; done)) | ((rw [a1]; done)) | ((rw [b1]; done)) | ((rw [c1]; done)) | ((rw [c2, har]; done)) | ((rw [a6, show i = sn b from by omega]; done)) | ((rw [c6, har, show i = sn b from by omega]; done)) | ((rw [b7 b (of_decide_eq_false (by assumption)), show i = sn b from by omega]; done)) | ((rw [(a2 b i (setT_t hnd (via (by assumption) (by assumption)) (by assumption) (by assumption))).1, har]; done)) | ((rw [(a2 b i (setT_t hnd (via (by assumption) (by assumption)) (by assumption) (by assumption))).2]; done)) | ((rw [a3 b i (by first | exact setT_1 (via (by assumption) (by assumption)) | exact setT_2 hnd (by assumption) | exact setT_3 (by assumption))]; done)) | ((rw [b3 b i (by first | exact setT_1 (via (by assumption) (by assumption)) | exact setT_2 hnd (by assumption) | exact setT_3 (by assumption)) (of_decide_eq_true (by assumption)) (of_decide_eq_true (by assumption)) (pas_nd hnd (by assumption)), har]; done)) | ((rw [b4 b i (by first | exact setT_1 (via (by assumption) (by assumption)) | exact setT_2 hnd (by assumption) | exact setT_3 (by assumption)) (of_decide_eq_true (by assumption)) (of_decide_eq_true (by assumption)) (pas_nd hnd (by assumption)), har]; done)) | ((rw [b5 b i (by first | exact setT_1 (via (by assumption) (by assumption)) | exact setT_2 hnd (by assumption) | exact setT_3 (by assumption)) (fun hh => of_decide_eq_false (by assumption) hh.1)]; done)) | ((rw [b5 b i (by first | exact setT_1 (via (by assumption) (by assumption)) | exact setT_2 hnd (by assumption) | exact setT_3 (by assumption)) (fun hh => of_decide_eq_false (by assumption) hh.2)]; done)) | ((have hi' : i = sn b := (by omega); subst hi'; rw [b6 b (of_decide_eq_true (by assumption)), har, hz]; done)) | ((have hsb := hs b; rw [wrap_nat har _ (by omega)]))))))); (· rfl))
    | ((with_reducible apply go_call_bool (f := 40) (hf := Try.call40)); (· (cbv; try rfl)); (· intro wc hbc hxc; exact rBorrowsC (s b i) wc); intro z hz)
    | ((with_reducible apply go_callq_bool (f := 40) (hf := Try.call40)); (· (cbv; try rfl)); (· intro wc hbc hxc; exact rBorrowsC (s b i) wc); intro z hz)
    | ((with_reducible apply go_call (f := 41) (hf := Try.call41)); (· (cbv; try rfl)); (· intro wc hbc hxc; exact cS b i wc (by assumption) (by assumption)))
    | ((with_reducible apply go_callq (f := 41) (hf := Try.call41)); (· (cbv; try rfl)); (· intro wc hbc hxc; exact cS b i wc (by assumption) (by assumption)))
    | ((with_reducible apply go_call (f := 44) (hf := Try.call44)); (· (cbv; try rfl)); (· intro wc hbc hxc; exact cJ b wc hbc (by assumption)))
    | ((with_reducible apply go_callq (f := 44) (hf := Try.call44)); (· (cbv; try rfl)); (· intro wc hbc hxc; exact cJ b wc hbc (by assumption)))
    | ((with_reducible apply go_call_int (f := 42) (hf := Try.call42)); (· (cbv; try rfl)); (· intro wc hbc hxc; exact cP b wc hbc); intro z hz)
    | ((with_reducible apply go_callq_int (f := 42) (hf := Try.call42)); (· (cbv; try rfl)); (· intro wc hbc hxc; exact cP b wc hbc); intro z hz)
    | ((with_reducible apply go_inline (f := 42) (hf := Try.func42) (hr := Try.results42) (hcall := Try.call42)); (· rfl); (· (cbv; try rfl)))
    | ((with_reducible apply go_inline (f := 43) (hf := Try.func43) (hr := Try.results43) (hcall := Try.call43)); (· rfl); (· (cbv; try rfl)))
    | (((with_reducible apply go_getC); (· first | rfl | exact off2 _ | exact off0 _ | exact (off0 _).trans (off0 _)); (· exact hT16)))
    | ((with_reducible refine go_loopk (σ := {b : Nat // b ≤ bn}) [9, 10, 11, 16, 17, 18, 19, 20, 21, 22, 23, 24, 25, 26, 27, 28, 29, 30, 31, 32, 33, 34, 35, 36, 37, 38, 39, 40, 41, 42, 43, 44, 45, 46, 47, 48, 49, 50, 51, 52, 53, 54, 55, 56, 57, 58, 59, 60, 61, 62, 63, 64, 65, 66, 67, 68, 69, 70, 71, 72, 73, 74, 75, 76, 77, 78, 79, 80, 81, 82, 83, 84, 85, 86, 87, 88, 89, 90, 91, 92, 93, 94, 95, 96, 97, 98, 99, 100, 101, 102, 103, 104, 105, 106, 107, 108, 109, 110, 111, 112, 113, 114, 115, 116, 117] (fun x => [(5, .pt (.one (.int .i64 (A0 x.1)))), (6, .pt (.one (.int .i64 (B0 x.1)))), (7, .pt (.one (.int .i64 (C0 x.1)))), (8, .pt (.one (.int .i64 (.ofNat x.1))))]) (fun x => []) (fun x => []) (fun x => bn - x.1) ⟨0, by omega⟩ ?_ ?_ ?_ ?_); (· (refine le_mk ?_ ?_ ?_ ?_ <;> (cbv; (try simp only [true_and, and_true]); (try ((repeat' apply And.intro) <;> (first | trivial | rfl | exact RowLe.rfl' _ | (rw [wrap_nat har _ (by omega)]) | ((rw [a0]; done)) | ((rw [b0]; done)) | ((rw [c0]; done)) | ((rw [a1]; done)) | ((rw [b1]; done)) | ((rw [c1]; done)) | ((rw [c2, har]; done)) | ((rw [a6, show i = sn b from by omega]; done)) | ((rw [c6, har, show i = sn b from by omega]; done)) | ((rw [b7 b (of_decide_eq_false (by assumption)), show i = sn b from by omega]; done)) | ((rw [(a2 b i (setT_t hnd (via (by assumption) (by assumption)) (by assumption) (by assumption))).1, har]; done)) | ((rw [(a2 b i (setT_t hnd (via (by assumption) (by assumption)) (by assumption) (by assumption))).2]; done)) | ((rw [a3 b i (by first | exact setT_1 (via (by assumption) (by assumption)) | exact setT_2 hnd (by assumption) | exact setT_3 (by assumption))]; done)) | ((rw [b3 b i (by first | exact setT_1 (via (by assumption) (by assumption)) | exact setT_2 hnd (by assumption) | exact setT_3 (by assumption)) (of_decide_eq_true (by assumption)) (of_decide_eq_true (by assumption)) (pas_nd hnd (by assumption)), har]; done)) | ((rw [b4 b i (by first | exact setT_1 (via (by assumption) (by assumption)) | exact setT_2 hnd (by assumption) | exact setT_3 (by assumption)) (of_decide_eq_true (by assumption)) (of_decide_eq_true (by assumption)) (pas_nd hnd (by assumption)), har]; done)) | ((rw [b5 b i (by first | exact setT_1 (via (by assumption) (by assumption)) | exact setT_2 hnd (by assumption) | exact setT_3 (by assumption)) (fun hh => of_decide_eq_false (by assumption) hh.1)]; done)) | ((rw [b5 b i (by first | exact setT_1 (via (by assumption) (by assumption)) | exact setT_2 hnd (by assumption) | exact setT_3 (by assumption)) (fun hh => of_decide_eq_false (by assumption) hh.2)]; done)) | ((have hi' : i = sn b := (by omega); subst hi'; rw [b6 b (of_decide_eq_true (by assumption)), har, hz]; done)) | ((have hsb := hs b; rw [wrap_nat har _ (by omega)])))))))); (· (cbv; try rfl)); (· simp); (rintro ⟨b, hb1⟩ mm hmm))
    | ((with_reducible refine go_loopk (σ := {i : Nat // i ≤ sn b}) [29, 30, 31, 32, 33, 34, 35, 36, 37, 38, 39, 40, 41, 42, 43, 44, 45, 46, 47, 48, 49, 50, 51, 52, 53, 54, 55, 56, 57, 58, 59, 60, 61, 62, 63, 64, 65, 66, 67, 68, 69, 70, 71, 72, 73, 74, 75, 76, 77, 78, 79, 80, 81, 82, 83, 84, 85, 86, 87, 88, 89, 90, 91, 92, 93, 94, 95, 96] (fun x => [(5, .pt (.one (.int .i64 (A1 b x.1)))), (6, .pt (.one (.int .i64 (B1 b x.1)))), (7, .pt (.one (.int .i64 (C1 b x.1)))), (10, .pt (.one (.int .i64 (.ofNat x.1))))]) (fun x => []) (fun x => []) (fun x => sn b - x.1) ⟨0, by omega⟩ ?_ ?_ ?_ ?_); (· (refine le_mk ?_ ?_ ?_ ?_ <;> (cbv; (try simp only [true_and, and_true]); (try ((repeat' apply And.intro) <;> (first | trivial | rfl | exact RowLe.rfl' _ | (rw [wrap_nat har _ (by omega)]) | ((rw [a0]; done)) | ((rw [b0]; done)) | ((rw [c0]; done)) | ((rw [a1]; done)) | ((rw [b1]; done)) | ((rw [c1]; done)) | ((rw [c2, har]; done)) | ((rw [a6, show i = sn b from by omega]; done)) | ((rw [c6, har, show i = sn b from by omega]; done)) | ((rw [b7 b (of_decide_eq_false (by assumption)), show i = sn b from by omega]; done)) | ((rw [(a2 b i (setT_t hnd (via (by assumption) (by assumption)) (by assumption) (by assumption))).1, har]; done)) | ((rw [(a2 b i (setT_t hnd (via (by assumption) (by assumption)) (by assumption) (by assumption))).2]; done)) | ((rw [a3 b i (by first | exact setT_1 (via (by assumption) (by assumption)) | exact setT_2 hnd (by assumption) | exact setT_3 (by assumption))]; done)) | ((rw [b3 b i (by first | exact setT_1 (via (by assumption) (by assumption)) | exact setT_2 hnd (by assumption) | exact setT_3 (by assumption)) (of_decide_eq_true (by assumption)) (of_decide_eq_true (by assumption)) (pas_nd hnd (by assumption)), har]; done)) | ((rw [b4 b i (by first | exact setT_1 (via (by assumption) (by assumption)) | exact setT_2 hnd (by assumption) | exact setT_3 (by assumption)) (of_decide_eq_true (by assumption)) (of_decide_eq_true (by assumption)) (pas_nd hnd (by assumption)), har]; done)) | ((rw [b5 b i (by first | exact setT_1 (via (by assumption) (by assumption)) | exact setT_2 hnd (by assumption) | exact setT_3 (by assumption)) (fun hh => of_decide_eq_false (by assumption) hh.1)]; done)) | ((rw [b5 b i (by first | exact setT_1 (via (by assumption) (by assumption)) | exact setT_2 hnd (by assumption) | exact setT_3 (by assumption)) (fun hh => of_decide_eq_false (by assumption) hh.2)]; done)) | ((have hi' : i = sn b := (by omega); subst hi'; rw [b6 b (of_decide_eq_true (by assumption)), har, hz]; done)) | ((have hsb := hs b; rw [wrap_nat har _ (by omega)])))))))); (· (cbv; try rfl)); (· simp); (rintro ⟨i, hi⟩ mm hmm))
    | ((with_reducible refine go_stop ⟨b + 1, by omega⟩ ?_ ?_ ?_ ?_); (· exact Nat.lt_of_lt_of_eq (show bn - (b + 1) < bn - b from by omega) (Eq.symm (by assumption))); (· (refine le_mk ?_ ?_ ?_ ?_ <;> (cbv; (try simp only [true_and, and_true]); (try ((repeat' apply And.intro) <;> (first | trivial | rfl | exact RowLe.rfl' _ | (rw [wrap_nat har _ (by omega)]) | ((rw [a0]; done)) | ((rw [b0]; done)) | ((rw [c0]; done)) | ((rw [a1]; done)) | ((rw [b1]; done)) | ((rw [c1]; done)) | ((rw [c2, har]; done)) | ((rw [a6, show i = sn b from by omega]; done)) | ((rw [c6, har, show i = sn b from by omega]; done)) | ((rw [b7 b (of_decide_eq_false (by assumption)), show i = sn b from by omega]; done)) | ((rw [(a2 b i (setT_t hnd (via (by assumption) (by assumption)) (by assumption) (by assumption))).1, har]; done)) | ((rw [(a2 b i (setT_t hnd (via (by assumption) (by assumption)) (by assumption) (by assumption))).2]; done)) | ((rw [a3 b i (by first | exact setT_1 (via (by assumption) (by assumption)) | exact setT_2 hnd (by assumption) | exact setT_3 (by assumption))]; done)) | ((rw [b3 b i (by first | exact setT_1 (via (by assumption) (by assumption)) | exact setT_2 hnd (by assumption) | exact setT_3 (by assumption)) (of_decide_eq_true (by assumption)) (of_decide_eq_true (by assumption)) (pas_nd hnd (by assumption)), har]; done)) | ((rw [b4 b i (by first | exact setT_1 (via (by assumption) (by assumption)) | exact setT_2 hnd (by assumption) | exact setT_3 (by assumption)) (of_decide_eq_true (by assumption)) (of_decide_eq_true (by assumption)) (pas_nd hnd (by assumption)), har]; done)) | ((rw [b5 b i (by first | exact setT_1 (via (by assumption) (by assumption)) | exact setT_2 hnd (by assumption) | exact setT_3 (by assumption)) (fun hh => of_decide_eq_false (by assumption) hh.1)]; done)) | ((rw [b5 b i (by first | exact setT_1 (via (by assumption) (by assumption)) | exact setT_2 hnd (by assumption) | exact setT_3 (by assumption)) (fun hh => of_decide_eq_false (by assumption) hh.2)]; done)) | ((have hi' : i = sn b := (by omega); subst hi'; rw [b6 b (of_decide_eq_true (by assumption)), har, hz]; done)) | ((have hsb := hs b; rw [wrap_nat har _ (by omega)])))))))); (· (cbv; try rfl)); (· simp))
    | ((with_reducible refine go_stop ⟨i + 1, by omega⟩ ?_ ?_ ?_ ?_); (· exact Nat.lt_of_lt_of_eq (show sn b - (i + 1) < sn b - i from by omega) (Eq.symm (by assumption))); (· (refine le_mk ?_ ?_ ?_ ?_ <;> (cbv; (try simp only [true_and, and_true]); (try ((repeat' apply And.intro) <;> (first | trivial | rfl | exact RowLe.rfl' _ | (rw [wrap_nat har _ (by omega)]) | ((rw [a0]; done)) | ((rw [b0]; done)) | ((rw [c0]; done)) | ((rw [a1]; done)) | ((rw [b1]; done)) | ((rw [c1]; done)) | ((rw [c2, har]; done)) | ((rw [a6, show i = sn b from by omega]; done)) | ((rw [c6, har, show i = sn b from by omega]; done)) | ((rw [b7 b (of_decide_eq_false (by assumption)), show i = sn b from by omega]; done)) | ((rw [(a2 b i (setT_t hnd (via (by assumption) (by assumption)) (by assumption) (by assumption))).1, har]; done)) | ((rw [(a2 b i (setT_t hnd (via (by assumption) (by assumption)) (by assumption) (by assumption))).2]; done)) | ((rw [a3 b i (by first | exact setT_1 (via (by assumption) (by assumption)) | exact setT_2 hnd (by assumption) | exact setT_3 (by assumption))]; done)) | ((rw [b3 b i (by first | exact setT_1 (via (by assumption) (by assumption)) | exact setT_2 hnd (by assumption) | exact setT_3 (by assumption)) (of_decide_eq_true (by assumption)) (of_decide_eq_true (by assumption)) (pas_nd hnd (by assumption)), har]; done)) | ((rw [b4 b i (by first | exact setT_1 (via (by assumption) (by assumption)) | exact setT_2 hnd (by assumption) | exact setT_3 (by assumption)) (of_decide_eq_true (by assumption)) (of_decide_eq_true (by assumption)) (pas_nd hnd (by assumption)), har]; done)) | ((rw [b5 b i (by first | exact setT_1 (via (by assumption) (by assumption)) | exact setT_2 hnd (by assumption) | exact setT_3 (by assumption)) (fun hh => of_decide_eq_false (by assumption) hh.1)]; done)) | ((rw [b5 b i (by first | exact setT_1 (via (by assumption) (by assumption)) | exact setT_2 hnd (by assumption) | exact setT_3 (by assumption)) (fun hh => of_decide_eq_false (by assumption) hh.2)]; done)) | ((have hi' : i = sn b := (by omega); subst hi'; rw [b6 b (of_decide_eq_true (by assumption)), har, hz]; done)) | ((have hsb := hs b; rw [wrap_nat har _ (by omega)])))))))); (· (cbv; try rfl)); (· simp))
    | (with_reducible apply go_rounds 3)
    )
  all_goals (refine bool_eq ?_)
  · have h' : decide ((T : Int) ≤ pa) = true := by subst hcm; assumption
    rw [hz1, h']; rfl
  all_goals
    have hbb : b = bn := by omega
    subst hbb
    have h' : decide ((T : Int) ≤ pa) = false := by subst hcm; assumption
    rw [hz1, h']
    clear hz1 a2 a3 b3 b4 b5 c2 a6 b6 b7 c6 cS cJ cP hX hT
    simp only [decide_eq_true_eq, decide_eq_false_iff_not] at *
    simp_all
    try rfl

def okR (F : GFun) : Bool := allN 16 fun t => !((allTwo F F.bn).is t && !onceB F t)
/-- The error of a function, as the reference has it. -/
def rchkV (F : GFun) : Int := if largeB F then 4 else if !rmadeB F then 8 else if !okR F then 12 else 0
theorem rmade_valid {F : GFun} (h : rmadeB F = true) : allN F.bn (validB F) = true := by
  simp only [rmadeB, Bool.and_eq_true] at h
  refine allN_iff.2 fun b hb => ?_
  have h1 := allN_iff.1 h.2 b hb
  simp only [blkOk, Bool.and_eq_true] at h1
  simp only [validB, Bool.and_eq_true]
  refine ⟨allN_iff.2 fun i hi => ?_, h1.1.2.1⟩
  have h2 := allN_iff.1 h1.1.1 i hi
  simp only [Bool.and_eq_true] at h2
  exact h2.1

set_option maxRecDepth 100000 in
set_option maxHeartbeats 4000000 in
theorem rFnChk (F : GFun) (w : World) (hF : F.At w) (hK : F.Ty8) :
    Calls Try.prog 14 #[F.val] w (Ret w (.int .i64 (rchkV F))) := by
  have h1 (wc : World) (hk : KB ⟨w, []⟩ wc) := rManyC F wc (hF.later hk)
  have h2 (wc : World) (hk : KB ⟨w, []⟩ wc) := rMadeC F wc (hF.later hk) hK
  have h3 (hm : rmadeB F = true) (wc : World) (hk : KB ⟨w, []⟩ wc) := rTwoC F wc (hF.later hk) (valid_in F (rmade_valid hm))
  have h4 (hm : rmadeB F = true) (T : Nat) (hT : T < 16) (wc : World) (hk : KB ⟨w, []⟩ wc) := onceC F wc (hF.later hk) (rmade_valid hm) T hT
  obtain ⟨z0, hz0⟩ : ∃ z, z = rchkV F := ⟨_, rfl⟩
  rw [← hz0]
  unfold rchkV okR at hz0
  obtain ⟨q1, hq1⟩ : ∃ b, b = largeB F := ⟨_, rfl⟩
  obtain ⟨q2, hq2⟩ : ∃ b, b = rmadeB F := ⟨_, rfl⟩
  obtain ⟨is, his⟩ : ∃ v, v = (allTwo F F.bn).is := ⟨_, rfl⟩
  obtain ⟨on, hon⟩ : ∃ v, v = onceB F := ⟨_, rfl⟩
  rw [← hq1, ← hq2, ← his, ← hon] at hz0
  rw [← hq1] at h1
  rw [← hq2] at h2
  rw [← hq2, ← his] at h3
  rw [← hq2, ← hon] at h4
  have g1 : ∀ t, t < 16 → is t = true → on t = false → q1 = false → q2 = true → z0 = 12 := fun t ht h1 h2 h3 h4 => by
    have : (allN 16 fun t => !(is t && !on t)) = false := allN_false ht (by rw [h1, h2]; rfl)
    rw [hz0, this, h3, h4]; rfl
  have g2 : (∀ t, t < 16 → is t = false ∨ on t = true) → q1 = false → q2 = true → z0 = 0 := fun h h3 h4 => by
    have : (allN 16 fun t => !(is t && !on t)) = true := allN_iff.2 fun t ht => by
      rcases h t ht with h | h <;> rw [h] <;> simp
    rw [hz0, this, h3, h4]; rfl
  have g3 : q1 = true → z0 = 4 := fun h => by rw [hz0, h]; rfl
  have g4 : q1 = false → q2 = false → z0 = 8 := fun h h' => by rw [hz0, h, h']; rfl
  clear hq1 hq2 his hon hz0
  obtain ⟨pa, un, lA, ln, lc, lk, lt, bA, bn, bc, sA, sn, sc, s, jA, jn, jc, ja, jk, jo, jf, jx, je, jd⟩ := F
  obtain ⟨hX, hl, hb, hs, hj⟩ := hF
  simp only at hl hb hs hj
  refine go_start (args := [.pt (.agg (GFun.dat _))]) (c := (funX _)) Try.func14 rfl hX rfl rfl ?_
  obtain ⟨nd, hnd⟩ : ∃ f : Bool → Bool → Bool, f = and := ⟨_, rfl⟩
  obtain ⟨nt, hnt⟩ : ∃ f : Bool → Bool, f = not := ⟨_, rfl⟩
  obtain ⟨ar, har⟩ : ∃ f : BinOp → IntKind → Int → Int → Int, f = rAr := ⟨_, rfl⟩
  obtain ⟨cm, hcm⟩ : ∃ f : BinOp → Int → Int → Bool, f = rCm := ⟨_, rfl⟩
  obtain ⟨mx, hmx⟩ : ∃ f : Int → Int → Int, f = rMx := ⟨_, rfl⟩
  obtain ⟨mn, hmn⟩ : ∃ f : Int → Int → Int, f = rMn := ⟨_, rfl⟩
  have ar01 : ar .add .i64 0 1 = 1 := by rw [har]; decide
  have ar12 : ar .add .i64 1 1 = 2 := by rw [har]; decide
  obtain ⟨zpl, hzpl⟩ : ∃ f : Nat → Nat → Nat, f = fun x y => x + y := ⟨_, rfl⟩
  obtain ⟨zjn, hzjn⟩ : ∃ f : Nat → (Nat → List SC) → (Nat → List SC) → Nat → List SC, f = rJn := ⟨_, rfl⟩
  obtain ⟨zup, hzup⟩ : ∃ f : (Nat → List SC) → Nat → Nat → List SC → Nat → List SC, f = rUp := ⟨_, rfl⟩
  obtain ⟨zmi, hzmi⟩ : ∃ f : Nat → Nat → Nat, f = fun x y => x - y := ⟨_, rfl⟩
  obtain ⟨zdp, hzdp⟩ : ∃ f : Nat → (Nat → List SC) → Nat → List SC, f = rDp := ⟨_, rfl⟩
  have hT := T0_ok hnd hnt har hcm hmx hmn hzpl hzjn hzup hzmi hzdp
  have hl16 : ∀ t : Nat, cm .lss (.ofNat t) 16 = true → t < 16 := fun t h => by
    rw [hcm] at h
    have := of_decide_eq_true (show decide ((t : Int) < 16) = true from h)
    omega
  have hg16 : ∀ t : Nat, cm .lss (.ofNat t) 16 = false → 16 ≤ t := fun t h => by
    rw [hcm] at h
    have := of_decide_eq_false (show decide ((t : Int) < 16) = false from h)
    omega
  repeat' (first
    | ((with_reducible apply go_ev hT 400); (· (cbv; try rfl)); (fail_if_success with_reducible apply stuck_id))
    | ((with_reducible refine go_brt ?_ ?_); (· first | rfl | assumption | (rw [hcm]; decide)))
    | ((with_reducible refine go_brf ?_ ?_); (· first | rfl | assumption | (rw [hcm]; decide)))
    | ((with_reducible refine go_brnt hnt ?_ ?_); (· first | rfl | assumption))
    | ((with_reducible refine go_brnf hnt ?_ ?_); (· first | rfl | assumption))
    | (with_reducible refine go_brn hnt (fun h => ?_) (fun h => ?_))
    | (with_reducible refine go_brl hcm (fun hlt => ?_) (fun hge => ?_))
    | (with_reducible refine go_br (fun h => ?_) (fun h => ?_))
    | ((with_reducible apply go_ret_val hT); (· (cbv; try rfl)); (· (cbv; try rfl)))
    | ((with_reducible apply go_fin_val hT); (· (cbv; try rfl)); (· (cbv; try rfl)))
    | ((with_reducible apply go_draw); (· rfl); (· kernel_rfl); (· kernel_rfl))
    | ((with_reducible apply go_drawE); (· kernel_rfl))
    | (with_reducible refine go_fork ?_)
    | (with_reducible refine fork_cons ?_ ?_)
    | (with_reducible exact fork_nil)
    | ((with_reducible refine go_need ?_ ?_ ?_); (· first | omega | (simp only [Int.ofNat_eq_natCast]; omega)); (· first | omega | (simp only [Int.ofNat_eq_natCast]; omega)))
    | ((with_reducible refine go_ob ?_ ?_); (· first | trivial | (refine ⟨trivial, ?_⟩; omega) | (rw [hzpl]; refine ⟨trivial, ?_⟩; show _ + _ ≤ 1073741824; omega) | (rw [hzpl]; show _ + _ ≤ 1073741824; omega)))
    | ((with_reducible apply go_ret_rows hT); (· (cbv; try rfl)); (· (cbv; try rfl)); (· (cbv; (try simp only [true_and, and_true]); (try ((repeat' apply And.intro) <;> (first | trivial | rfl | decide ))))); (· (cbv; (try simp only [true_and, and_true]); (try ((repeat' apply And.intro) <;> (first | trivial | rfl | exact RowLe.rfl' _ ))))); (· rfl))
    | ((with_reducible apply go_fin_rows hT); (· (cbv; try rfl)); (· (cbv; try rfl)); (· (cbv; (try simp only [true_and, and_true]); (try ((repeat' apply And.intro) <;> (first | trivial | rfl | decide ))))); (· (cbv; (try simp only [true_and, and_true]); (try ((repeat' apply And.intro) <;> (first | trivial | rfl | exact RowLe.rfl' _ ))))); (· rfl))
    | ((with_reducible apply go_call_bool (f := 26) (hf := Try.call26)); (· (cbv; try rfl)); (· intro wc hbc hxc; exact h1 wc hbc); intro z hz)
    | ((with_reducible apply go_callq_bool (f := 26) (hf := Try.call26)); (· (cbv; try rfl)); (· intro wc hbc hxc; exact h1 wc hbc); intro z hz)
    | ((with_reducible apply go_call_bool (f := 27) (hf := Try.call27)); (· (cbv; try rfl)); (· intro wc hbc hxc; exact h2 wc hbc); intro z hz)
    | ((with_reducible apply go_callq_bool (f := 27) (hf := Try.call27)); (· (cbv; try rfl)); (· intro wc hbc hxc; exact h2 wc hbc); intro z hz)
    | ((with_reducible apply go_call (f := 28) (hf := Try.call28)); (· (cbv; try rfl)); (· intro wc hbc hxc; exact h3 (via (by assumption) (by assumption)) wc hbc))
    | ((with_reducible apply go_callq (f := 28) (hf := Try.call28)); (· (cbv; try rfl)); (· intro wc hbc hxc; exact h3 (via (by assumption) (by assumption)) wc hbc))
    | ((with_reducible apply go_call_bool (f := 29) (hf := Try.call29)); (· (cbv; try rfl)); (· intro wc hbc hxc; exact h4 (via (by assumption) (by assumption)) t (hl16 t (by assumption)) wc hbc); intro z hz)
    | ((with_reducible apply go_callq_bool (f := 29) (hf := Try.call29)); (· (cbv; try rfl)); (· intro wc hbc hxc; exact h4 (via (by assumption) (by assumption)) t (hl16 t (by assumption)) wc hbc); intro z hz)
    | (((with_reducible apply go_need); (· exact Int.natCast_nonneg _); (· exact Int.ofNat_lt.2 (hl16 t (by assumption)))))
    | (((with_reducible apply go_getB); (· first | exact off2 _ | exact (off0 _).trans (off0 _) | exact off0 _); (· exact hl16 t (by assumption))))
    | ((with_reducible refine go_loopk (σ := {t : Nat // t ≤ 16 ∧ ∀ j, j < t → is j = false ∨ on j = true}) [2, 12, 13, 14, 15, 16, 17, 18, 19, 20, 21, 22, 23, 24] (fun x => [(4, .pt (.one (.int .i64 (.ofNat x.1))))]) (fun x => []) (fun x => []) (fun x => 16 - x.1) ⟨0, by omega, fun j hj => by omega⟩ ?_ ?_ ?_ ?_); (· (refine le_mk ?_ ?_ ?_ ?_ <;> (cbv; (try simp only [true_and, and_true]); (try ((repeat' apply And.intro) <;> (first | trivial | rfl | exact RowLe.rfl' _ | (rw [wrap_nat har _ (by omega)]))))))); (· (cbv; try rfl)); (· simp); (rintro ⟨t, ht, htv⟩ mm hmm))
    | ((with_reducible refine go_stop ⟨t + 1, by have := hl16 t (by assumption); omega, all_succ htv (show is t = false ∨ on t = true from by first | exact .inr (via (by assumption) (by assumption)) | exact .inl (by assumption))⟩ ?_ ?_ ?_ ?_); (· subst hmm; exact Nat.lt_of_lt_of_eq (Nat.sub_lt_sub_left (hl16 t (by assumption)) (Nat.lt_succ_self t)) rfl); (· (refine le_mk ?_ ?_ ?_ ?_ <;> (cbv; (try simp only [true_and, and_true]); (try ((repeat' apply And.intro) <;> (first | trivial | rfl | exact RowLe.rfl' _ | (rw [wrap_nat har _ (by omega)]))))))); (· (cbv; try rfl)); (· simp))
    )
  all_goals (refine int_eq ?_)
  all_goals first
    | exact (g3 (via (by assumption) (by assumption))).symm
    | exact (g4 (via (by assumption) (by assumption)) (via (by assumption) (by assumption))).symm
    | exact (g1 t (hl16 t (by assumption)) (by assumption) (via (by assumption) (by assumption)) (via (by assumption) (by assumption)) (via (by assumption) (by assumption))).symm
    | exact (g2 (fun j hj => htv j (by have := hg16 t (by assumption); omega)) (via (by assumption) (by assumption)) (via (by assumption) (by assumption))).symm

end Go.Proofs.Ytbimggeapaaliaa
