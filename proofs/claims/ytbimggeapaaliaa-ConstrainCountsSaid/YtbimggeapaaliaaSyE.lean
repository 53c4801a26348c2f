/- Layer 7 of the program: telling a function of all places of a statement, of a jump. No condition. -/
import Derived.Test.YtbimggeapaaliaaSyD
namespace Go.Proofs.Ytbimggeapaaliaa
open Go.RowKit
set_option linter.unusedVariables false
set_option linter.unusedSimpArgs false

theorem leCL_refl : ∀ l : List SC, leCL l l
  | [] => trivial
  | c :: l => ⟨by cases c <;> simp [leCell], leCL_refl l⟩
theorem leCL_eq {l l' : List SC} (h : l = l') : leCL l l' := h ▸ leCL_refl l

/-- A function value that turns two blocks: what they hold is told by x, and E says how a place turns x. -/
structure OnOk (c : Nat → Nat → Row) (f : Nat) (σ : Type) (H0 H1 : σ → List SC) (E : σ → GPlace → Bool → σ) (D : GPlace → Prop) : Prop where
  call : ∀ (args : Array Value) (w : World), (callFunc f args).run Try.prog w = .ok (.enter f args) w
  re0 : ∀ x, reL [0, 1] (H0 x) = H0 x
  re1 : ∀ x, reL [0, 1] (H1 x) = H1 x
  bnd0 : ∀ n m x, bndL n m (H0 x) = true
  bnd1 : ∀ n m x, bndL n m (H1 x) = true
  eff : ∀ (x : σ) (p : GPlace) (b : Bool), D p → EffC Try.prog f c [.pt (.agg p.sc), .pt (.one (.bool b)), .pt (.one (.ptr 0 0)), .pt (.one (.ptr 1 0))] [H0 x, H1 x] [H0 (E x p b), H1 (E x p b)] (.tuple #[])
section
variable {P : Program} {Q : Exit → Act → World → Prop} {c : Nat → Nat → Row} {w0 : Base} {T : Tb} {f : Nat} {σ : Type} {H0 H1 : σ → List SC} {E : σ → GPlace → Bool → σ} {D : GPlace → Prop}
theorem go_on (O : OnOk c f σ H0 H1 E D) (x : σ) {b d : Bool} {u v : SC} {l n : Int} {h : List (Option (List SC))} {t : List SV} {fr : List (List SV)} {rr : List (Option ORow)} {dst : Option Nat} {k : List Item} (hu : leCell u (.bool b)) (hv : leCell v (.bool d)) (hD : D ⟨l, d, n⟩)
    (hg : Goes Try.prog Q c w0 k (({ t := t, h := some (H0 (E x ⟨l, d, n⟩ b)) :: some (H1 (E x ⟨l, d, n⟩ b)) :: h, fr := fr, r := rr } : St).put dst (.tup []))) :
    OutOk Try.prog Q c w0 (.call f [.pt (.agg [.int .i64 l, v, .int .u8 n]), .pt (.one u), .pt (.one (.ptr 0 0)), .pt (.one (.ptr 1 0))] dst k { t := t, h := some (H0 x) :: some (H1 x) :: h, fr := fr, r := rr }) := by
  refine go_call_eff [0, 1] (O.eff x ⟨l, d, n⟩ b hD) O.call ?_ (hs0 := [H0 x, H1 x]) rfl ?_ rfl ?_ ?_ (by decide) rfl rfl ?_
  · exact ⟨⟨⟨rfl, rfl⟩, hv, ⟨rfl, rfl⟩, trivial⟩, hu, rfl, rfl, trivial⟩
  · exact ⟨leCL_eq (O.re0 x).symm, leCL_eq (O.re1 x).symm, trivial⟩
  · rfl
  · simp [bndLs, lenN, O.bnd0, O.bnd1]
  · simp only [setH, setN, reLs, O.re0, O.re1]
    exact hg
end

def opRun {σ : Type} (E : σ → GPlace → Bool → σ) (may : Bool) (x : σ) (o : GOper) : σ := if o.k = 1 then x else E x o.p (may && decide (o.k = 3))
def opsRun {σ : Type} (E : σ → GPlace → Bool → σ) (may : Bool) (g : Nat → GOper) : Nat → σ → σ
  | 0, x => x
  | n + 1, x => opRun E may (opsRun E may g n x) (g n)
def stRun {σ : Type} (E : σ → GPlace → Bool → σ) (x : σ) (s : GStmt) : σ :=
  if s.k = 3 then E x ⟨s.l, false, 0⟩ false
  else if s.k = 2 ∨ s.k = 4 then opRun E false x s.a
  else if s.k = 1 then
    if s.r.k = 4 ∨ s.r.k = 5 then E (E x s.p false) s.r.p false
    else if s.r.k = 1 then opRun E true (E x s.p false) s.r.a
    else opRun E false (opRun E false (E x s.p false) s.r.a) s.r.b
  else x

section
variable {c : Nat → Nat → Row} {f : Nat} {σ : Type} {H0 H1 : σ → List SC} {E : σ → GPlace → Bool → σ} {D : GPlace → Prop}
/-- Every place that a statement tells of. -/
def stAll (D : GPlace → Prop) (s : GStmt) : Prop :=
  (s.k = 3 → D ⟨s.l, false, 0⟩) ∧ (s.k = 2 ∨ s.k = 4 → s.a.k ≠ 1 → D s.a.p) ∧
  (s.k = 1 → D s.p ∧ (s.r.k = 4 ∨ s.r.k = 5 → D s.r.p) ∧ (¬(s.r.k = 4 ∨ s.r.k = 5) → (s.r.a.k ≠ 1 → D s.r.a.p) ∧ (s.r.k ≠ 1 → s.r.b.k ≠ 1 → D s.r.b.p)))
def jmAll (D : GPlace → Prop) (k : Int) (a : GOper) (d : GPlace) (n : Nat) (g : Nat → GOper) : Prop :=
  (k = 2 → a.k ≠ 1 → D a.p) ∧ (k = 4 → D d ∧ ∀ i, i < n → (g i).k ≠ 1 → D (g i).p)
set_option maxRecDepth 100000 in
set_option maxHeartbeats 4000000 in
theorem inStmtE (O : OnOk c f σ H0 H1 E D) (x : σ) (s : GStmt) (hD : stAll D s) :
    EffC Try.prog 48 c [.pt (.agg s.sc), .pt (.one (.fn f [(0, 0), (1, 0)]))] [H0 x, H1 x] [H0 (stRun E x s), H1 (stRun E x s)] (.tuple #[]) := by
  obtain ⟨k, ⟨ql, qd, qf⟩, ⟨rk, rop, rbo, ⟨ak, an, ⟨al, ad, af⟩⟩, ⟨bk, bn, ⟨bl, bd, bf⟩⟩, ⟨pl, pd, pf⟩⟩, ⟨ck, cn, ⟨cl, cd, cf⟩⟩, l⟩ := s
  obtain ⟨y, hy⟩ : ∃ y, y = stRun E x ⟨k, ⟨ql, qd, qf⟩, ⟨rk, rop, rbo, ⟨ak, an, ⟨al, ad, af⟩⟩, ⟨bk, bn, ⟨bl, bd, bf⟩⟩, ⟨pl, pd, pf⟩⟩, ⟨ck, cn, ⟨cl, cd, cf⟩⟩, l⟩ := ⟨_, rfl⟩
  rw [← hy]
  simp only [stAll] at hD
  refine go_start_eff Try.func48 rfl rfl (fun w bs hlen => ?_)
  obtain ⟨nd, hnd⟩ : ∃ f : Bool → Bool → Bool, f = and := ⟨_, rfl⟩
  obtain ⟨nt, hnt⟩ : ∃ f : Bool → Bool, f = not := ⟨_, rfl⟩
  obtain ⟨ar, har⟩ : ∃ f : BinOp → IntKind → Int → Int → Int, f = rAr := ⟨_, rfl⟩
  obtain ⟨cm, hcm⟩ : ∃ f : BinOp → Int → Int → Bool, f = rCm := ⟨_, rfl⟩
  obtain ⟨mx, hmx⟩ : ∃ f : Int → Int → Int, f = rMx := ⟨_, rfl⟩
  obtain ⟨mn, hmn⟩ : ∃ f : Int → Int → Int, f = rMn := ⟨_, rfl⟩
  have ar01 : ar .add .i64 0 1 = 1 := by rw [har]; decide
  have ar12 : ar .add .i64 1 1 = 2 := by rw [har]; decide
  obtain ⟨zpl, hzpl⟩ : ∃ f : Nat → Nat → Nat, f = fun x y => x + y := ⟨_, rfl⟩
  obtain ⟨zjn, hzjn⟩ : ∃ f : Nat → (Nat → List SC) → (Nat → List SC) → Nat → List SC, f = rJn := ⟨_, rfl⟩
  obtain ⟨zup, hzup⟩ : ∃ f : (Nat → List SC) → Nat → Nat → List SC → Nat → List SC, f = rUp := ⟨_, rfl⟩
  obtain ⟨zmi, hzmi⟩ : ∃ f : Nat → Nat → Nat, f = fun x y => x - y := ⟨_, rfl⟩
  obtain ⟨zdp, hzdp⟩ : ∃ f : Nat → (Nat → List SC) → Nat → List SC, f = rDp := ⟨_, rfl⟩
  have hT := T0_ok hnd hnt har hcm hmx hmn hzpl hzjn hzup hzmi hzdp
  repeat' (first
    | ((with_reducible apply go_ev hT 400); (· (cbv; try rfl)); (fail_if_success with_reducible apply stuck_id); (try simp only [ar01, ar12]))
    | ((with_reducible refine go_brt ?_ ?_); (· first | rfl | assumption | (rw [hcm]; decide)))
    | ((with_reducible refine go_brf ?_ ?_); (· first | rfl | assumption | (rw [hcm]; decide)))
    | ((with_reducible refine go_brnt hnt ?_ ?_); (· first | rfl | assumption))
    | ((with_reducible refine go_brnf hnt ?_ ?_); (· first | rfl | assumption))
    | (with_reducible refine go_brn hnt (fun h => ?_) (fun h => ?_))
    | (with_reducible refine go_brl hcm (fun hlt => ?_) (fun hge => ?_))
    | (with_reducible refine go_br (fun h => ?_) (fun h => ?_))
    | ((with_reducible apply go_ret_val hT); (· (cbv; try rfl)); (· (cbv; try rfl)))
    | ((with_reducible apply go_fin_val hT); (· (cbv; try rfl)); (· (cbv; try rfl)))
    | ((with_reducible apply go_draw); (· rfl); (· kernel_rfl); (· kernel_rfl))
    | ((with_reducible apply go_drawE); (· kernel_rfl))
    | (with_reducible refine go_fork ?_)
    | (with_reducible refine fork_cons ?_ ?_)
    | (with_reducible exact fork_nil)
    | ((with_reducible refine go_need ?_ ?_ ?_); (· first | omega | (simp only [Int.ofNat_eq_natCast]; omega)); (· first | omega | (simp only [Int.ofNat_eq_natCast]; omega)))
    | ((with_reducible refine go_ob ?_ ?_); (· first | trivial | (refine ⟨trivial, ?_⟩; omega) | (rw [hzpl]; refine ⟨trivial, ?_⟩; show _ + _ ≤ 1073741824; omega) | (rw [hzpl]; show _ + _ ≤ 1073741824; omega)))
    | ((with_reducible apply go_ret_rows hT); (· (cbv; try rfl)); (· (cbv; try rfl)); (· (cbv; (try simp only [true_and, and_true]); (try ((repeat' apply And.intro) <;> (first | trivial | rfl | decide ))))); (· (cbv; (try simp only [true_and, and_true]); (try ((repeat' apply And.intro) <;> (first | trivial | rfl | exact RowLe.rfl' _ ))))); (· rfl))
    | ((with_reducible apply go_fin_rows hT); (· (cbv; try rfl)); (· (cbv; try rfl)); (· (cbv; (try simp only [true_and, and_true]); (try ((repeat' apply And.intro) <;> (first | trivial | rfl | decide ))))); (· (cbv; (try simp only [true_and, and_true]); (try ((repeat' apply And.intro) <;> (first | trivial | rfl | exact RowLe.rfl' _ ))))); (· rfl))
    | ((with_reducible apply go_inline (f := 65) (hf := Try.func65) (hr := Try.results65) (hcall := Try.call65)); (· rfl); (· (cbv; try rfl)))
    | (with_reducible apply go_rounds 4)
    | (((with_reducible apply go_on O); (· rfl); (· rfl); (· simp_all; done)))
    | (((with_reducible apply go_fin_eff hT hlen); (· (cbv; try rfl)); (· (cbv; try rfl)); (· rfl); (· exact ⟨leCL_eq (congrArg H0 (by rw [hy]; simp_all [stRun, opRun])), leCL_eq (congrArg H1 (by rw [hy]; simp_all [stRun, opRun])), trivial⟩); (· simp [bndLs, lenN, O.bnd0, O.bnd1])))
    )

/-- A jump's places. -/
def jmRun {σ : Type} (E : σ → GPlace → Bool → σ) (x : σ) (k : Int) (a : GOper) (d : GPlace) (n : Nat) (g : Nat → GOper) : σ :=
  if k = 2 then opRun E false x a else if k = 4 then opsRun E true g n (E x d false) else x

set_option maxRecDepth 100000 in
set_option maxHeartbeats 4000000 in
theorem inJumpE (F : GFun) (b : Nat) (O : OnOk (funX F) f σ H0 H1 E D) (x : σ) (hj : F.jn b ≤ 9223372036854775807) (hD : jmAll D (F.jk b) (F.jo b) (F.jd b) (F.jn b) (F.ja b)) :
    EffC Try.prog 50 (funX F) [.pt (.agg [.int .u8 (F.jk b), .int .u8 (F.jo b).k, .int .i64 (F.jo b).n, .int .i64 (F.jo b).p.l, .bool (F.jo b).p.d, .int .u8 (F.jo b).p.f, .int .i64 (F.jf b), .int .i64 (F.jx b), .int .i64 (F.je b), .xs 3 b, .int .i64 (F.jd b).l, .bool (F.jd b).d, .int .u8 (F.jd b).f]), .pt (.one (.fn f [(0, 0), (1, 0)]))] [H0 x, H1 x]
      [H0 (jmRun E x (F.jk b) (F.jo b) (F.jd b) (F.jn b) (F.ja b)), H1 (jmRun E x (F.jk b) (F.jo b) (F.jd b) (F.jn b) (F.ja b))] (.tuple #[]) := by
  obtain ⟨pa, un, lA, ln, lc, lk, lt, bA, bn, bc, sA, sn, sc, s, jA, jn, jc, ja, jk, jo, jf, jx, je, jd⟩ := F
  simp only [jmAll] at hj hD ⊢
  obtain ⟨y, hy⟩ : ∃ y, y = jmRun E x (jk b) (jo b) (jd b) (jn b) (ja b) := ⟨_, rfl⟩
  obtain ⟨acc, ha0, has⟩ : ∃ acc : Nat → σ, acc 0 = E x (jd b) false ∧ ∀ i, acc (i + 1) = opRun E true (acc i) (ja b i) := ⟨fun i => opsRun E true (ja b) i (E x (jd b) false), rfl, fun _ => rfl⟩
  have hacc : ∀ i, acc i = opsRun E true (ja b) i (E x (jd b) false) := by
    intro i; induction i with
    | zero => rw [ha0]; rfl
    | succ i ih => rw [has, ih]; rfl
  rw [← hy]
  refine go_start_eff Try.func50 rfl rfl (fun w bs hlen => ?_)
  obtain ⟨nd, hnd⟩ : ∃ f : Bool → Bool → Bool, f = and := ⟨_, rfl⟩
  obtain ⟨nt, hnt⟩ : ∃ f : Bool → Bool, f = not := ⟨_, rfl⟩
  obtain ⟨ar, har⟩ : ∃ f : BinOp → IntKind → Int → Int → Int, f = rAr := ⟨_, rfl⟩
  obtain ⟨cm, hcm⟩ : ∃ f : BinOp → Int → Int → Bool, f = rCm := ⟨_, rfl⟩
  obtain ⟨mx, hmx⟩ : ∃ f : Int → Int → Int, f = rMx := ⟨_, rfl⟩
  obtain ⟨mn, hmn⟩ : ∃ f : Int → Int → Int, f = rMn := ⟨_, rfl⟩
  have ar01 : ar .add .i64 0 1 = 1 := by rw [har]; decide
  have ar12 : ar .add .i64 1 1 = 2 := by rw [har]; decide
  obtain ⟨zpl, hzpl⟩ : ∃ f : Nat → Nat → Nat, f = fun x y => x + y := ⟨_, rfl⟩
  obtain ⟨zjn, hzjn⟩ : ∃ f : Nat → (Nat → List SC) → (Nat → List SC) → Nat → List SC, f = rJn := ⟨_, rfl⟩
  obtain ⟨zup, hzup⟩ : ∃ f : (Nat → List SC) → Nat → Nat → List SC → Nat → List SC, f = rUp := ⟨_, rfl⟩
  obtain ⟨zmi, hzmi⟩ : ∃ f : Nat → Nat → Nat, f = fun x y => x - y := ⟨_, rfl⟩
  obtain ⟨zdp, hzdp⟩ : ∃ f : Nat → (Nat → List SC) → Nat → List SC, f = rDp := ⟨_, rfl⟩
  have hT := T0_ok hnd hnt har hcm hmx hmn hzpl hzjn hzup hzmi hzdp
  by_cases q : jk b = 2
  · have q2 : decide (jk b = 2) = true := by simpa using q
    repeat' (first
      | ((with_reducible apply go_ev hT 400); (· (cbv; try rfl)); (fail_if_success with_reducible apply stuck_id); (try simp only [ar01, ar12]))
      | ((with_reducible refine go_brt ?_ ?_); (· first | rfl | assumption | (rw [hcm]; decide)))
      | ((with_reducible refine go_brf ?_ ?_); (· first | rfl | assumption | (rw [hcm]; decide)))
      | ((with_reducible refine go_brnt hnt ?_ ?_); (· first | rfl | assumption))
      | ((with_reducible refine go_brnf hnt ?_ ?_); (· first | rfl | assumption))
      | (with_reducible refine go_brn hnt (fun h => ?_) (fun h => ?_))
      | (with_reducible refine go_brl hcm (fun hlt => ?_) (fun hge => ?_))
      | (with_reducible refine go_br (fun h => ?_) (fun h => ?_))
      | ((with_reducible apply go_ret_val hT); (· (cbv; try rfl)); (· (cbv; try rfl)))
      | ((with_reducible apply go_fin_val hT); (· (cbv; try rfl)); (· (cbv; try rfl)))
      | ((with_reducible apply go_draw); (· rfl); (· kernel_rfl); (· kernel_rfl))
      | ((with_reducible apply go_drawE); (· kernel_rfl))
      | (with_reducible refine go_fork ?_)
      | (with_reducible refine fork_cons ?_ ?_)
      | (with_reducible exact fork_nil)
      | ((with_reducible refine go_need ?_ ?_ ?_); (· first | omega | (simp only [Int.ofNat_eq_natCast]; omega)); (· first | omega | (simp only [Int.ofNat_eq_natCast]; omega)))
      | ((with_reducible refine go_ob ?_ ?_); (· first | trivial | (refine ⟨trivial, ?_⟩; omega) | (rw [hzpl]; refine ⟨trivial, ?_⟩; show _ + _ ≤ 1073741824; omega) | (rw [hzpl]; show _ + _ ≤ 1073741824; omega)))
      | ((with_reducible apply go_ret_rows hT); (· (cbv; try rfl)); (· (cbv; try rfl)); (· (cbv; (try simp only [true_and, and_true]); (try ((repeat' apply And.intro) <;> (first | trivial | rfl | decide ))))); (· (cbv; (try simp only [true_and, and_true]); (try ((repeat' apply And.intro) <;> (first | trivial | rfl | exact RowLe.rfl' _ ))))); (· rfl))
      | ((with_reducible apply go_fin_rows hT); (· (cbv; try rfl)); (· (cbv; try rfl)); (· (cbv; (try simp only [true_and, and_true]); (try ((repeat' apply And.intro) <;> (first | trivial | rfl | decide ))))); (· (cbv; (try simp only [true_and, and_true]); (try ((repeat' apply And.intro) <;> (first | trivial | rfl | exact RowLe.rfl' _ ))))); (· rfl))
      | ((with_reducible apply go_inline (f := 65) (hf := Try.func65) (hr := Try.results65) (hcall := Try.call65)); (· rfl); (· (cbv; try rfl)))
      | (with_reducible apply go_rounds 4)
      | (((with_reducible apply go_on O); (· rfl); (· rfl); (· first | (exact (hD.1 q (by simp_all))) | (simp_all; done) | (have hi2 : i < jn b := by omega); have h4 : jk b = 4 := of_decide_eq_true (by assumption); (exact (hD.2 h4).2 i hi2 (by simp_all)))))
      | (((with_reducible apply go_fin_eff hT hlen); (· (cbv; try rfl)); (· (cbv; try rfl)); (· rfl); (· exact ⟨leCL_eq (congrArg H0 (by rw [hy]; simp_all [jmRun, opRun])), leCL_eq (congrArg H1 (by rw [hy]; simp_all [jmRun, opRun])), trivial⟩); (· simp [bndLs, lenN, O.bnd0, O.bnd1])))
      )
  · have q2 : decide (jk b = 2) = false := by simpa using q
    repeat' (first
      | ((with_reducible apply go_ev hT 400); (· (cbv; try rfl)); (fail_if_success with_reducible apply stuck_id))
      | ((with_reducible refine go_brt ?_ ?_); (· first | rfl | assumption | (rw [hcm]; decide)))
      | ((with_reducible refine go_brf ?_ ?_); (· first | rfl | assumption | (rw [hcm]; decide)))
      | ((with_reducible refine go_brnt hnt ?_ ?_); (· first | rfl | assumption))
      | ((with_reducible refine go_brnf hnt ?_ ?_); (· first | rfl | assumption))
      | (with_reducible refine go_brn hnt (fun h => ?_) (fun h => ?_))
      | (with_reducible refine go_brl hcm (fun hlt => ?_) (fun hge => ?_))
      | (with_reducible refine go_br (fun h => ?_) (fun h => ?_))
      | ((with_reducible apply go_ret_val hT); (· (cbv; try rfl)); (· (cbv; try rfl)))
      | ((with_reducible apply go_fin_val hT); (· (cbv; try rfl)); (· (cbv; try rfl)))
      | ((with_reducible apply go_draw); (· rfl); (· kernel_rfl); (· kernel_rfl))
      | ((with_reducible apply go_drawE); (· kernel_rfl))
      | (with_reducible refine go_fork ?_)
      | (with_reducible refine fork_cons ?_ ?_)
      | (with_reducible exact fork_nil)
      | ((with_reducible refine go_need ?_ ?_ ?_); (· first | omega | (simp only [Int.ofNat_eq_natCast]; omega)); (· first | omega | (simp only [Int.ofNat_eq_natCast]; omega)))
      | ((with_reducible refine go_ob ?_ ?_); (· first | trivial | (refine ⟨trivial, ?_⟩; omega) | (rw [hzpl]; refine ⟨trivial, ?_⟩; show _ + _ ≤ 1073741824; omega) | (rw [hzpl]; show _ + _ ≤ 1073741824; omega)))
      | ((with_reducible apply go_ret_rows hT); (· (cbv; try rfl)); (· (cbv; try rfl)); (· (cbv; (try simp only [true_and, and_true]); (try ((repeat' apply And.intro) <;> (first | trivial | rfl | decide ))))); (· (cbv; (try simp only [true_and, and_true]); (try ((repeat' apply And.intro) <;> (first | trivial | rfl | exact RowLe.rfl' _ ))))); (· rfl))
      | ((with_reducible apply go_fin_rows hT); (· (cbv; try rfl)); (· (cbv; try rfl)); (· (cbv; (try simp only [true_and, and_true]); (try ((repeat' apply And.intro) <;> (first | trivial | rfl | decide ))))); (· (cbv; (try simp only [true_and, and_true]); (try ((repeat' apply And.intro) <;> (first | trivial | rfl | exact RowLe.rfl' _ ))))); (· rfl))
      | ((with_reducible apply go_inline (f := 65) (hf := Try.func65) (hr := Try.results65) (hcall := Try.call65)); (· rfl); (· (cbv; try rfl)))
      | (((with_reducible refine go_loopk (σ := {i : Nat // i ≤ jn b}) [7, 11, 12, 13, 14, 15, 16, 17, 18, 19, 20, 21, 22, 23, 24, 25, 26, 27] (fun x => [(10, .pt (.one (.int .i64 (.ofNat x.1))))]) (fun x => [(0, H0 (acc x.1)), (1, H1 (acc x.1))]) (fun _ => []) (fun x => jn b - x.1) ⟨0, by omega⟩ ?_ ?_ ?_ ?_); (· refine le_mk (by (cbv; (try simp only [true_and, and_true]); (try ((repeat' apply And.intro) <;> (first | trivial | rfl | (rw [wrap_nat har _ (by omega)])))))) ⟨leCL_eq (congrArg H0 ha0.symm), leCL_eq (congrArg H1 ha0.symm), (by (cbv; (try simp only [true_and, and_true]); (try ((repeat' apply And.intro) <;> (first | trivial | rfl | (rw [wrap_nat har _ (by omega)]))))))⟩ (by (cbv; (try simp only [true_and, and_true]); (try ((repeat' apply And.intro) <;> (first | trivial | rfl | (rw [wrap_nat har _ (by omega)])))))) (by exact True.intro)); (· refine bnd_mk (by cbv; try rfl) ?_ (by cbv; try rfl); simp [St.lay, putsH, setN, bndH, lenN, O.bnd0, O.bnd1, bndL, SC.bnd]); (· simp [St.lay, putsH, setN, hlen]); (rintro ⟨i, hi⟩ mm hmm)))
      | (((with_reducible refine go_stop ⟨i + 1, by omega⟩ ?_ ?_ ?_ ?_); (· subst hmm; show jn b - (i + 1) < jn b - i; omega); (· refine le_mk (by (cbv; (try simp only [true_and, and_true]); (try ((repeat' apply And.intro) <;> (first | trivial | rfl | (rw [wrap_nat har _ (by omega)])))))) ⟨leCL_eq (congrArg H0 (by rw [has]; simp_all [opRun])), leCL_eq (congrArg H1 (by rw [has]; simp_all [opRun])), (by (cbv; (try simp only [true_and, and_true]); (try ((repeat' apply And.intro) <;> (first | trivial | rfl | (rw [wrap_nat har _ (by omega)]))))))⟩ (by (cbv; (try simp only [true_and, and_true]); (try ((repeat' apply And.intro) <;> (first | trivial | rfl | (rw [wrap_nat har _ (by omega)])))))) (by exact True.intro)); (· refine bnd_mk (by cbv; try rfl) ?_ (by cbv; try rfl); simp [St.lay, putsH, setN, bndH, lenN, O.bnd0, O.bnd1, bndL, SC.bnd]); (· simp [St.lay, putsH, setN, hlen])))
      | (((with_reducible apply go_on O); (· rfl); (· rfl); (· first | (exact (hD.1 q (by simp_all))) | (simp_all; done) | (have hi2 : i < jn b := by omega); have h4 : jk b = 4 := of_decide_eq_true (by assumption); (exact (hD.2 h4).2 i hi2 (by simp_all)))))
      | (((with_reducible apply go_fin_eff hT hlen); (· (cbv; try rfl)); (· (cbv; try rfl)); (· rfl); (· exact ⟨leCL_eq (congrArg H0 (by rw [hy]; first | (show acc i = _; rw [hacc, show i = jn b from by omega]; have h4 : jk b = 4 := of_decide_eq_true h; simp [jmRun, h4]; done) | (simp_all [jmRun, opRun]; done))), leCL_eq (congrArg H1 (by rw [hy]; first | (show acc i = _; rw [hacc, show i = jn b from by omega]; have h4 : jk b = 4 := of_decide_eq_true h; simp [jmRun, h4]; done) | (simp_all [jmRun, opRun]; done))), trivial⟩); (· simp [bndLs, lenN, O.bnd0, O.bnd1])))
      )
end

end Go.Proofs.Ytbimggeapaaliaa
