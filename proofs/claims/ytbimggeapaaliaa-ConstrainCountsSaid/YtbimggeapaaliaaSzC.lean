/- Layer 7 of the reference: how often locals occur. No condition. -/
import Derived.Test.YtbimggeapaaliaaSyI
import Derived.Test.YtbimggeapaaliaaSyJ
import Derived.Test.YtbimggeapaaliaaSzB
namespace Go.Proofs.Ytbimggeapaaliaa
open Go.RowKit
set_option linter.unusedVariables false
set_option linter.unusedSimpArgs false

section
variable {P : Program} {Q : Exit → Act → World → Prop} {c : Nat → Nat → Row} {w0 : Base}
/-- One of sixteen numbers is read, or turned. -/
theorem go_getC {f : Nat → Int} {o o' : Nat} {dst : Option Nat} {k : List Item} {st : St} (ho : o = o') (h16 : o' < 16) (h : Goes P Q c w0 k (st.put dst (.pt (.one (.int .i64 (f o')))))) :
    OutOk P Q c w0 (.ask o [.int .i64 (f 0), .int .i64 (f 1), .int .i64 (f 2), .int .i64 (f 3), .int .i64 (f 4), .int .i64 (f 5), .int .i64 (f 6), .int .i64 (f 7), .int .i64 (f 8), .int .i64 (f 9), .int .i64 (f 10), .int .i64 (f 11), .int .i64 (f 12), .int .i64 (f 13), .int .i64 (f 14), .int .i64 (f 15)] dst k st) := by
  subst ho
  exact go_ask (.int .i64 (f o)) (arrC_get f h16) rfl h
theorem go_putC {f : Nat → Int} {b o o' : Nat} {v : Int} {dst : Option Nat} {k : List Item} {st : St} (ho : o = o') (h16 : o' < 16) (h : ∀ g, g = turn f o' v → Goes P Q c w0 k (({ st with h := setN st.h b (some (arrC g)) } : St).put dst undefS)) :
    OutOk P Q c w0 (.askS b o [.int .i64 (f 0), .int .i64 (f 1), .int .i64 (f 2), .int .i64 (f 3), .int .i64 (f 4), .int .i64 (f 5), .int .i64 (f 6), .int .i64 (f 7), .int .i64 (f 8), .int .i64 (f 9), .int .i64 (f 10), .int .i64 (f 11), .int .i64 (f 12), .int .i64 (f 13), .int .i64 (f 14), .int .i64 (f 15)] (.int .i64 v) dst k st) := by
  subst ho
  exact go_askS (arrC (turn f o v)) h16 (arrC_put f v h16) (h _ rfl)
theorem go_getB {f : Nat → Bool} {o o' : Nat} {dst : Option Nat} {k : List Item} {st : St} (ho : o = o') (h16 : o' < 16) (h : Goes P Q c w0 k (st.put dst (.pt (.one (.bool (f o')))))) :
    OutOk P Q c w0 (.ask o [.bool (f 0), .bool (f 1), .bool (f 2), .bool (f 3), .bool (f 4), .bool (f 5), .bool (f 6), .bool (f 7), .bool (f 8), .bool (f 9), .bool (f 10), .bool (f 11), .bool (f 12), .bool (f 13), .bool (f 14), .bool (f 15)] dst k st) := by
  subst ho
  exact go_ask (.bool (f o)) (arrB_get f h16) rfl h
end

def arrI (f : Nat → Int) : Value := .agg #[.int .i64 (f 0), .int .i64 (f 1), .int .i64 (f 2), .int .i64 (f 3), .int .i64 (f 4), .int .i64 (f 5), .int .i64 (f 6), .int .i64 (f 7), .int .i64 (f 8), .int .i64 (f 9), .int .i64 (f 10), .int .i64 (f 11), .int .i64 (f 12), .int .i64 (f 13), .int .i64 (f 14), .int .i64 (f 15)]
def z16 : Nat → Int := fun _ => 0
def occS (s : GStmt) : Nat → Int := (stRun cE (z16, z16) s).1
theorem turn_bump {f : Nat → Int} {l : Int} (h : 0 ≤ l) {v : Int} (hv : v = rAr .add .i64 (f l.toNat) 1) : turn f l.toNat v = bump f l := by
  subst hv
  rw [← bump_turn]
  congr 1
  simp only [Int.ofNat_eq_natCast]
  omega

set_option maxRecDepth 100000 in
set_option maxHeartbeats 4000000 in
theorem occC (s : GStmt) (w : World) (hs : s.ok = true) :
    Calls Try.prog 41 #[s.val] w (Ret w (arrI (occS s))) := by
  have hD := ok_stAll hs
  obtain ⟨k, ⟨ql, qd, qf⟩, ⟨rk, rop, rbo, ⟨ak, an, ⟨al, ad, af⟩⟩, ⟨bk, bn, ⟨bl, bd, bf⟩⟩, ⟨pl, pd, pf⟩⟩, ⟨ck, cn, ⟨cl, cd, cf⟩⟩, l⟩ := s
  have d3 : decide (k = 3) = true → 0 ≤ l ∧ l < 16 := fun h => hD.1 (of_decide_eq_true h)
  have d1 : decide (k = 1) = true → 0 ≤ ql ∧ ql < 16 := fun h => (hD.2.2 (of_decide_eq_true h)).1
  have dr4 : decide (k = 1) = true → decide (rk = 4) = true → 0 ≤ pl ∧ pl < 16 := fun h h' => (hD.2.2 (of_decide_eq_true h)).2.1 (.inl (of_decide_eq_true h'))
  have dr5 : decide (k = 1) = true → decide (rk = 5) = true → 0 ≤ pl ∧ pl < 16 := fun h h' => (hD.2.2 (of_decide_eq_true h)).2.1 (.inr (of_decide_eq_true h'))
  have da2 : decide (ak = 2) = true → 0 ≤ al ∧ al < 16 := fun h => by
    have h := of_decide_eq_true h
    simp only [GStmt.ok, GRv.ok, GOper.ok, GOper.eqB, GPlace.eqB, GRv.eqB, GPlace.ok, GOper.zero, GPlace.zero, GRv.zero] at hs
    grind
  have da3 : decide (ak = 3) = true → 0 ≤ al ∧ al < 16 := fun h => by
    have h := of_decide_eq_true h
    simp only [GStmt.ok, GRv.ok, GOper.ok, GOper.eqB, GPlace.eqB, GRv.eqB, GPlace.ok, GOper.zero, GPlace.zero, GRv.zero] at hs
    grind
  have db2 : decide (bk = 2) = true → 0 ≤ bl ∧ bl < 16 := fun h => by
    have h := of_decide_eq_true h
    simp only [GStmt.ok, GRv.ok, GOper.ok, GOper.eqB, GPlace.eqB, GRv.eqB, GPlace.ok, GOper.zero, GPlace.zero, GRv.zero] at hs
    grind
  have db3 : decide (bk = 3) = true → 0 ≤ bl ∧ bl < 16 := fun h => by
    have h := of_decide_eq_true h
    simp only [GStmt.ok, GRv.ok, GOper.ok, GOper.eqB, GPlace.eqB, GRv.eqB, GPlace.ok, GOper.zero, GPlace.zero, GRv.zero] at hs
    grind
  have dc2 : decide (ck = 2) = true → 0 ≤ cl ∧ cl < 16 := fun h => by
    have h := of_decide_eq_true h
    simp only [GStmt.ok, GRv.ok, GOper.ok, GOper.eqB, GPlace.eqB, GRv.eqB, GPlace.ok, GOper.zero, GPlace.zero, GRv.zero] at hs
    grind
  have dc3 : decide (ck = 3) = true → 0 ≤ cl ∧ cl < 16 := fun h => by
    have h := of_decide_eq_true h
    simp only [GStmt.ok, GRv.ok, GOper.ok, GOper.eqB, GPlace.eqB, GRv.eqB, GPlace.ok, GOper.zero, GPlace.zero, GRv.zero] at hs
    grind
  obtain ⟨y, hy⟩ : ∃ y, y = occS (GStmt.mk k ⟨ql, qd, qf⟩ ⟨rk, rop, rbo, ⟨ak, an, ⟨al, ad, af⟩⟩, ⟨bk, bn, ⟨bl, bd, bf⟩⟩, ⟨pl, pd, pf⟩⟩ ⟨ck, cn, ⟨cl, cd, cf⟩⟩ l) := ⟨_, rfl⟩
  rw [← hy]
  clear hD
  have hk : (k = 1 ∧ ck = 0 ∧ (rk = 1 ∨ rk = 2 ∨ rk = 3 ∨ rk = 4 ∨ rk = 5)) ∨ k = 2 ∨ (k = 3 ∧ ck = 0) ∨ k = 4 := by
    simp only [GStmt.ok, GRv.ok, GOper.ok, GOper.eqB, GPlace.eqB, GRv.eqB, GPlace.ok, GOper.zero, GPlace.zero, GRv.zero] at hs
    grind
  have va : k = 1 → rk = 1 ∨ rk = 2 ∨ rk = 3 → ak = 1 ∨ ak = 2 ∨ ak = 3 := fun h h' => by
    simp only [GStmt.ok, GRv.ok, GOper.ok, GOper.eqB, GPlace.eqB, GRv.eqB, GPlace.ok, GOper.zero, GPlace.zero, GRv.zero] at hs
    grind
  have vb : k = 1 → rk = 2 ∨ rk = 3 → bk = 1 ∨ bk = 2 ∨ bk = 3 := fun h h' => by
    simp only [GStmt.ok, GRv.ok, GOper.ok, GOper.eqB, GPlace.eqB, GRv.eqB, GPlace.ok, GOper.zero, GPlace.zero, GRv.zero] at hs
    grind
  have vc : k = 2 ∨ k = 4 → ck = 1 ∨ ck = 2 ∨ ck = 3 := fun h => by
    simp only [GStmt.ok, GRv.ok, GOper.ok, GOper.eqB, GPlace.eqB, GRv.eqB, GPlace.ok, GOper.zero, GPlace.zero, GRv.zero] at hs
    grind
  clear hs
  rcases hk with ⟨rfl, rfl, rfl | rfl | rfl | rfl | rfl⟩ | rfl | ⟨rfl, rfl⟩ | rfl
  all_goals
    skip
    refine go_start (args := [.pt (.agg (GStmt.sc _))]) (c := NoRows) Try.func41 rfl (noRows_ok _) rfl rfl ?_
    obtain ⟨nd, hnd⟩ : ∃ f : Bool → Bool → Bool, f = and := ⟨_, rfl⟩
    obtain ⟨nt, hnt⟩ : ∃ f : Bool → Bool, f = not := ⟨_, rfl⟩
    obtain ⟨ar, har⟩ : ∃ f : BinOp → IntKind → Int → Int → Int, f = rAr := ⟨_, rfl⟩
    obtain ⟨cm, hcm⟩ : ∃ f : BinOp → Int → Int → Bool, f = rCm := ⟨_, rfl⟩
    obtain ⟨mx, hmx⟩ : ∃ f : Int → Int → Int, f = rMx := ⟨_, rfl⟩
    obtain ⟨mn, hmn⟩ : ∃ f : Int → Int → Int, f = rMn := ⟨_, rfl⟩
    have ar01 : ar .add .i64 0 1 = 1 := by rw [har]; decide
    have ar12 : ar .add .i64 1 1 = 2 := by rw [har]; decide
    obtain ⟨zpl, hzpl⟩ : ∃ f : Nat → Nat → Nat, f = fun x y => x + y := ⟨_, rfl⟩
    obtain ⟨zjn, hzjn⟩ : ∃ f : Nat → (Nat → List SC) → (Nat → List SC) → Nat → List SC, f = rJn := ⟨_, rfl⟩
    obtain ⟨zup, hzup⟩ : ∃ f : (Nat → List SC) → Nat → Nat → List SC → Nat → List SC, f = rUp := ⟨_, rfl⟩
    obtain ⟨zmi, hzmi⟩ : ∃ f : Nat → Nat → Nat, f = fun x y => x - y := ⟨_, rfl⟩
    obtain ⟨zdp, hzdp⟩ : ∃ f : Nat → (Nat → List SC) → Nat → List SC, f = rDp := ⟨_, rfl⟩
    have hT := T0_ok hnd hnt har hcm hmx hmn hzpl hzjn hzup hzmi hzdp
    repeat' (first
      | ((with_reducible apply go_ev hT 400); (· (cbv; try rfl)); (fail_if_success with_reducible apply stuck_id); (try simp only [ar01, ar12]))
      | ((with_reducible refine go_brt ?_ ?_); (· first | rfl | assumption | (rw [hcm]; decide)))
      | ((with_reducible refine go_brf ?_ ?_); (· first | rfl | assumption | (rw [hcm]; decide)))
      | ((with_reducible refine go_brnt hnt ?_ ?_); (· first | rfl | assumption))
      | ((with_reducible refine go_brnf hnt ?_ ?_); (· first | rfl | assumption))
      | (with_reducible refine go_brn hnt (fun h => ?_) (fun h => ?_))
      | (with_reducible refine go_brl hcm (fun hlt => ?_) (fun hge => ?_))
      | (with_reducible refine go_br (fun h => ?_) (fun h => ?_))
      | ((with_reducible apply go_ret_val hT); (· (cbv; try rfl)); (· (cbv; try rfl)))
      | ((with_reducible apply go_fin_val hT); (· (cbv; try rfl)); (· (cbv; try rfl)))
      | ((with_reducible apply go_draw); (· rfl); (· kernel_rfl); (· kernel_rfl))
      | ((with_reducible apply go_drawE); (· kernel_rfl))
      | (with_reducible refine go_fork ?_)
      | (with_reducible refine fork_cons ?_ ?_)
      | (with_reducible exact fork_nil)
      | ((with_reducible refine go_need ?_ ?_ ?_); (· first | omega | (simp only [Int.ofNat_eq_natCast]; omega)); (· first | omega | (simp only [Int.ofNat_eq_natCast]; omega)))
      | ((with_reducible refine go_ob ?_ ?_); (· first | trivial | (refine ⟨trivial, ?_⟩; omega) | (rw [hzpl]; refine ⟨trivial, ?_⟩; show _ + _ ≤ 1073741824; omega) | (rw [hzpl]; show _ + _ ≤ 1073741824; omega)))
      | ((with_reducible apply go_ret_rows hT); (· (cbv; try rfl)); (· (cbv; try rfl)); (· (cbv; (try simp only [true_and, and_true]); (try ((repeat' apply And.intro) <;> (first | trivial | rfl | decide ))))); (· (cbv; (try simp only [true_and, and_true]); (try ((repeat' apply And.intro) <;> (first | trivial | rfl | exact RowLe.rfl' _ ))))); (· rfl))
      | ((with_reducible apply go_fin_rows hT); (· (cbv; try rfl)); (· (cbv; try rfl)); (· (cbv; (try simp only [true_and, and_true]); (try ((repeat' apply And.intro) <;> (first | trivial | rfl | decide ))))); (· (cbv; (try simp only [true_and, and_true]); (try ((repeat' apply And.intro) <;> (first | trivial | rfl | exact RowLe.rfl' _ ))))); (· rfl))
      | ((with_reducible apply go_inline (f := 43) (hf := Try.func43) (hr := Try.results43) (hcall := Try.call43)); (· rfl); (· (cbv; try rfl)))
      | ((with_reducible apply go_inline (f := 58) (hf := Try.func58) (hr := Try.results58) (hcall := Try.call58)); (· rfl); (· (cbv; try rfl)))
      | (with_reducible apply go_rounds 4)
      | (((with_reducible apply go_need); (· exact (d3 (by first | assumption | rfl)).1); (· have q := (d3 (by first | assumption | rfl)).2; omega)))
      | (((with_reducible apply go_need); (· exact (d1 (by first | assumption | rfl)).1); (· have q := (d1 (by first | assumption | rfl)).2; omega)))
      | (((with_reducible apply go_need); (· exact (dr4 (by first | assumption | rfl) (by first | assumption | rfl)).1); (· have q := (dr4 (by first | assumption | rfl) (by first | assumption | rfl)).2; omega)))
      | (((with_reducible apply go_need); (· exact (dr5 (by first | assumption | rfl) (by first | assumption | rfl)).1); (· have q := (dr5 (by first | assumption | rfl) (by first | assumption | rfl)).2; omega)))
      | (((with_reducible apply go_need); (· exact (da2 (by assumption)).1); (· have q := (da2 (by assumption)).2; omega)))
      | (((with_reducible apply go_need); (· exact (da3 (by assumption)).1); (· have q := (da3 (by assumption)).2; omega)))
      | (((with_reducible apply go_need); (· exact (db2 (by assumption)).1); (· have q := (db2 (by assumption)).2; omega)))
      | (((with_reducible apply go_need); (· exact (db3 (by assumption)).1); (· have q := (db3 (by assumption)).2; omega)))
      | (((with_reducible apply go_need); (· exact (dc2 (by assumption)).1); (· have q := (dc2 (by assumption)).2; omega)))
      | (((with_reducible apply go_need); (· exact (dc3 (by assumption)).1); (· have q := (dc3 (by assumption)).2; omega)))
      | (((with_reducible apply go_getC (f := fun _ => 0)); (· exact off2 _); (· (first | (have q := d3 (by first | assumption | rfl); omega) | (have q := d1 (by first | assumption | rfl); omega) | (have q := dr4 (by first | assumption | rfl) (by first | assumption | rfl); omega) | (have q := dr5 (by first | assumption | rfl) (by first | assumption | rfl); omega) | (have q := da2 (by assumption); omega) | (have q := da3 (by assumption); omega) | (have q := db2 (by assumption); omega) | (have q := db3 (by assumption); omega) | (have q := dc2 (by assumption); omega) | (have q := dc3 (by assumption); omega)))))
      | (((with_reducible apply go_getC); (· exact off2 _); (· (first | (have q := d3 (by first | assumption | rfl); omega) | (have q := d1 (by first | assumption | rfl); omega) | (have q := dr4 (by first | assumption | rfl) (by first | assumption | rfl); omega) | (have q := dr5 (by first | assumption | rfl) (by first | assumption | rfl); omega) | (have q := da2 (by assumption); omega) | (have q := da3 (by assumption); omega) | (have q := db2 (by assumption); omega) | (have q := db3 (by assumption); omega) | (have q := dc2 (by assumption); omega) | (have q := dc3 (by assumption); omega)))))
      | (((with_reducible apply go_putC (f := fun _ => 0)); (· exact off2 _); (· (first | (have q := d3 (by first | assumption | rfl); omega) | (have q := d1 (by first | assumption | rfl); omega) | (have q := dr4 (by first | assumption | rfl) (by first | assumption | rfl); omega) | (have q := dr5 (by first | assumption | rfl) (by first | assumption | rfl); omega) | (have q := da2 (by assumption); omega) | (have q := da3 (by assumption); omega) | (have q := db2 (by assumption); omega) | (have q := db3 (by assumption); omega) | (have q := dc2 (by assumption); omega) | (have q := dc3 (by assumption); omega))); (intro g hg)))
      | (((with_reducible apply go_putC); (· exact off2 _); (· (first | (have q := d3 (by first | assumption | rfl); omega) | (have q := d1 (by first | assumption | rfl); omega) | (have q := dr4 (by first | assumption | rfl) (by first | assumption | rfl); omega) | (have q := dr5 (by first | assumption | rfl) (by first | assumption | rfl); omega) | (have q := da2 (by assumption); omega) | (have q := da3 (by assumption); omega) | (have q := db2 (by assumption); omega) | (have q := db3 (by assumption); omega) | (have q := dc2 (by assumption); omega) | (have q := dc3 (by assumption); omega))); (intro g hg)))
      )
  all_goals (subst har)
  all_goals (first | show arrI g = arrI y | show arrI z16 = arrI y)
  all_goals
    have tb : ∀ (f : Nat → Int) (l : Int), 0 ≤ l → turn f l.toNat (rAr .add .i64 (f l.toNat) 1) = bump f l := fun f l h => turn_bump h rfl
    have t0 : ∀ l : Int, 0 ≤ l → turn (fun _ => 0) l.toNat 1 = bump z16 l := fun l h => turn_bump (f := fun _ => 0) h (by decide)
    refine congrArg arrI ?_
    rw [hy]
    clear hT hy hnd hnt hcm hmx hmn hzpl hzjn hzup hzmi hzdp ar01 ar12
    try have e1 := (d1 rfl).1
    try have e2 := (d3 rfl).1
    try have e3 := (dr4 rfl rfl).1
    try have e4 := (dr5 rfl rfl).1
    try have e5 := (da2 (by assumption)).1
    try have e6 := (da3 (by assumption)).1
    try have e7 := (db2 (by assumption)).1
    try have e8 := (db3 (by assumption)).1
    try have e9 := (dc2 (by assumption)).1
    try have e10 := (dc3 (by assumption)).1
    try have v1 := va rfl (by decide)
    try have v2 := vb rfl (by decide)
    try have v3 := vc (by decide)
    clear d1 d3 dr4 dr5 da2 da3 db2 db3 dc2 dc3 va vb vc
    try simp only [decide_eq_true_eq, decide_eq_false_iff_not] at *
    simp_all [occS, stRun, opRun, cE]

end Go.Proofs.Ytbimggeapaaliaa
