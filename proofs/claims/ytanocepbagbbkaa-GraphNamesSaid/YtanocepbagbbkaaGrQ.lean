/- GraphNames, the walk. No condition. -/
import Derived.Test.YtanocepbagbbkaaGrP
import Derived.Test.YtanocepbagbbkaaSxQ
import Derived.Test.YtanocepbagbbkaaGrI
namespace Go.Proofs.Ytanocepbagbbkaa
open Go.RowKit
set_option linter.unusedVariables false
set_option linter.unusedSimpArgs false

section
variable {Q : Exit → Act → World → Prop} {c : Nat → Nat → Row} {w0 : Base}
theorem go_numberBad {pa : Int} {un : Bool} {l b : SC} {x y z : Int} {dst : Option Nat} {k : List Item} {st : St} (hv : ∀ S B, toVsB S B c [.pt (.agg [.int .i64 pa, .lit un, l, b]), .pt (.agg [.int .i64 x, .int .i64 y])] = some [(litF st.h B pa un l b).val, .agg #[.int .i64 x, .int .i64 y]]) (hok : litOk st.h l b = true) (hz : ∀ B, chkP (litF st.h B pa un l b) x y = z) (hz0 : z ≠ 0) (h : Goes Try.prog Q c w0 k (st.put dst (ofR (.tuple #[.int .i64 0, .int .i64 z])))) : OutOk Try.prog Q c w0 (.call 18 [.pt (.agg [.int .i64 pa, .lit un, l, b]), .pt (.agg [.int .i64 x, .int .i64 y])] dst k st) :=
  go_callBv (vs := fun S B => [(litF st.h B pa un l b).val, .agg #[.int .i64 x, .int .i64 y]]) hv Try.call18 (fun w S B hk hx hM => by
    have := numberBad (litF st.h B pa un l b) w (litF_at hM hok) x y (by rw [hz]; exact hz0)
    rw [hz] at this; exact this) h
theorem go_nextBad {pa : Int} {un : Bool} {l b : SC} {x y z : Int} {dst : Option Nat} {k : List Item} {st : St} (hv : ∀ S B, toVsB S B c [.pt (.agg [.int .i64 pa, .lit un, l, b]), .pt (.agg [.int .i64 x, .int .i64 y])] = some [(litF st.h B pa un l b).val, .agg #[.int .i64 x, .int .i64 y]]) (hok : litOk st.h l b = true) (hz : ∀ B, chkP (litF st.h B pa un l b) x y = z) (hz0 : z ≠ 0) (h : Goes Try.prog Q c w0 k (st.put dst (ofR (.tuple #[.slice none 0 0, .int .i64 z])))) : OutOk Try.prog Q c w0 (.call 13 [.pt (.agg [.int .i64 pa, .lit un, l, b]), .pt (.agg [.int .i64 x, .int .i64 y])] dst k st) :=
  go_callBv (vs := fun S B => [(litF st.h B pa un l b).val, .agg #[.int .i64 x, .int .i64 y]]) hv Try.call13 (fun w S B hk hx hM => by
    have := nextBad (litF st.h B pa un l b) w (litF_at hM hok) x y (by rw [hz]; exact hz0)
    rw [hz] at this; exact this) h
theorem go_beforeBad {pa : Int} {un : Bool} {l b : SC} {x y z : Int} {dst : Option Nat} {k : List Item} {st : St} (hv : ∀ S B, toVsB S B c [.pt (.agg [.int .i64 pa, .lit un, l, b]), .pt (.agg [.int .i64 x, .int .i64 y])] = some [(litF st.h B pa un l b).val, .agg #[.int .i64 x, .int .i64 y]]) (hok : litOk st.h l b = true) (hz : ∀ B, chkP (litF st.h B pa un l b) x y = z) (hz0 : z ≠ 0) (h : Goes Try.prog Q c w0 k (st.put dst (ofR (.tuple #[.slice none 0 0, .int .i64 z])))) : OutOk Try.prog Q c w0 (.call 14 [.pt (.agg [.int .i64 pa, .lit un, l, b]), .pt (.agg [.int .i64 x, .int .i64 y])] dst k st) :=
  go_callBv (vs := fun S B => [(litF st.h B pa un l b).val, .agg #[.int .i64 x, .int .i64 y]]) hv Try.call14 (fun w S B hk hx hM => by
    have := beforeBad (litF st.h B pa un l b) w (litF_at hM hok) x y (by rw [hz]; exact hz0)
    rw [hz] at this; exact this) h
theorem go_pointsBad {pa : Int} {un : Bool} {l b : SC} {z : Int} {dst : Option Nat} {k : List Item} {st : St} (hv : ∀ S B, toVsB S B c [.pt (.agg [.int .i64 pa, .lit un, l, b])] = some [(litF st.h B pa un l b).val]) (hok : litOk st.h l b = true) (hz : ∀ B, fchkV (litF st.h B pa un l b) = z) (hz0 : z ≠ 0) (h : Goes Try.prog Q c w0 k (st.put dst (ofR (.tuple #[.slice none 0 0, .int .i64 z])))) : OutOk Try.prog Q c w0 (.call 12 [.pt (.agg [.int .i64 pa, .lit un, l, b])] dst k st) :=
  go_callBv (vs := fun S B => [(litF st.h B pa un l b).val]) hv Try.call12 (fun w S B hk hx hM => by
    have := pointsBad (litF st.h B pa un l b) w (litF_at hM hok) (by rw [hz]; exact hz0)
    rw [hz] at this; exact this) h
theorem go_reachedBad {pa : Int} {un : Bool} {l b : SC} {z : Int} {dst : Option Nat} {k : List Item} {st : St} (hv : ∀ S B, toVsB S B c [.pt (.agg [.int .i64 pa, .lit un, l, b])] = some [(litF st.h B pa un l b).val]) (hok : litOk st.h l b = true) (hz : ∀ B, fchkV (litF st.h B pa un l b) = z) (hz0 : z ≠ 0) (h : Goes Try.prog Q c w0 k (st.put dst (ofR (.tuple #[.slice none 0 0, .int .i64 z])))) : OutOk Try.prog Q c w0 (.call 20 [.pt (.agg [.int .i64 pa, .lit un, l, b])] dst k st) :=
  go_callBv (vs := fun S B => [(litF st.h B pa un l b).val]) hv Try.call20 (fun w S B hk hx hM => by
    have := reachedBad (litF st.h B pa un l b) w (litF_at hM hok) (by rw [hz]; exact hz0)
    rw [hz] at this; exact this) h
theorem go_nextLit (x y : Nat) (L : List (Nat × Nat)) {pa : Int} {un : Bool} {l b : SC} {xi yi : Int} {dst : Option Nat} {k : List Item} {st : St} (hxi : xi = .ofNat x) (hyi : yi = .ofNat y) (hv : ∀ S B, toVsB S B c [.pt (.agg [.int .i64 pa, .lit un, l, b]), .pt (.agg [.int .i64 xi, .int .i64 yi])] = some [(litF st.h B pa un l b).val, .agg #[.int .i64 xi, .int .i64 yi]]) (hok : litOk st.h l b = true) (hO : ∀ B, fchkV (litF st.h B pa un l b) = 0)
    (hx : ∀ B, decide (x < (litF st.h B pa un l b).bn) = true) (hy : ∀ B, decide (y ≤ (litF st.h B pa un l b).sn x) = true) (hL : ∀ B, nextP (litF st.h B pa un l b) x y = L)
    (h : Goes Try.prog Q c w0 k (({ st with r := st.r ++ someR [ptR L] } : St).put dst ((SV.tup [.one (.rs 0), .one (.int .i64 0)]).shR (lenM st.r)))) : OutOk Try.prog Q c w0 (.call 13 [.pt (.agg [.int .i64 pa, .lit un, l, b]), .pt (.agg [.int .i64 xi, .int .i64 yi])] dst k st) :=
  go_callB (vs := fun S B => [(litF st.h B pa un l b).val, .agg #[.int .i64 xi, .int .i64 yi]]) hv Try.call13 (fun w S B hk hx' hM => by
    subst hxi hyi
    exact nextLit hM pa un l b x y hok (hO B) (hx B) (hy B) L (hL B)) rfl h
theorem go_numberLit (x y : Nat) (N : Nat) {pa : Int} {un : Bool} {l b : SC} {xi yi : Int} {dst : Option Nat} {k : List Item} {st : St} (hxi : xi = .ofNat x) (hyi : yi = .ofNat y) (hv : ∀ S B, toVsB S B c [.pt (.agg [.int .i64 pa, .lit un, l, b]), .pt (.agg [.int .i64 xi, .int .i64 yi])] = some [(litF st.h B pa un l b).val, .agg #[.int .i64 xi, .int .i64 yi]]) (hok : litOk st.h l b = true) (hO : ∀ B, fchkV (litF st.h B pa un l b) = 0)
    (hx : ∀ B, decide (x < (litF st.h B pa un l b).bn) = true) (hy : ∀ B, decide (y ≤ (litF st.h B pa un l b).sn x) = true) (hL : ∀ B, stN (litF st.h B pa un l b).sn x + y = N)
    (h : Goes Try.prog Q c w0 k (st.put dst (ofR (.tuple #[.int .i64 (.ofNat N), .int .i64 0])))) : OutOk Try.prog Q c w0 (.call 18 [.pt (.agg [.int .i64 pa, .lit un, l, b]), .pt (.agg [.int .i64 xi, .int .i64 yi])] dst k st) :=
  go_callBv (vs := fun S B => [(litF st.h B pa un l b).val, .agg #[.int .i64 xi, .int .i64 yi]]) hv Try.call18 (fun w S B hk hx' hM => by
    subst hxi hyi
    have hO : GFun.Ok (litF st.h B pa un l b) := hO B
    have := numberC _ w (litF_at hM hok) hO x y (of_decide_eq_true (hx B)) (of_decide_eq_true (hy B))
    rw [hL B] at this
    exact this) h
/-- The blocks that are reached, found by a number of steps. -/
def runW (F : GFun) : Nat → (Nat → Bool) × List Nat → (Nat → Bool) × List Nat
  | 0, x => x
  | n + 1, (S, b :: T) => runW F n ((leadsN F b).foldl visit (S, T))
  | _ + 1, (S, []) => (S, [])
theorem runW_inv {F : GFun} (hO : F.Ok) : ∀ {n : Nat} {x : (Nat → Bool) × List Nat}, RInv F x.1 x.2 → RInv F (runW F n x).1 (runW F n x).2
  | 0, _, h => h
  | n + 1, (S, b :: T), h => runW_inv hO (n := n) (rinv_step h (leadsN_lt hO (h.r b (h.t b List.mem_cons_self)).2))
  | n + 1, (S, []), h => h
theorem runW_eq {F : GFun} (hO : F.Ok) {n : Nat} (h : (runW F n (fun j => decide (j = 0), [0])).2 = []) (b : Nat) : (runW F n (fun j => decide (j = 0), [0])).1 b = reachB F b := by
  have := runW_inv hO (n := n) (x := (fun j => decide (j = 0), [0])) (rinv_first F hO.bpos)
  rw [h] at this
  exact rinv_eq this b
theorem go_reachedLit (n N : Nat) (L : Nat → Bool) {pa : Int} {un : Bool} {l b : SC} {dst : Option Nat} {k : List Item} {st : St} (hv : ∀ S B, toVsB S B c [.pt (.agg [.int .i64 pa, .lit un, l, b])] = some [(litF st.h B pa un l b).val]) (hok : litOk st.h l b = true) (hO : ∀ B, fchkV (litF st.h B pa un l b) = 0)
    (hN : ∀ B, stN (litF st.h B pa un l b).sn (litF st.h B pa un l b).bn = N) (hW : ∀ B, (runW (litF st.h B pa un l b) n (fun j => decide (j = 0), [0])).2 = []) (hL : ∀ B j, j < N → (runW (litF st.h B pa un l b) n (fun j => decide (j = 0), [0])).1 (pbN (litF st.h B pa un l b) j) = L j)
    (h : Goes Try.prog Q c w0 k (({ st with r := st.r ++ someR [⟨N, 1, fun j => [.bool (L j)]⟩] } : St).put dst ((SV.tup [.one (.rs 0), .one (.int .i64 0)]).shR (lenM st.r)))) : OutOk Try.prog Q c w0 (.call 20 [.pt (.agg [.int .i64 pa, .lit un, l, b])] dst k st) :=
  go_callB (vs := fun S B => [(litF st.h B pa un l b).val]) hv Try.call20 (fun w S B hk hx' hM => by
    have hO : GFun.Ok (litF st.h B pa un l b) := hO B
    have h1 := reachedC _ w (litF_at hM hok) hO
    have h2 := Calls.to (c' := c) (r := [reachR (litF st.h B pa un l b) (stN (litF st.h B pa un l b).sn (litF st.h B pa un l b).bn)]) ⟨fun _ _ => rfl, trivial⟩ rfl h1
    rw [hN B] at h2
    refine h2.mono fun en w' hr => ?_
    obtain ⟨v, g, a1, a2, a3, a4⟩ := hr
    refine ⟨v, g, a1, a2, ?_, a4⟩
    refine ⟨a3.len, fun i R hi => ?_, a3.nd⟩
    match i, hi with
    | 0, hi =>
      cases hi
      obtain ⟨v, xs, b1, b2, b3, b4⟩ := a3.row 0 _ rfl
      refine ⟨v, xs, b1, b2, fun j hj => ?_, b4⟩
      have := b3 j hj
      have e := hL B j hj
      rw [runW_eq hO (hW B)] at e
      simp only [reachR, e] at this
      exact this) rfl h
end

set_option maxRecDepth 100000 in
set_option maxHeartbeats 16000000 in
theorem namesC (w : World) :
    Calls Try.prog 5 #[] w (Ret w (.bool true)) := by
  refine go_start (args := []) (c := NoRows) Try.func5 rfl (noRows_ok _) rfl rfl ?_
  obtain ⟨nd, hnd⟩ : ∃ f : Bool → Bool → Bool, f = and := ⟨_, rfl⟩
  obtain ⟨nt, hnt⟩ : ∃ f : Bool → Bool, f = not := ⟨_, rfl⟩
  obtain ⟨ar, har⟩ : ∃ f : BinOp → IntKind → Int → Int → Int, f = rAr := ⟨_, rfl⟩
  obtain ⟨cm, hcm⟩ : ∃ f : BinOp → Int → Int → Bool, f = rCm := ⟨_, rfl⟩
  obtain ⟨mx, hmx⟩ : ∃ f : Int → Int → Int, f = rMx := ⟨_, rfl⟩
  obtain ⟨mn, hmn⟩ : ∃ f : Int → Int → Int, f = rMn := ⟨_, rfl⟩
  have ar01 : ar .add .i64 0 1 = 1 := by rw [har]; decide
  have ar12 : ar .add .i64 1 1 = 2 := by rw [har]; decide
  obtain ⟨zpl, hzpl⟩ : ∃ f : Nat → Nat → Nat, f = fun x y => x + y := ⟨_, rfl⟩
  obtain ⟨zjn, hzjn⟩ : ∃ f : Nat → (Nat → List SC) → (Nat → List SC) → Nat → List SC, f = rJn := ⟨_, rfl⟩
  obtain ⟨zup, hzup⟩ : ∃ f : (Nat → List SC) → Nat → Nat → List SC → Nat → List SC, f = rUp := ⟨_, rfl⟩
  obtain ⟨zmi, hzmi⟩ : ∃ f : Nat → Nat → Nat, f = fun x y => x - y := ⟨_, rfl⟩
  obtain ⟨zdp, hzdp⟩ : ∃ f : Nat → (Nat → List SC) → Nat → List SC, f = rDp := ⟨_, rfl⟩
  have hT := T0_ok hnd hnt har hcm hmx hmn hzpl hzjn hzup hzmi hzdp
  subst hnd hnt har hcm hmx hmn hzpl hzjn hzup hzmi hzdp
  repeat' (first
    | ((with_reducible apply go_ev hT 400); (· (cbv; try rfl)); (fail_if_success with_reducible apply stuck_id))
    | ((with_reducible refine go_brt ?_ ?_); (· first | rfl | assumption | (rw [hcm]; decide)))
    | ((with_reducible refine go_brf ?_ ?_); (· first | rfl | assumption | (rw [hcm]; decide)))
    | ((with_reducible refine go_brnt hnt ?_ ?_); (· first | rfl | assumption))
    | ((with_reducible refine go_brnf hnt ?_ ?_); (· first | rfl | assumption))
    | (with_reducible refine go_brn hnt (fun h => ?_) (fun h => ?_))
    | (with_reducible refine go_brl hcm (fun hlt => ?_) (fun hge => ?_))
    | (with_reducible refine go_br (fun h => ?_) (fun h => ?_))
    | ((with_reducible apply go_ret_val hT); (· (cbv; try rfl)); (· (cbv; try rfl)))
    | ((with_reducible apply go_fin_val hT); (· (cbv; try rfl)); (· (cbv; try rfl)))
    | (with_reducible refine go_fork ?_)
    | (with_reducible refine fork_cons ?_ ?_)
    | (with_reducible exact fork_nil)
    | ((with_reducible refine go_need ?_ ?_ ?_); (· first | omega | (simp only [Int.ofNat_eq_natCast]; omega)); (· first | omega | (simp only [Int.ofNat_eq_natCast]; omega)))
    | ((with_reducible refine go_ob ?_ ?_); (· first | trivial | (refine ⟨trivial, ?_⟩; omega) | (rw [hzpl]; refine ⟨trivial, ?_⟩; show _ + _ ≤ 1073741824; omega) | (rw [hzpl]; show _ + _ ≤ 1073741824; omega)))
    | ((with_reducible apply go_ret_rows hT); (· (cbv; try rfl)); (· (cbv; try rfl)); (· (cbv; (try simp only [true_and, and_true]); (try ((repeat' apply And.intro) <;> (first | trivial | rfl | decide ))))); (· (cbv; (try simp only [true_and, and_true]); (try ((repeat' apply And.intro) <;> (first | trivial | rfl | exact RowLe.rfl' _ ))))); (· rfl))
    | ((with_reducible apply go_fin_rows hT); (· (cbv; try rfl)); (· (cbv; try rfl)); (· (cbv; (try simp only [true_and, and_true]); (try ((repeat' apply And.intro) <;> (first | trivial | rfl | decide ))))); (· (cbv; (try simp only [true_and, and_true]); (try ((repeat' apply And.intro) <;> (first | trivial | rfl | exact RowLe.rfl' _ ))))); (· rfl))
    | ((with_reducible refine go_loopk (σ := {i : Nat // i ≤ 5}) [3, 4, 5, 6, 7, 8, 38, 39, 40, 41, 42, 43, 44, 45, 46, 47, 48, 49, 50, 51, 52, 53, 54, 55, 56, 57, 58, 59, 60, 61, 62, 63, 64, 65, 66, 67, 68, 69, 70, 71, 72, 73, 74, 75, 76, 77, 78, 79, 80] (fun x => [(2, .pt (.one (.int .i64 (.ofNat x.1))))]) (fun x => []) (fun x => []) (fun x => 5 - x.1) ⟨0, by omega⟩ ?_ ?_ ?_ ?_); (· (refine le_mk ?_ ?_ ?_ ?_ <;> (cbv; (try simp only [true_and, and_true]); (try ((repeat' apply And.intro) <;> (first | trivial | rfl | exact RowLe.rfl' _ | (rw [wrap_nat har _ (by omega)]))))))); (· (cbv; try rfl)); (· simp); (rintro ⟨i, hi⟩ mm hmm; refine halt ?_))
    )
  all_goals (with_reducible refine unhalt ?_)
  have hc : i = 0 ∨ i = 1 ∨ i = 2 ∨ i = 3 ∨ i = 4 ∨ i = 5 := by omega
  rcases hc with rfl | rfl | rfl | rfl | rfl | rfl
  iterate 5
    · skip
      repeat' (first
        | ((with_reducible apply go_ev hT 400); (· (cbv; try rfl)); (fail_if_success with_reducible apply stuck_id))
        | ((with_reducible refine go_brt ?_ ?_); (· first | rfl | assumption | (rw [hcm]; decide)))
        | ((with_reducible refine go_brf ?_ ?_); (· first | rfl | assumption | (rw [hcm]; decide)))
        | ((with_reducible refine go_brnt hnt ?_ ?_); (· first | rfl | assumption))
        | ((with_reducible refine go_brnf hnt ?_ ?_); (· first | rfl | assumption))
        | (with_reducible refine go_brn hnt (fun h => ?_) (fun h => ?_))
        | (with_reducible refine go_brl hcm (fun hlt => ?_) (fun hge => ?_))
        | (with_reducible refine go_br (fun h => ?_) (fun h => ?_))
        | ((with_reducible apply go_ret_val hT); (· (cbv; try rfl)); (· (cbv; try rfl)))
        | ((with_reducible apply go_fin_val hT); (· (cbv; try rfl)); (· (cbv; try rfl)))
        | (with_reducible refine go_fork ?_)
        | (with_reducible refine fork_cons ?_ ?_)
        | (with_reducible exact fork_nil)
        | ((with_reducible refine go_need ?_ ?_ ?_); (· first | omega | (simp only [Int.ofNat_eq_natCast]; omega)); (· first | omega | (simp only [Int.ofNat_eq_natCast]; omega)))
        | ((with_reducible refine go_ob ?_ ?_); (· first | trivial | (refine ⟨trivial, ?_⟩; omega) | (rw [hzpl]; refine ⟨trivial, ?_⟩; show _ + _ ≤ 1073741824; omega) | (rw [hzpl]; show _ + _ ≤ 1073741824; omega)))
        | ((with_reducible apply go_ret_rows hT); (· (cbv; try rfl)); (· (cbv; try rfl)); (· (cbv; (try simp only [true_and, and_true]); (try ((repeat' apply And.intro) <;> (first | trivial | rfl | decide ))))); (· (cbv; (try simp only [true_and, and_true]); (try ((repeat' apply And.intro) <;> (first | trivial | rfl | exact RowLe.rfl' _ ))))); (· rfl))
        | ((with_reducible apply go_fin_rows hT); (· (cbv; try rfl)); (· (cbv; try rfl)); (· (cbv; (try simp only [true_and, and_true]); (try ((repeat' apply And.intro) <;> (first | trivial | rfl | decide ))))); (· (cbv; (try simp only [true_and, and_true]); (try ((repeat' apply And.intro) <;> (first | trivial | rfl | exact RowLe.rfl' _ ))))); (· rfl))
        | ((with_reducible apply go_inline (f := 19) (hf := Try.func19) (hr := Try.results19) (hcall := Try.call19)); (· rfl); (· (cbv; try rfl)))
        | (((with_reducible refine go_drawE (id := 5) (by kernel_rfl) ?_); (refine go_cutL (σ := Unit) (fun _ => NoRows) [44, 45, 46, 47, 48, 49, 50, 51, 52] (fun _ => [(3, .pt (.one (.int .i64 0))), (4, .pt (.one (.int .i64 2)))]) (fun _ => []) (fun _ => []) rfl ?_ (fun _ => ?_))))
        | (((with_reducible refine go_drawE (id := 6) (by kernel_rfl) ?_); (refine go_cutL (σ := Unit) (fun _ => NoRows) [53, 54, 55, 56, 57, 58, 59, 60, 61] (fun _ => [(5, .pt (.one (.val (.slice none 0 0)))), (6, .pt (.one (.int .i64 2)))]) (fun _ => []) (fun _ => []) rfl ?_ (fun _ => ?_))))
        | (((with_reducible refine go_drawE (id := 7) (by kernel_rfl) ?_); (refine go_cutL (σ := Unit) (fun _ => NoRows) [62, 63, 64, 65, 66, 67, 68, 69, 70] (fun _ => [(7, .pt (.one (.val (.slice none 0 0)))), (8, .pt (.one (.int .i64 2)))]) (fun _ => []) (fun _ => []) rfl ?_ (fun _ => ?_))))
        | (((with_reducible apply go_numberBad (z := 2)); (· (intro S B; cbv; try rfl)); (· kernel_rfl); (· (intro B; kernel_rfl)); (· decide)))
        | (((with_reducible apply go_nextBad (z := 2)); (· (intro S B; cbv; try rfl)); (· kernel_rfl); (· (intro B; kernel_rfl)); (· decide)))
        | (((with_reducible apply go_beforeBad (z := 2)); (· (intro S B; cbv; try rfl)); (· kernel_rfl); (· (intro B; kernel_rfl)); (· decide)))
        | (((with_reducible refine go_stopC () rfl ?_ ?_ ?_); (· (refine le_mk ?_ ?_ ?_ ?_ <;> (cbv; (try simp only [true_and, and_true]); (try ((repeat' apply And.intro) <;> (first | trivial | rfl | exact RowLe.rfl' _)))))); (· (cbv; try rfl)); (· simp)))
        | ((with_reducible refine go_stop (⟨1, by omega⟩ : {i : Nat // i ≤ 5}) ?_ ?_ ?_ ?_); (· exact Nat.lt_of_lt_of_eq (show 5 - 1 < 5 - 0 from by omega) (Eq.symm (by assumption))); (· (refine le_mk ?_ ?_ ?_ ?_ <;> (cbv; (try simp only [true_and, and_true]); (try ((repeat' apply And.intro) <;> (first | trivial | rfl | exact RowLe.rfl' _ | (rw [wrap_nat har _ (by omega)]))))))); (· (cbv; try rfl)); (· simp))
        | ((with_reducible refine go_stop (⟨2, by omega⟩ : {i : Nat // i ≤ 5}) ?_ ?_ ?_ ?_); (· exact Nat.lt_of_lt_of_eq (show 5 - 2 < 5 - 1 from by omega) (Eq.symm (by assumption))); (· (refine le_mk ?_ ?_ ?_ ?_ <;> (cbv; (try simp only [true_and, and_true]); (try ((repeat' apply And.intro) <;> (first | trivial | rfl | exact RowLe.rfl' _ | (rw [wrap_nat har _ (by omega)]))))))); (· (cbv; try rfl)); (· simp))
        | ((with_reducible refine go_stop (⟨3, by omega⟩ : {i : Nat // i ≤ 5}) ?_ ?_ ?_ ?_); (· exact Nat.lt_of_lt_of_eq (show 5 - 3 < 5 - 2 from by omega) (Eq.symm (by assumption))); (· (refine le_mk ?_ ?_ ?_ ?_ <;> (cbv; (try simp only [true_and, and_true]); (try ((repeat' apply And.intro) <;> (first | trivial | rfl | exact RowLe.rfl' _ | (rw [wrap_nat har _ (by omega)]))))))); (· (cbv; try rfl)); (· simp))
        | ((with_reducible refine go_stop (⟨4, by omega⟩ : {i : Nat // i ≤ 5}) ?_ ?_ ?_ ?_); (· exact Nat.lt_of_lt_of_eq (show 5 - 4 < 5 - 3 from by omega) (Eq.symm (by assumption))); (· (refine le_mk ?_ ?_ ?_ ?_ <;> (cbv; (try simp only [true_and, and_true]); (try ((repeat' apply And.intro) <;> (first | trivial | rfl | exact RowLe.rfl' _ | (rw [wrap_nat har _ (by omega)]))))))); (· (cbv; try rfl)); (· simp))
        | ((with_reducible refine go_stop (⟨5, by omega⟩ : {i : Nat // i ≤ 5}) ?_ ?_ ?_ ?_); (· exact Nat.lt_of_lt_of_eq (show 5 - 5 < 5 - 4 from by omega) (Eq.symm (by assumption))); (· (refine le_mk ?_ ?_ ?_ ?_ <;> (cbv; (try simp only [true_and, and_true]); (try ((repeat' apply And.intro) <;> (first | trivial | rfl | exact RowLe.rfl' _ | (rw [wrap_nat har _ (by omega)]))))))); (· (cbv; try rfl)); (· simp))
        | (fail)
        )
      all_goals trace_state
  · skip
    repeat' (first
      | ((with_reducible apply go_ev hT 400); (· (cbv; try rfl)); (fail_if_success with_reducible apply stuck_id); (try simp only [ar01, ar12]))
      | ((with_reducible refine go_brt ?_ ?_); (· first | rfl | assumption | (rw [hcm]; decide)))
      | ((with_reducible refine go_brf ?_ ?_); (· first | rfl | assumption | (rw [hcm]; decide)))
      | ((with_reducible refine go_brnt hnt ?_ ?_); (· first | rfl | assumption))
      | ((with_reducible refine go_brnf hnt ?_ ?_); (· first | rfl | assumption))
      | (with_reducible refine go_brn hnt (fun h => ?_) (fun h => ?_))
      | (with_reducible refine go_brl hcm (fun hlt => ?_) (fun hge => ?_))
      | (with_reducible refine go_br (fun h => ?_) (fun h => ?_))
      | ((with_reducible apply go_ret_val hT); (· (cbv; try rfl)); (· (cbv; try rfl)))
      | ((with_reducible apply go_fin_val hT); (· (cbv; try rfl)); (· (cbv; try rfl)))
      | (with_reducible refine go_fork ?_)
      | (with_reducible refine fork_cons ?_ ?_)
      | (with_reducible exact fork_nil)
      | ((with_reducible refine go_need ?_ ?_ ?_); (· first | omega | (simp only [Int.ofNat_eq_natCast]; omega)); (· first | omega | (simp only [Int.ofNat_eq_natCast]; omega)))
      | ((with_reducible refine go_ob ?_ ?_); (· first | trivial | (refine ⟨trivial, ?_⟩; omega) | (rw [hzpl]; refine ⟨trivial, ?_⟩; show _ + _ ≤ 1073741824; omega) | (rw [hzpl]; show _ + _ ≤ 1073741824; omega)))
      | ((with_reducible apply go_ret_rows hT); (· (cbv; try rfl)); (· (cbv; try rfl)); (· (cbv; (try simp only [true_and, and_true]); (try ((repeat' apply And.intro) <;> (first | trivial | rfl | decide ))))); (· (cbv; (try simp only [true_and, and_true]); (try ((repeat' apply And.intro) <;> (first | trivial | rfl | exact RowLe.rfl' _ ))))); (· rfl))
      | ((with_reducible apply go_fin_rows hT); (· (cbv; try rfl)); (· (cbv; try rfl)); (· (cbv; (try simp only [true_and, and_true]); (try ((repeat' apply And.intro) <;> (first | trivial | rfl | decide ))))); (· (cbv; (try simp only [true_and, and_true]); (try ((repeat' apply And.intro) <;> (first | trivial | rfl | exact RowLe.rfl' _ ))))); (· rfl))
      | ((with_reducible apply go_inline (f := 19) (hf := Try.func19) (hr := Try.results19) (hcall := Try.call19)); (· rfl); (· (cbv; try rfl)))
      | (((with_reducible refine go_drawE (id := 13) (by kernel_rfl) ?_); (refine go_cutL (σ := Unit) (fun _ => NoRows) [88, 89, 90, 91, 92, 93, 94, 95] (fun _ => [(12, .pt (.one (.int .i64 0))), (13, .pt (.one (.int .i64 8)))]) (fun _ => []) (fun _ => []) rfl ?_ (fun _ => ?_))))
      | (((with_reducible refine go_drawE (id := 14) (by kernel_rfl) ?_); (refine go_cutL (σ := Unit) (fun _ => NoRows) [96, 97, 98, 99, 100, 101, 102, 103] (fun _ => [(14, .pt (.one (.val (.slice none 0 0)))), (15, .pt (.one (.int .i64 8)))]) (fun _ => []) (fun _ => []) rfl ?_ (fun _ => ?_))))
      | (((with_reducible refine go_drawE (id := 15) (by kernel_rfl) ?_); (refine go_cutL (σ := Unit) (fun _ => NoRows) [104, 105, 106, 107, 108, 109, 110, 111] (fun _ => [(16, .pt (.one (.val (.slice none 0 0)))), (17, .pt (.one (.int .i64 8)))]) (fun _ => []) (fun _ => []) rfl ?_ (fun _ => ?_))))
      | (((with_reducible apply go_numberBad (z := 8)); (· (intro S B; cbv; try rfl)); (· kernel_rfl); (· (intro B; cbv)); (· decide)))
      | (((with_reducible apply go_nextBad (z := 8)); (· (intro S B; cbv; try rfl)); (· kernel_rfl); (· (intro B; cbv)); (· decide)))
      | (((with_reducible apply go_beforeBad (z := 8)); (· (intro S B; cbv; try rfl)); (· kernel_rfl); (· (intro B; cbv)); (· decide)))
      | (((with_reducible apply go_pointsBad (z := 8)); (· (intro S B; cbv; try rfl)); (· kernel_rfl); (· (intro B; cbv)); (· decide)))
      | (((with_reducible apply go_reachedBad (z := 8)); (· (intro S B; cbv; try rfl)); (· kernel_rfl); (· (intro B; cbv)); (· decide)))
      | (((with_reducible refine go_stopC () rfl ?_ ?_ ?_); (· (refine le_mk ?_ ?_ ?_ ?_ <;> (cbv; (try simp only [true_and, and_true]); (try ((repeat' apply And.intro) <;> (first | trivial | rfl | exact RowLe.rfl' _)))))); (· (cbv; try rfl)); (· simp)))
      | (((with_reducible refine go_drawE (id := 22) (by kernel_rfl) ?_)))
      | (((with_reducible apply go_reachedLit 4 3 (fun j => decide (j < 2))); (· (intro S B; cbv; try rfl)); (· kernel_rfl); (· (intro B; cbv)); (· (intro B; cbv)); (· (intro B; cbv)); (· (intro B j hj; have hj3 : j = 0 ∨ j = 1 ∨ j = 2 := (by omega); rcases hj3 with rfl | rfl | rfl <;> cbv))))
      | (((with_reducible apply go_reachedLit 4 3 (fun _ => true)); (· (intro S B; cbv; try rfl)); (· kernel_rfl); (· (intro B; cbv)); (· (intro B; cbv)); (· (intro B; cbv)); (· (intro B j hj; have hj3 : j = 0 ∨ j = 1 ∨ j = 2 := (by omega); rcases hj3 with rfl | rfl | rfl <;> cbv))))
      | (((apply go_nextLit 0 1 [(0, 0), (1, 0)] (by rfl) (by rfl)); (· (intro S B; cbv; try rfl)); (· kernel_rfl); (· (intro B; cbv)); (· (intro B; cbv)); (· (intro B; cbv)); (· (intro B; cbv))))
      | (((apply go_nextLit 1 0 [] (by rfl) (by rfl)); (· (intro S B; cbv; try rfl)); (· kernel_rfl); (· (intro B; cbv)); (· (intro B; cbv)); (· (intro B; cbv)); (· (intro B; cbv))))
      | (((apply go_numberLit 1 0 2 (by rfl) (by rfl)); (· (intro S B; cbv; try rfl)); (· kernel_rfl); (· (intro B; cbv)); (· (intro B; cbv)); (· (intro B; cbv)); (· (intro B; cbv))))
      | ((with_reducible apply go_inline (f := 22) (hf := Try.func22) (hr := Try.results22) (hcall := Try.call22)); (· rfl); (· (cbv; try rfl)))
      | ((with_reducible apply go_inline (f := 21) (hf := Try.func21) (hr := Try.results21) (hcall := Try.call21)); (· rfl); (· (cbv; try rfl)))
      | ((with_reducible apply go_call (f := 11) (hf := Try.call11)); (· (cbv; try rfl)); (· intro wc hbc hxc; exact alive11C wc))
      | ((with_reducible apply go_callq (f := 11) (hf := Try.call11)); (· (cbv; try rfl)); (· intro wc hbc hxc; exact alive11C wc))
      | (with_reducible apply go_rounds 6)
      | (((with_reducible apply go_draw); (· rfl); (· kernel_rfl); (· kernel_rfl)))
      | (fail)
      )
    all_goals rfl

end Go.Proofs.Ytanocepbagbbkaa
