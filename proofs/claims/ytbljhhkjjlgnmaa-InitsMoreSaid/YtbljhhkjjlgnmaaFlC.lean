/- Layer 15, the chapter's examples. No condition. -/
import Derived.Test.YtbljhhkjjlgnmaaFlB
namespace Go.Proofs.Ytbljhhkjjlgnmaa
open Go.RowKit
set_option linter.unusedVariables false
set_option linter.unusedSimpArgs false

/-- The algebra's letters, all at once. -/
theorem t0_all : ∃ nd : Bool → Bool → Bool, nd = and ∧ ∃ nt : Bool → Bool, nt = not ∧ ∃ ar : BinOp → IntKind → Int → Int → Int, ar = rAr ∧ ∃ cm : BinOp → Int → Int → Bool, cm = rCm ∧ ∃ mx : Int → Int → Int, mx = rMx ∧ ∃ mn : Int → Int → Int, mn = rMn ∧ ar .add .i64 0 1 = 1 ∧ ar .add .i64 1 1 = 2 ∧ ∃ zpl : Nat → Nat → Nat, zpl = (fun x y => x + y) ∧ ∃ zjn : Nat → (Nat → List SC) → (Nat → List SC) → Nat → List SC, zjn = rJn ∧ ∃ zup : (Nat → List SC) → Nat → Nat → List SC → Nat → List SC, zup = rUp ∧ ∃ zmi : Nat → Nat → Nat, zmi = (fun x y => x - y) ∧ ∃ zdp : Nat → (Nat → List SC) → Nat → List SC, zdp = rDp ∧ TOk Try.prog ⟨lookT tabL, nd, nt, ar, cm, mx, mn, zpl, zjn, zup, zmi, zdp⟩ :=
  ⟨_, rfl, _, rfl, _, rfl, _, rfl, _, rfl, _, rfl, by decide, by decide, _, rfl, _, rfl, _, rfl, _, rfl, _, rfl, T0_ok rfl rfl rfl rfl rfl rfl rfl rfl rfl rfl rfl⟩

section
variable {Q : Exit → Act → World → Prop} {c : Nat → Nat → Row} {w0 : Base}
theorem go_setLit (RL : List Bool) (N : Nat) (M : List Nat) {pa : Int} {un : Bool} {l b : SC} {dst : Option Nat} {k : List Item} {st : St} (hv : ∀ S B, toVsB S B c [.pt (.agg [.int .i64 pa, .lit un, l, b])] = some [(litF st.h B pa un l b).val]) (hN : ∀ B, stN (litF st.h B pa un l b).sn (litF st.h B pa un l b).bn = N) (hok : litOk st.h l b = true) (hO : ∀ B, fchkV (litF st.h B pa un l b) = 0)
    (hm : ∀ B, masksOk (litF st.h B pa un l b) RL M = true)
    (h : Goes Try.prog Q c w0 k (({ st with r := st.r ++ someR [mskR N M] } : St).put dst ((SV.tup [.one (.rs 0), .one (.int .i64 0)]).shR (lenM st.r)))) : OutOk Try.prog Q c w0 (.call 11 [.pt (.agg [.int .i64 pa, .lit un, l, b])] dst k st) :=
  go_callB (vs := fun S B => [(litF st.h B pa un l b).val]) hv Try.call11 (fun w S B hk hx' hM => setLit hM pa un l b hok (hO B) RL N M (hN B) (hm B)) rfl h

theorem go_firstLit (RL : List Bool) (N : Nat) (M : List Nat) (x : Nat) (y z : Int) {pa : Int} {un : Bool} {l b : SC} {dst : Option Nat} {k : List Item} {st : St} (hv : ∀ S B, toVsB S B c [.pt (.agg [.int .i64 pa, .lit un, l, b])] = some [(litF st.h B pa un l b).val]) (hN : ∀ B, stN (litF st.h B pa un l b).sn (litF st.h B pa un l b).bn = N) (hok : litOk st.h l b = true) (hO : ∀ B, fchkV (litF st.h B pa un l b) = 0)
   
    (hm : ∀ B, masksOk (litF st.h B pa un l b) RL M = true) (hx : ∀ B, firstC_ (litF st.h B pa un l b) M = (x, y, z))
    (h : Goes Try.prog Q c w0 k (st.put dst (ofR (.tuple #[.int .i64 (.ofNat x), .int .i64 y, .int .i64 z])))) : OutOk Try.prog Q c w0 (.call 6 [.pt (.agg [.int .i64 pa, .lit un, l, b])] dst k st) :=
  go_callBv (vs := fun S B => [(litF st.h B pa un l b).val]) hv Try.call6 (fun w S B hk hx' hM => firstLit hM pa un l b hok (hO B) RL M (hm B) x y z (hx B)) h

theorem go_initLit (RL : List Bool) (N : Nat) (M : List Nat) (z : Int) {pa : Int} {un : Bool} {l b : SC} {dst : Option Nat} {k : List Item} {st : St} (hv : ∀ S B, toVsB S B c [.pt (.agg [.int .i64 pa, .lit un, l, b])] = some [(litF st.h B pa un l b).val]) (hN : ∀ B, stN (litF st.h B pa un l b).sn (litF st.h B pa un l b).bn = N) (hok : litOk st.h l b = true) (hO : ∀ B, fchkV (litF st.h B pa un l b) = 0)
   
    (hm : ∀ B, masksOk (litF st.h B pa un l b) RL M = true) (hx : ∀ B, (if (firstC_ (litF st.h B pa un l b) M).2.2 = 6 then (0 : Int) else 44) = z)
    (h : Goes Try.prog Q c w0 k (st.put dst (ofR (.int .i64 z)))) : OutOk Try.prog Q c w0 (.call 7 [.pt (.agg [.int .i64 pa, .lit un, l, b])] dst k st) :=
  go_callBv (vs := fun S B => [(litF st.h B pa un l b).val]) hv Try.call7 (fun w S B hk hx' hM => initLit hM pa un l b hok (hO B) RL M (hm B) z (hx B)) h
end

set_option maxRecDepth 100000 in
theorem number15C (n : Int) (w : World) : Calls Try.prog 8 #[.int .i64 n] w (Ret w (GOper.val ⟨1, n, ⟨0, false, 0⟩⟩)) := by
  refine go_start (args := [.pt (.one (.int .i64 n))]) (c := NoRows) Try.func8 rfl (noRows_ok _) rfl rfl ?_
  obtain ⟨nd, hnd, nt, hnt, ar, har, cm, hcm, mx, hmx, mn, hmn, ar01, ar12, zpl, hzpl, zjn, hzjn, zup, hzup, zmi, hzmi, zdp, hzdp, hT⟩ := t0_all
  repeat' (first
    | ((with_reducible apply go_ev hT 400); (· (cbv; try rfl)); (fail_if_success with_reducible apply stuck_id))
    | ((with_reducible apply go_ret_val hT); (· (cbv; try rfl)); (· (cbv; try rfl)))
    )
  all_goals rfl

set_option maxRecDepth 100000 in
theorem copied15C (n : Int) (w : World) : Calls Try.prog 22 #[.int .i64 n] w (Ret w (GOper.val ⟨2, 0, ⟨n, false, 0⟩⟩)) := by
  refine go_start (args := [.pt (.one (.int .i64 n))]) (c := NoRows) Try.func22 rfl (noRows_ok _) rfl rfl ?_
  obtain ⟨nd, hnd, nt, hnt, ar, har, cm, hcm, mx, hmx, mn, hmn, ar01, ar12, zpl, hzpl, zjn, hzjn, zup, hzup, zmi, hzmi, zdp, hzdp, hT⟩ := t0_all
  repeat' (first
    | ((with_reducible apply go_ev hT 400); (· (cbv; try rfl)); (fail_if_success with_reducible apply stuck_id))
    | ((with_reducible apply go_ret_val hT); (· (cbv; try rfl)); (· (cbv; try rfl)))
    )
  all_goals rfl

set_option maxRecDepth 100000 in
theorem assign15C (n ak an al af : Int) (ad : Bool) (w : World) : Calls Try.prog 10 #[.int .i64 n, .agg #[.int .u8 ak, .int .i64 an, .int .i64 al, .bool ad, .int .u8 af]] w (Ret w (GStmt.val ⟨1, ⟨n, false, 0⟩, ⟨1, 0, 0, ⟨ak, an, ⟨al, ad, af⟩⟩, .zero, .zero⟩, .zero, 0⟩)) := by
  refine go_start (args := [.pt (.one (.int .i64 n)), .pt (.agg [.int .u8 ak, .int .i64 an, .int .i64 al, .bool ad, .int .u8 af])]) (c := NoRows) Try.func10 rfl (noRows_ok _) rfl rfl ?_
  obtain ⟨nd, hnd, nt, hnt, ar, har, cm, hcm, mx, hmx, mn, hmn, ar01, ar12, zpl, hzpl, zjn, hzjn, zup, hzup, zmi, hzmi, zdp, hzdp, hT⟩ := t0_all
  repeat' (first
    | ((with_reducible apply go_ev hT 400); (· (cbv; try rfl)); (fail_if_success with_reducible apply stuck_id))
    | ((with_reducible apply go_ret_val hT); (· (cbv; try rfl)); (· (cbv; try rfl)))
    )
  all_goals rfl

set_option maxRecDepth 100000 in
set_option maxHeartbeats 32000000 in
theorem alive15C (w : World) :
    Calls Try.prog 12 #[] w (Ret w (.bool true)) := by
  refine go_start (args := []) (c := NoRows) Try.func12 rfl (noRows_ok _) rfl rfl ?_
  obtain ⟨nd, hnd, nt, hnt, ar, har, cm, hcm, mx, hmx, mn, hmn, ar01, ar12, zpl, hzpl, zjn, hzjn, zup, hzup, zmi, hzmi, zdp, hzdp, hT⟩ := t0_all
  subst hnd hnt har hcm hmx hmn hzpl hzjn hzup hzmi hzdp
  repeat' (first
    | ((with_reducible apply go_ev hT 400); (· (cbv; try rfl)); (fail_if_success with_reducible apply stuck_id))
    )
  with_reducible refine go_drawE (by kernel_rfl) ?_
  refine go_boxT 1 0 rfl rfl rfl rfl rfl trivial rfl (noRows_qb 0) (noRows_n 0) (fun a1 _ => ?_)
  repeat' (first
    | ((with_reducible apply go_ev hT 400); (· (cbv; try rfl)); (fail_if_success with_reducible apply stuck_id); (try simp only [ar01, ar12]))
    | ((with_reducible apply go_takeC 0 hT (g := 8) (hfun := Try.call8)); (· rfl); (· kernel_rfl); (· rfl); (· rfl); (· (intro h_; cases h_)); (· kernel_rfl); (· kernel_rfl); (· kernel_rfl); (· (cbv; try rfl)); (· (cbv; try rfl)); (· (cbv; try rfl)); (· intro wc; exact number15C _ wc))
    | ((with_reducible apply go_takeC 0 hT (g := 22) (hfun := Try.call22)); (· rfl); (· kernel_rfl); (· rfl); (· rfl); (· (intro h_; cases h_)); (· kernel_rfl); (· kernel_rfl); (· kernel_rfl); (· (cbv; try rfl)); (· (cbv; try rfl)); (· (cbv; try rfl)); (· intro wc; exact copied15C _ wc))
    | ((with_reducible apply go_takeC 0 hT (g := 10) (hfun := Try.call10)); (· rfl); (· kernel_rfl); (· rfl); (· rfl); (· (intro h_; cases h_)); (· kernel_rfl); (· kernel_rfl); (· kernel_rfl); (· (cbv; try rfl)); (· (cbv; try rfl)); (· (cbv; try rfl)); (· intro wc; exact assign15C _ _ _ _ _ _ wc))
    | ((with_reducible refine go_brt ?_ ?_); (· first | rfl | assumption | (rw [hcm]; decide)))
    | ((with_reducible refine go_brf ?_ ?_); (· first | rfl | assumption | (rw [hcm]; decide)))
    | ((with_reducible apply go_ret_val hT); (· (cbv; try rfl)); (· (cbv; try rfl)))
    | ((with_reducible apply go_draw); (· rfl); (· kernel_rfl); (· kernel_rfl))
    | ((with_reducible apply go_drawE); (· kernel_rfl))
    | (with_reducible refine go_fork ?_)
    | (with_reducible refine fork_cons ?_ ?_)
    | (with_reducible exact fork_nil)
    | ((with_reducible refine go_need ?_ ?_ ?_); (· first | omega | (simp only [Int.ofNat_eq_natCast]; omega)); (· first | omega | (simp only [Int.ofNat_eq_natCast]; omega)))
    | ((with_reducible apply go_inline (f := 9) (hf := Try.func9) (hr := Try.results9) (hcall := Try.call9)); (· rfl); (· (cbv; try rfl)))
    | (((apply go_setLit [true, true, true, true] 4 [0, 2, 3, 1]); (· (intro S B; cbv; try rfl)); (· (intro B; cbv)); (· kernel_rfl); (· (intro B; kernel_rfl)); (· (intro B; kernel_rfl))))
    | (((apply go_firstLit [true, true, true, true] 4 [0, 2, 3, 1] 0 0 6); (· (intro S B; cbv; try rfl)); (· (intro B; cbv)); (· kernel_rfl); (· (intro B; kernel_rfl)); (· (intro B; kernel_rfl)); (· (intro B; kernel_rfl))))
    | (((apply go_firstLit [true, true, true, true, true] 5 [0, 2, 3, 1, 1] 3 1 0); (· (intro S B; cbv; try rfl)); (· (intro B; cbv)); (· kernel_rfl); (· (intro B; kernel_rfl)); (· (intro B; kernel_rfl)); (· (intro B; kernel_rfl))))
    | (((apply go_initLit [true, true, true, true] 4 [0, 2, 3, 1] 0); (· (intro S B; cbv; try rfl)); (· (intro B; cbv)); (· kernel_rfl); (· (intro B; kernel_rfl)); (· (intro B; kernel_rfl)); (· (intro B; kernel_rfl))))
    | (((apply go_initLit [true, true, true, true, true] 5 [0, 2, 3, 1, 1] 44); (· (intro S B; cbv; try rfl)); (· (intro B; cbv)); (· kernel_rfl); (· (intro B; kernel_rfl)); (· (intro B; kernel_rfl)); (· (intro B; kernel_rfl))))
    | ((with_reducible apply go_inline (f := 13) (hf := Try.func13) (hr := Try.results13) (hcall := Try.call13)); (· rfl); (· (cbv; try rfl)))
    | (with_reducible apply go_rounds 6)
    )
  all_goals rfl

end Go.Proofs.Ytbljhhkjjlgnmaa
