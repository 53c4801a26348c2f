/- LivelyNames, the walk. No condition. -/
import Derived.Test.YtbljhhkjjlgnmaaGreatLvP
namespace Go.Proofs.YtbljhhkjjlgnmaaGreat
open Go.RowKit
set_option linter.unusedVariables false
set_option linter.unusedSimpArgs false

def umC (F : GFun) (a : Nat) : Nat := mk (usC F (pbN F a) (piN F a)) F.ln
theorem umC_is (F : GFun) (a : Nat) : umN F a = umC F a := by
  unfold umN umC
  exact mk_ext fun l _ => uB_is F _ _ l
section
variable {Q : Exit → Act → World → Prop} {c : Nat → Nat → Row} {w0 : Base}
theorem go_usesLit (a : Nat) (u : Nat) (s : Int) {pa : Int} {un : Bool} {l b : SC} {dst : Option Nat} {k : List Item} {st : St} (hv : ∀ S B, toVsB S B c [.pt (.agg [.int .i64 pa, .lit un, l, b]), .pt (.one (.int .i64 (.ofNat a)))] = some [(litF st.h B pa un l b).val, .int .i64 (.ofNat a)]) (hok : litOk st.h l b = true) (hO : ∀ B, fchkV (litF st.h B pa un l b) = 0) (hD : ∀ B, fdB (litF st.h B pa un l b) = true)
    (ha : ∀ B, decide (a < stN (litF st.h B pa un l b).sn (litF st.h B pa un l b).bn) = true) (hu : ∀ B, umC (litF st.h B pa un l b) a = u) (hs : ∀ B, smN (litF st.h B pa un l b) a = s)
    (h : Goes Tryz.prog Q c w0 k (st.put dst (ofR (.tuple #[.int .u32 (.ofNat u), .int .i64 s, .int .i64 0])))) : OutOk Tryz.prog Q c w0 (.call 38 [.pt (.agg [.int .i64 pa, .lit un, l, b]), .pt (.one (.int .i64 (.ofNat a)))] dst k st) :=
  go_callBv (vs := fun S B => [(litF st.h B pa un l b).val, .int .i64 (.ofNat a)]) hv Tryz.call38 (fun w S B hk hx' hM => by
    have := lusesC _ w (litF_at hM hok) (hO B) (fdB_is (hD B)) a (of_decide_eq_true (ha B))
    rw [umC_is, hu, hs] at this
    exact this) h
theorem go_usesOut (z : Int) {pa : Int} {un : Bool} {l b : SC} {dst : Option Nat} {k : List Item} {st : St} (hv : ∀ S B, toVsB S B c [.pt (.agg [.int .i64 pa, .lit un, l, b]), .pt (.one (.int .i64 z))] = some [(litF st.h B pa un l b).val, .int .i64 z]) (hok : litOk st.h l b = true) (hO : ∀ B, fchkV (litF st.h B pa un l b) = 0)
    (ha : ∀ B, decide (z < 0 ∨ (stN (litF st.h B pa un l b).sn (litF st.h B pa un l b).bn : Int) ≤ z) = true)
    (h : Goes Tryz.prog Q c w0 k (st.put dst (ofR (.tuple #[.int .u32 0, .int .i64 0, .int .i64 2])))) : OutOk Tryz.prog Q c w0 (.call 38 [.pt (.agg [.int .i64 pa, .lit un, l, b]), .pt (.one (.int .i64 z))] dst k st) :=
  go_callBv (vs := fun S B => [(litF st.h B pa un l b).val, .int .i64 z]) hv Tryz.call38 (fun w S B hk hx' hM => lusesOut _ w (litF_at hM hok) (hO B) z (of_decide_eq_true (ha B))) h
theorem go_liveNo (z : Int) {pa : Int} {un : Bool} {l b : SC} {dst : Option Nat} {k : List Item} {st : St} (hv : ∀ S B, toVsB S B c [.pt (.agg [.int .i64 pa, .lit un, l, b])] = some [(litF st.h B pa un l b).val]) (hok : litOk st.h l b = true) (hz : ∀ B, fchkV (litF st.h B pa un l b) = z) (hz0 : z ≠ 0) (h : Goes Tryz.prog Q c w0 k (st.put dst (ofR (.tuple #[.slice none 0 0, .int .i64 z])))) : OutOk Tryz.prog Q c w0 (.call 35 [.pt (.agg [.int .i64 pa, .lit un, l, b])] dst k st) :=
  go_callBv (vs := fun S B => [(litF st.h B pa un l b).val]) hv Tryz.call35 (fun w S B hk hx hM => by
    have := livesBad (litF st.h B pa un l b) w (litF_at hM hok) (by rw [hz]; exact hz0)
    rw [hz] at this; exact this) h
theorem go_chkNo (z : Int) {pa : Int} {un : Bool} {l b : SC} {dst : Option Nat} {k : List Item} {st : St} (hv : ∀ S B, toVsB S B c [.pt (.agg [.int .i64 pa, .lit un, l, b])] = some [(litF st.h B pa un l b).val]) (hok : litOk st.h l b = true) (hz : ∀ B, fchkV (litF st.h B pa un l b) = z) (hn : ∀ B, (litF st.h B pa un l b).ln = 0) (h : Goes Tryz.prog Q c w0 k (st.put dst (ofR (.int .i64 z)))) : OutOk Tryz.prog Q c w0 (.call 23 [.pt (.agg [.int .i64 pa, .lit un, l, b])] dst k st) :=
  go_callBv (vs := fun S B => [(litF st.h B pa un l b).val]) hv Tryz.call23 (fun w S B hk hx hM => by
    have := rFnChk (litF st.h B pa un l b) w (litF_at hM hok) (fun i hi => by rw [hn] at hi; omega)
    rw [rchk_eq, hz] at this; exact this) h
end

set_option maxRecDepth 100000 in
set_option maxHeartbeats 64000000 in
theorem lnamesL (w : World) :
    Calls Tryz.prog 9 #[] w (Ret w (.bool true)) := by
  refine go_start (args := []) (c := NoRows) Tryz.func9 rfl (noRows_ok _) rfl rfl ?_
  obtain ⟨nd, hnd, nt, hnt, ar, har, cm, hcm, mx, hmx, mn, hmn, ar01, ar12, zpl, hzpl, zjn, hzjn, zup, hzup, zmi, hzmi, zdp, hzdp, hT⟩ := t0_all
  subst hnd hnt har hcm hmx hmn hzpl hzjn hzup hzmi hzdp
  repeat' (first
    | ((with_reducible apply go_ev hT 400); (· (cbv; try rfl)); (fail_if_success with_reducible apply stuck_id); (try simp only [ar01, ar12]))
    | ((with_reducible apply go_takeC 0 hT (g := 42) (hfun := Tryz.call42)); (· rfl); (· kernel_rfl); (· rfl); (· rfl); (· (intro h_; cases h_)); (· kernel_rfl); (· kernel_rfl); (· kernel_rfl); (· (cbv; try rfl)); (· (cbv; try rfl)); (· (cbv; try rfl)); (· intro wc; exact first16C _ wc))
    | ((with_reducible apply go_takeC 1 hT (g := 42) (hfun := Tryz.call42)); (· rfl); (· kernel_rfl); (· rfl); (· rfl); (· (intro h_; cases h_)); (· kernel_rfl); (· kernel_rfl); (· kernel_rfl); (· (cbv; try rfl)); (· (cbv; try rfl)); (· (cbv; try rfl)); (· intro wc; exact first16C _ wc))
    | ((with_reducible apply go_takeC 2 hT (g := 42) (hfun := Tryz.call42)); (· rfl); (· kernel_rfl); (· rfl); (· rfl); (· (intro h_; cases h_)); (· kernel_rfl); (· kernel_rfl); (· kernel_rfl); (· (cbv; try rfl)); (· (cbv; try rfl)); (· (cbv; try rfl)); (· intro wc; exact first16C _ wc))
    | ((with_reducible apply go_takeC 3 hT (g := 42) (hfun := Tryz.call42)); (· rfl); (· kernel_rfl); (· rfl); (· rfl); (· (intro h_; cases h_)); (· kernel_rfl); (· kernel_rfl); (· kernel_rfl); (· (cbv; try rfl)); (· (cbv; try rfl)); (· (cbv; try rfl)); (· intro wc; exact first16C _ wc))
    | ((with_reducible apply go_takeC 4 hT (g := 42) (hfun := Tryz.call42)); (· rfl); (· kernel_rfl); (· rfl); (· rfl); (· (intro h_; cases h_)); (· kernel_rfl); (· kernel_rfl); (· kernel_rfl); (· (cbv; try rfl)); (· (cbv; try rfl)); (· (cbv; try rfl)); (· intro wc; exact first16C _ wc))
    | refine go1 ?_ | refine gobt ?_ | refine gobn ?_ | refine go3 (fun hlt => ?_) (fun hge => ?_) | refine go2 (fun h => ?_) (fun h => ?_) | exact go0 | refine god ?_ | refine gof ?_ | refine gob ?_ | (with_reducible refine fork_cons ?_ ?_)
    | ((with_reducible apply go_call (f := 42) (hf := Tryz.call42)); (· (cbv; try rfl)); (· intro wc hbc hxc; exact first16C _ wc))
    | ((with_reducible apply go_callq (f := 42) (hf := Tryz.call42)); (· (cbv; try rfl)); (· intro wc hbc hxc; exact first16C _ wc))
    | ((with_reducible apply go_call (f := 41) (hf := Tryz.call41)); (· (cbv; try rfl)); (· intro wc hbc hxc; exact copied16C _ _ wc))
    | ((with_reducible apply go_callq (f := 41) (hf := Tryz.call41)); (· (cbv; try rfl)); (· intro wc hbc hxc; exact copied16C _ _ wc))
    | ((with_reducible apply go_inline (f := 40) (hf := Tryz.func40) (hr := Tryz.results40) (hcall := Tryz.call40)); (· rfl); (· (cbv; try rfl)))
    | (((apply go_liveLit (dst := some 50) 3 4 [0, 2, 1]); (· (intro S B; cbv; try rfl)); (· (intro B; cbv)); (· kernel_rfl); (· (intro B; kernel_rfl)); (· (intro B; kernel_rfl)); (· (intro B; kernel_rfl))))
    | (((apply go_liveLit (dst := some 70) 3 4 [6, 2, 1]); (· (intro S B; cbv; try rfl)); (· (intro B; cbv)); (· kernel_rfl); (· (intro B; kernel_rfl)); (· (intro B; kernel_rfl)); (· (intro B; kernel_rfl))))
    | (((apply go_liveLit (dst := some 90) 3 4 [2, 2, 1]); (· (intro S B; cbv; try rfl)); (· (intro B; cbv)); (· kernel_rfl); (· (intro B; kernel_rfl)); (· (intro B; kernel_rfl)); (· (intro B; kernel_rfl))))
    | (((apply go_liveLit (dst := some 113) 4 5 [6, 7, 1, 0]); (· (intro S B; cbv; try rfl)); (· (intro B; cbv)); (· kernel_rfl); (· (intro B; kernel_rfl)); (· (intro B; kernel_rfl)); (· (intro B; kernel_rfl))))
    | (((apply go_usesLit (dst := some 118) 0 2 (0)); (· (intro S B; cbv; try rfl)); (· kernel_rfl); (· (intro B; kernel_rfl)); (· (intro B; kernel_rfl)); (· (intro B; kernel_rfl)); (· (intro B; kernel_rfl)); (· (intro B; kernel_rfl))))
    | (((apply go_usesOut (dst := some 124) (4)); (· (intro S B; cbv; try rfl)); (· kernel_rfl); (· (intro B; kernel_rfl)); (· (intro B; kernel_rfl))))
    | (((apply go_usesOut (dst := some 130) (-1)); (· (intro S B; cbv; try rfl)); (· kernel_rfl); (· (intro B; kernel_rfl)); (· (intro B; kernel_rfl))))
    | (((apply go_usesLit (dst := some 136) 2 1 (-1)); (· (intro S B; cbv; try rfl)); (· kernel_rfl); (· (intro B; kernel_rfl)); (· (intro B; kernel_rfl)); (· (intro B; kernel_rfl)); (· (intro B; kernel_rfl)); (· (intro B; kernel_rfl))))
    | (((apply go_liveNo 8); (· (intro S B; cbv; try rfl)); (· kernel_rfl); (· (intro B; kernel_rfl)); (· decide)))
    | (((apply go_chkNo 8); (· (intro S B; cbv; try rfl)); (· kernel_rfl); (· (intro B; kernel_rfl)); (· (intro B; rfl))))
    | ((with_reducible apply go_call (f := 33) (hf := Tryz.call33)); (· (cbv; try rfl)); (· intro wc hbc hxc; exact alive16C wc))
    | ((with_reducible apply go_callq (f := 33) (hf := Tryz.call33)); (· (cbv; try rfl)); (· intro wc hbc hxc; exact alive16C wc))
    | ((with_reducible apply go_inline (f := 19) (hf := Tryz.func19) (hr := Tryz.results19) (hcall := Tryz.call19)); (· rfl); (· (cbv; try rfl)))
    | (with_reducible apply go_rounds 6)
    | fail)
  all_goals rfl

end Go.Proofs.YtbljhhkjjlgnmaaGreat
