/- SolveNames, the walk. No condition. -/
import Derived.Test.YtmceonmlgcbcmaaGreatSnA
namespace Go.Proofs.YtmceonmlgcbcmaaGreat
open Go.RowKit
set_option linter.unusedVariables false
set_option linter.unusedSimpArgs false
theorem leastNm (c : Nat → Nat → Row) (w : World) (v : Value) (hR : RowIs c w ⟨593, 1, fun _ => [.val (.slice none 0 0)]⟩ v) :
 Calls Tryz.prog 42 #[v, .slice none 0 0] w (Ret w (.tuple #[.slice none 0 0, .int .i64 4])) := by
 obtain ⟨a, cap, rfl, hX⟩ := sets_nil hR
 exact least_err a none 593 0 cap 0 _ _ (fun _ => 0) (fun _ => 0) (fun _ => 0) (fun _ => 0) 4 w (by simp [maxLen]) (by simp [maxLen]) (ask_much (.inl (by omega))) (by decide) hX Cons.of_none
theorem leastNk (c cc : Nat → Nat → Row) (w : World) (v v' : Value) (hR : RowIs c w ⟨592, 1, fun _ => [.val (.slice none 0 0)]⟩ v) (hR' : RowIs c w ⟨1152, 4, fun _ => [.int .i64 0, .int .i64 0, .int .i64 0, .int .u8 0]⟩ v') :
 Calls Tryz.prog 42 #[v, v'] w (RetR w cc (.tup [.one (.rs 0), .one (.int .i64 0)]) [⟨592, 1, fun _ => [.any]⟩]) := by
 obtain ⟨a, cap, rfl, hX⟩ := sets_nil hR
 obtain ⟨a', cap', rfl, hY⟩ := cons_zero hR'
 exact leastN a a' 592 1152 cap cap' _ _ _ _ _ w cc (by omega) (by omega) (fun i hi => ⟨by simp, by simp, by simp, by simp⟩) hX hY
theorem leastNj (cc : Nat → Nat → Row) (w : World) :
 Calls Tryz.prog 42 #[.slice none 0 0, .slice none 0 0] w (RetR w cc (.tup [.one (.rs 0), .one (.int .i64 0)]) [⟨0, 1, fun _ => [.any]⟩]) :=
 leastN none none 0 0 0 0 (fun _ _ => false) (fun _ => 0) (fun _ => 0) (fun _ => 0) (fun _ => 0) w cc (by omega) (by omega) (fun i hi => absurd hi (Nat.not_lt_zero _)) Sets.of_none Cons.of_none
theorem leastNb {c : Nat → Nat → Row} {w : World} {S : Nat → Value} {B : Nat → Nat} {st : St} (hM : MemIs c w S B st) (k q : Nat) (hk : nth st.h k = some (some [.rs q, .val (.slice none 0 0)])) (hq : nth st.r q = some (some ⟨601, 1, fun _ => [.lit false]⟩)) :
 Calls Tryz.prog 42 #[.slice (some ⟨B k, 0, none⟩) 2 2, .slice none 0 0] w (Ret w (.tuple #[.slice none 0 0, .int .i64 4])) := by
 obtain ⟨hlt, t, hw⟩ := hM.blk k _ [S q, .slice none 0 0] hk rfl
 have hR := hM.row q _ hq
 obtain ⟨a, cap, e⟩ := hR.form
 rw [e] at hR hw
 have hX : Sets w (some ⟨B k, 0, none⟩) 2 (fun i => if i = 0 then 601 else 0) (fun _ _ => false) := fun _ => by
  refine ⟨B k, 0, rfl, hlt, fun i hi => ?_⟩
  have : i = 0 ∨ i = 1 := by omega
  rcases this with rfl | rfl
  · refine ⟨a, cap, by rw [cell_of_row w (B k) (0 + 0) _ t (0, 0) hw]; rfl, by simp [maxLen], fun _ => ?_⟩
    obtain ⟨b, p, hb, hl2, -⟩ := hR.rowG (j := 0) (by show 0 < 601; omega)
    refine ⟨b, p, hb, hl2, fun j hj => ?_⟩
    obtain ⟨b', p', hb', _, vs, h1, h2⟩ := hR.rowG (j := j) hj
    rw [hb] at hb'; cases hb'
    match vs, h1 with
    | [u], ⟨h1, _⟩ =>
      have h1 : u = .bool false := h1
      subst h1
      simpa using h2 0 _ rfl
  · exact ⟨none, 0, by rw [cell_of_row w (B k) (0 + 1) _ t (0, 0) hw]; rfl, by simp [maxLen], Bits.of_none⟩
 exact least_err _ none 2 0 2 0 _ _ (fun _ => 0) (fun _ => 0) (fun _ => 0) (fun _ => 0) 4 w (by simp [maxLen]) (by simp [maxLen]) (ask_much (.inr (.inr ⟨0, by omega, by simp⟩))) (by decide) hX Cons.of_none
theorem leastNc {c : Nat → Nat → Row} {w : World} {S : Nat → Value} {B : Nat → Nat} {st : St} (hM : MemIs c w S B st) (x : SC) (q : Nat) (hx : setsLit st.h x = true) (hq : nth st.r q = some (some ⟨1153, 4, fun _ => [.int .i64 0, .int .i64 0, .int .i64 0, .int .u8 0]⟩)) :
 Calls Tryz.prog 42 #[.slice (adrC B x) (lenC x) (capC x), S q] w (Ret w (.tuple #[.slice none 0 0, .int .i64 4])) := by
 obtain ⟨a', cap', e, hY⟩ := cons_zero (hM.row q _ hq)
 rw [e]
 have n1 : lenC x ≤ 1000 := by have := hx; simp only [setsLit, Bool.and_eq_true] at this; exact rowOk_n this.1
 exact least_err _ a' (lenC x) 1153 (capC x) cap' _ _ _ _ _ _ 4 w (by unfold maxLen; omega) (by simp [maxLen]) (ask_much (.inr (.inl (by omega)))) (by decide) (setsLit_at hM hx) hY
set_option maxRecDepth 100000 in
set_option maxHeartbeats 64000000 in
theorem snamesL (w : World) :
 Calls Tryz.prog 7 #[] w (Ret w (.bool true)) := by
 refine go_start (args := []) (c := NoRows) Tryz.func7 rfl (noRows_ok _) rfl rfl ?_
 obtain ⟨nd, hnd, nt, hnt, ar, har, cm, hcm, mx, hmx, mn, hmn, ar01, ar12, zpl, hzpl, zjn, hzjn, zup, hzup, zmi, hzmi, zdp, hzdp, hT⟩ := t0_all
 subst hnd hnt har hcm hmx hmn hzpl hzjn hzup hzmi hzdp
 repeat' (first
  | refine go1 ?_ | refine gobt ?_ | refine gobn ?_ | refine go3 (fun hlt => ?_) (fun hge => ?_) | refine go2 (fun h => ?_) (fun h => ?_) | exact go0 | refine god ?_ | refine gof ?_ | refine gob ?_ | (with_reducible refine fork_cons ?_ ?_)
  | ((with_reducible apply go_inline (f := 41) (hf := Tryz.func41) (hr := Tryz.results41) (hcall := Tryz.call41)); (· rfl); (· (cbv; try rfl)))
  | (((apply go_callRv (dst := some 40) (f := 42) (hf := Tryz.call42)); (· intro S; cbv; try rfl); (· intro wc S hbc hxc hrc; exact leastNm _ wc _ (hrc _ _ rfl))))
  | (((apply go_callBv (dst := some 46) (f := 42) (hf := Tryz.call42)); (· intro S B; cbv; try rfl); (· intro wc S B hbc hxc hM; exact leastNb hM _ _ rfl rfl)))
  | (((apply go_callBv (dst := some 52) (f := 42) (hf := Tryz.call42)); (· intro S B; cbv; try rfl); (· intro wc S B hbc hxc hM; exact leastNc hM (.sl 3 0 3 3) 2 (by kernel_rfl) rfl)))
  | (((apply go_leastLit (dst := some 58) 2); (· (intro S B; cbv; try rfl)); (· kernel_rfl); (· kernel_rfl); (· kernel_rfl); (· decide)))
  | (((apply go_leastLit (dst := some 65) 2); (· (intro S B; cbv; try rfl)); (· kernel_rfl); (· kernel_rfl); (· kernel_rfl); (· decide)))
  | (((apply go_leastLit (dst := some 72) 2); (· (intro S B; cbv; try rfl)); (· kernel_rfl); (· kernel_rfl); (· kernel_rfl); (· decide)))
  | (((apply go_leastLit (dst := some 78) 2); (· (intro S B; cbv; try rfl)); (· kernel_rfl); (· kernel_rfl); (· kernel_rfl); (· decide)))
  | (((apply go_holdsLit (dst := some 85) false 2); (· (intro S B; cbv; try rfl)); (· kernel_rfl); (· kernel_rfl); (· kernel_rfl); (· kernel_rfl); (· kernel_rfl)))
  | (((apply go_holdsLit (dst := some 91) false 2); (· (intro S B; cbv; try rfl)); (· kernel_rfl); (· kernel_rfl); (· kernel_rfl); (· kernel_rfl); (· kernel_rfl)))
  | (((apply go_callR (dst := some 95) (f := 42) (hf := Tryz.call42)); (· intro S; cbv; try rfl); (· intro wc S hbc hxc hrc; exact leastNj _ wc); (· rfl)))
  | (((apply go_callR (dst := some 101) (f := 42) (hf := Tryz.call42)); (· intro S; cbv; try rfl); (· intro wc S hbc hxc hrc; exact leastNk _ _ wc _ _ (hrc _ _ rfl) (hrc _ _ rfl)); (· rfl)))
  | (((apply go_holdsLit (dst := some 109) false 0); (· (intro S B; cbv; try rfl)); (· kernel_rfl); (· kernel_rfl); (· kernel_rfl); (· kernel_rfl); (· kernel_rfl)))
  | (((apply go_holdsLit (dst := some 119) false 0); (· (intro S B; cbv; try rfl)); (· kernel_rfl); (· kernel_rfl); (· kernel_rfl); (· kernel_rfl); (· kernel_rfl)))
  | (((apply go_holdsLit (dst := some 129) true 0); (· (intro S B; cbv; try rfl)); (· kernel_rfl); (· kernel_rfl); (· kernel_rfl); (· kernel_rfl); (· kernel_rfl)))
  | (((apply go_regionsNo 8); (· (intro S B; cbv; try rfl)); (· kernel_rfl); (· (intro B; kernel_rfl)); (· decide)))
  | (((apply go_chkNo20 8); (· (intro S B; cbv; try rfl)); (· kernel_rfl); (· (intro B; kernel_rfl)); (· (intro B; rfl))))
  | ((with_reducible apply go_call (f := 44) (hf := Tryz.call44)); (· (cbv; try rfl)); (· intro wc hbc hxc; exact alive_any wc))
  | ((with_reducible apply go_callq (f := 44) (hf := Tryz.call44)); (· (cbv; try rfl)); (· intro wc hbc hxc; exact alive_any wc))
  | (fail)
  | fail)
 all_goals rfl
end Go.Proofs.YtmceonmlgcbcmaaGreat
