/- Layer 5 of the reference: which locals a statement uses. No condition. -/
import Derived.Test.YtmceonmlgcbcmaaGreatLwE
namespace Go.Proofs.YtmceonmlgcbcmaaGreat
set_option maxRecDepth 100000
open Go.RowKit
set_option linter.unusedVariables false
set_option linter.unusedSimpArgs false
theorem rvU_lo {r : GRv} (hs : r.ok = true) : ∀ x ∈ rvU r, 0 ≤ x := fun x hx => by
 have hk := ok_rvK hs
 have ha : r.k = 1 ∨ r.k = 2 ∨ r.k = 3 → r.a.k ≠ 1 → 0 ≤ r.a.p.l ∧ r.a.p.l < 16 := fun g h => by
  refine oper_in ?_ h
  simp only [GRv.ok, Bool.or_eq_true, Bool.and_eq_true, beq_iff_eq] at hs
  grind
 have hb : r.k = 2 ∨ r.k = 3 → r.b.k ≠ 1 → 0 ≤ r.b.p.l ∧ r.b.p.l < 16 := fun g h => by
  refine oper_in ?_ h
  simp only [GRv.ok, Bool.or_eq_true, Bool.and_eq_true, beq_iff_eq] at hs
  grind
 have hp : r.k = 4 ∨ r.k = 5 → 0 ≤ r.p.l ∧ r.p.l < 16 := fun g => by
  refine place_in ?_
  simp only [GRv.ok, Bool.or_eq_true, Bool.and_eq_true, beq_iff_eq] at hs
  grind
 have ho : ∀ o : GOper, x ∈ opU o → o.k ≠ 1 ∧ x = o.p.l := fun o h => by
  unfold opU at h
  split at h
  · simp at h
  · rename_i g; exact ⟨g, List.mem_singleton.1 h⟩
 unfold rvU at hx
 unfold rvK at hk
 split at hx
 · rename_i g
   have := ho _ hx
   rw [this.2]; exact (ha (.inl g) this.1).1
 · rename_i g
   split at hx
   · rename_i g2
     rcases List.mem_append.1 hx with hx | hx
     · have := ho _ hx
       rw [this.2]; exact (ha (.inr g2) this.1).1
     · have := ho _ hx
       rw [this.2]; exact (hb g2 this.1).1
   · rename_i g2
     rw [List.mem_singleton.1 hx]
     exact (hp (by omega)).1
theorem rWhole05C (l f : Int) (d : Bool) (w : World) :
 Calls Tryz.prog 185 #[.agg #[.int .i64 l, .bool d, .int .u8 f]] w (Ret w (.bool (wholeP ⟨l, d, f⟩))) := by
 refine go_start (args := [.pt (.agg [.int .i64 l, .bool d, .int .u8 f])]) (c := NoRows) Tryz.func185 rfl (noRows_ok _) rfl rfl ?_
 obtain ⟨nd, hnd, nt, hnt, ar, har, cm, hcm, mx, hmx, mn, hmn, ar01, ar12, zpl, hzpl, zjn, hzjn, zup, hzup, zmi, hzmi, zdp, hzdp, hT⟩ := t0_all
 repeat' (first
  | refine go1 ?_ | refine go2 (fun h => ?_) (fun h => ?_)
  | fail)
 all_goals
  subst hnd hnt hcm
  refine bool_eq ?_
  grind [wholeP]
set_option maxHeartbeats 8000000 in
theorem rUsed05C (s : GStmt) (hs : s.ok = true) (w : World) :
 Calls Tryz.prog 161 #[s.val] w (Ret w (arrV (usS s))) := by
 have hk : s.k = 1 ∨ s.k = 2 ∨ s.k = 3 ∨ s.k = 4 := by
  simp only [GStmt.ok, Bool.or_eq_true, Bool.and_eq_true, beq_iff_eq] at hs
  omega
 have hin := ok_stAll hs
 have hr : s.k = 1 → s.r.ok = true ∧ s.a.k = 0 := fun g => by
  simp only [GStmt.ok, GOper.eqB, GOper.zero, Bool.or_eq_true, Bool.and_eq_true, beq_iff_eq] at hs
  grind
 have ho : s.k = 2 ∨ s.k = 4 → s.a.k = 1 ∨ s.a.k = 2 ∨ s.a.k = 3 := fun g => by
  have : s.a.ok = true := by
   simp only [GStmt.ok, Bool.or_eq_true, Bool.and_eq_true, beq_iff_eq] at hs
   grind
  exact ok_opK this
 by_cases h1 : s.k = 1
 · have hr := hr h1
   have h4 (wc : World) := rUsed04C s.r hr.1 wc
   have h5 (wc : World) := rWhole05C s.p.l s.p.f s.p.d wc
   have hp := (hin.2.2 h1).1
   obtain ⟨U, hU⟩ : ∃ U, U = putB (rvU s.r) (fun _ => false) := ⟨_, rfl⟩
   obtain ⟨z, hz⟩ : ∃ z, z = wholeP s.p := ⟨_, rfl⟩
   obtain ⟨y, hy⟩ : ∃ y, y = if z = true then U else turn U s.p.l.toNat true := ⟨_, rfl⟩
   have e : arrV (usS s) = arrV y := arrV_ext fun l _ => by
    unfold usS
    rw [hy, hU, decide_eq_false (by omega), ← hz]
    have hs1 : stR s = s.r := by unfold stR; rw [if_pos h1]
    rw [hs1]
    have hlo := rvU_lo hr.1
    cases z
    · simp only [Bool.false_eq_true, if_false, turn]
      rw [putB_has _ _ _ hlo]
      by_cases g : l = s.p.l.toNat
      · have g2 : s.p.l = Int.ofNat l := by simp only [Int.ofNat_eq_natCast]; omega
        rw [if_pos g, decide_eq_true g2]; simp
      · have g2 : ¬ s.p.l = Int.ofNat l := fun e => g (by rw [e]; rfl)
        rw [if_neg g, decide_eq_false g2]; simp
    · simp only [if_true]
      rw [putB_has _ _ _ hlo]; simp
   rw [e]
   have hw : wholeP ⟨s.p.l, s.p.d, s.p.f⟩ = z := hz.symm
   rw [hw] at h5
   rw [← hU] at h4
   clear e hU hz hin hk hs ho hw
   obtain ⟨yk, ⟨ql, qd, qf⟩, ⟨rk, ro, rb, ⟨ak, an, ⟨al, ad, af⟩⟩, ⟨ek, en, ⟨el, ed, ef⟩⟩, ⟨gl, gd, gf⟩⟩, ⟨ck, cn, ⟨cl, cd, cf⟩⟩, yl⟩ := s
   simp only at h1 h4 h5 hp hr hy
   have hck := hr.2
   clear hr
   subst h1 hck
   cases z
   all_goals
    simp at hy
    refine go_start (args := [.pt (.agg [.int .u8 1, .int .i64 ql, .bool qd, .int .u8 qf, .int .u8 rk, .int .u8 ro, .int .u8 rb, .int .u8 ak, .int .i64 an, .int .i64 al, .bool ad, .int .u8 af, .int .u8 ek, .int .i64 en, .int .i64 el, .bool ed, .int .u8 ef, .int .i64 gl, .bool gd, .int .u8 gf, .int .u8 0, .int .i64 cn, .int .i64 cl, .bool cd, .int .u8 cf, .int .i64 yl])]) (c := NoRows) Tryz.func161 rfl (noRows_ok _) rfl rfl ?_
    obtain ⟨nd, hnd, nt, hnt, ar, har, cm, hcm, mx, hmx, mn, hmn, ar01, ar12, zpl, hzpl, zjn, hzjn, zup, hzup, zmi, hzmi, zdp, hzdp, hT⟩ := t0_all
    repeat' (first
     | refine go1 ?_ | refine gobt ?_ | refine gobn ?_ | refine gof ?_
     | ((with_reducible apply go_call (f := 184) (hf := Tryz.call184)); (· (cbv; try rfl)); (· intro wc hbc hxc; exact h4 wc))
     | ((with_reducible apply go_call (f := 185) (hf := Tryz.call185)); (· (cbv; try rfl)); (· intro wc hbc hxc; exact h5 wc))
     | ((with_reducible apply go_inline (f := 135) (hf := Tryz.func135) (hr := Tryz.results135) (hcall := Tryz.call135)); (· rfl); (· (cbv; try rfl)))
     | (((with_reducible apply go_askB (arrB y)); (· exact lt_of_eq_of_lt (off2 ql) (by have := hp; show _ < 16; omega)); (· have hq := arrB_putL U true (o := ql.toNat) (by have := hp; omega); rw [hy]; exact Eq.mpr (congrArg (fun o => leCL (pasteL (arrB U) o [.lit true]) (arrB (turn U ql.toNat true))) (off2 ql)) hq); (· rfl); (· simp)))
     | fail)
   all_goals (first | rfl | (rw [hy]; rfl))
 have hst : stR s = ⟨1, 0, 0, s.a, .zero, .zero⟩ := by unfold stR; rw [if_neg h1]
 have hw : s.k ≠ 3 → wholeP s.p = true := fun h3 => by
  simp only [GStmt.ok, GPlace.eqB, GPlace.zero, Bool.or_eq_true, Bool.and_eq_true, beq_iff_eq] at hs
  have : s.p.d = false ∧ s.p.f = 0 := by grind
  simp [wholeP, this.1, this.2]
 by_cases h3 : s.k = 3
 · have hck : s.a.k = 0 := by
    simp only [GStmt.ok, GOper.eqB, GOper.zero, Bool.or_eq_true, Bool.and_eq_true, beq_iff_eq] at hs
    grind
   have e : arrV (usS s) = arrV (fun _ => false) := arrV_ext fun l _ => by unfold usS; rw [decide_eq_true h3]; rfl
   rw [e]
   clear e hw hst hr ho hin hk hs h1
   obtain ⟨yk, ⟨ql, qd, qf⟩, ⟨rk, ro, rb, ⟨ak, an, ⟨al, ad, af⟩⟩, ⟨ek, en, ⟨el, ed, ef⟩⟩, ⟨gl, gd, gf⟩⟩, ⟨ck, cn, ⟨cl, cd, cf⟩⟩, yl⟩ := s
   simp only at h3 hck
   subst h3 hck
   refine go_start (args := [.pt (.agg [.int .u8 3, .int .i64 ql, .bool qd, .int .u8 qf, .int .u8 rk, .int .u8 ro, .int .u8 rb, .int .u8 ak, .int .i64 an, .int .i64 al, .bool ad, .int .u8 af, .int .u8 ek, .int .i64 en, .int .i64 el, .bool ed, .int .u8 ef, .int .i64 gl, .bool gd, .int .u8 gf, .int .u8 0, .int .i64 cn, .int .i64 cl, .bool cd, .int .u8 cf, .int .i64 yl])]) (c := NoRows) Tryz.func161 rfl (noRows_ok _) rfl rfl ?_
   obtain ⟨nd, hnd, nt, hnt, ar, har, cm, hcm, mx, hmx, mn, hmn, ar01, ar12, zpl, hzpl, zjn, hzjn, zup, hzup, zmi, hzmi, zdp, hzdp, hT⟩ := t0_all
   repeat' (first
    | refine go1 ?_ | refine gobt ?_
    | ((with_reducible apply go_inline (f := 135) (hf := Tryz.func135) (hr := Tryz.results135) (hcall := Tryz.call135)); (· rfl); (· (cbv; try rfl)))
    | fail)
   all_goals rfl
 · have h24 : s.k = 2 ∨ s.k = 4 := by omega
   replace ho := ho h24
   have hp := hin.2.1 h24
   obtain ⟨y, hy⟩ : ∃ y : Nat → Bool, y = if s.a.k = 1 then (fun _ => false) else turn (fun _ => false) s.a.p.l.toNat true := ⟨_, rfl⟩
   have e : arrV (usS s) = arrV y := arrV_ext fun l _ => by
    unfold usS
    rw [hy, decide_eq_false h3, hw h3, hst]
    unfold rvU opU
    by_cases g : s.a.k = 1
    · simp [g]
    · have hl := hp g
      simp only [if_true, if_neg g, turn]
      by_cases g3 : l = s.a.p.l.toNat
      · have g2 : Int.ofNat l = s.a.p.l := by simp only [Int.ofNat_eq_natCast]; omega
        rw [if_pos g3, g2]; simp
      · have g2 : ¬ (l : Int) = s.a.p.l := fun e => g3 (by rw [← e]; rfl)
        rw [if_neg g3]; simp [g2]
   rw [e]
   clear e hw hst hr hin hk hs
   obtain ⟨yk, ⟨ql, qd, qf⟩, ⟨rk, ro, rb, ⟨ak, an, ⟨al, ad, af⟩⟩, ⟨ek, en, ⟨el, ed, ef⟩⟩, ⟨gl, gd, gf⟩⟩, ⟨ck, cn, ⟨cl, cd, cf⟩⟩, yl⟩ := s
   simp only at h1 h3 h24 ho hp hy
   clear h1 h3
   rcases h24 with rfl | rfl <;> rcases ho with rfl | rfl | rfl
   · simp at hy
     refine go_start (args := [.pt (.agg [.int .u8 2, .int .i64 ql, .bool qd, .int .u8 qf, .int .u8 rk, .int .u8 ro, .int .u8 rb, .int .u8 ak, .int .i64 an, .int .i64 al, .bool ad, .int .u8 af, .int .u8 ek, .int .i64 en, .int .i64 el, .bool ed, .int .u8 ef, .int .i64 gl, .bool gd, .int .u8 gf, .int .u8 1, .int .i64 cn, .int .i64 cl, .bool cd, .int .u8 cf, .int .i64 yl])]) (c := NoRows) Tryz.func161 rfl (noRows_ok _) rfl rfl ?_
     obtain ⟨nd, hnd, nt, hnt, ar, har, cm, hcm, mx, hmx, mn, hmn, ar01, ar12, zpl, hzpl, zjn, hzjn, zup, hzup, zmi, hzmi, zdp, hzdp, hT⟩ := t0_all
     repeat' (first
      | refine go1 ?_ | refine gobt ?_
      | ((with_reducible apply go_inline (f := 135) (hf := Tryz.func135) (hr := Tryz.results135) (hcall := Tryz.call135)); (· rfl); (· (cbv; try rfl)))
      | fail)
     all_goals (rw [hy]; rfl)
   · simp at hy
     have hx := hp (by decide)
     refine go_start (args := [.pt (.agg [.int .u8 2, .int .i64 ql, .bool qd, .int .u8 qf, .int .u8 rk, .int .u8 ro, .int .u8 rb, .int .u8 ak, .int .i64 an, .int .i64 al, .bool ad, .int .u8 af, .int .u8 ek, .int .i64 en, .int .i64 el, .bool ed, .int .u8 ef, .int .i64 gl, .bool gd, .int .u8 gf, .int .u8 2, .int .i64 cn, .int .i64 cl, .bool cd, .int .u8 cf, .int .i64 yl])]) (c := NoRows) Tryz.func161 rfl (noRows_ok _) rfl rfl ?_
     obtain ⟨nd, hnd, nt, hnt, ar, har, cm, hcm, mx, hmx, mn, hmn, ar01, ar12, zpl, hzpl, zjn, hzjn, zup, hzup, zmi, hzmi, zdp, hzdp, hT⟩ := t0_all
     repeat' (first
      | refine go1 ?_ | refine gobt ?_ | refine gof ?_
      | ((with_reducible apply go_inline (f := 135) (hf := Tryz.func135) (hr := Tryz.results135) (hcall := Tryz.call135)); (· rfl); (· (cbv; try rfl)))
      | (((with_reducible apply go_askB (arrB y)); (· exact lt_of_eq_of_lt (off2 cl) (by have := hx; show _ < 16; omega)); (· have hq := arr0_putL true (o := cl.toNat) (by have := hx; omega); rw [hy]; (have ho := off2 cl); refine (congrArg (fun o => leCL (pasteL [.lit false, .lit false, .lit false, .lit false, .lit false, .lit false, .lit false, .lit false, .lit false, .lit false, .lit false, .lit false, .lit false, .lit false, .lit false, .lit false] o [.lit true]) (arrB (turn (fun _ => false) cl.toNat true))) ho).mpr hq); (· rfl); (· simp)))
      | fail)
     all_goals rfl
   · simp at hy
     have hx := hp (by decide)
     refine go_start (args := [.pt (.agg [.int .u8 2, .int .i64 ql, .bool qd, .int .u8 qf, .int .u8 rk, .int .u8 ro, .int .u8 rb, .int .u8 ak, .int .i64 an, .int .i64 al, .bool ad, .int .u8 af, .int .u8 ek, .int .i64 en, .int .i64 el, .bool ed, .int .u8 ef, .int .i64 gl, .bool gd, .int .u8 gf, .int .u8 3, .int .i64 cn, .int .i64 cl, .bool cd, .int .u8 cf, .int .i64 yl])]) (c := NoRows) Tryz.func161 rfl (noRows_ok _) rfl rfl ?_
     obtain ⟨nd, hnd, nt, hnt, ar, har, cm, hcm, mx, hmx, mn, hmn, ar01, ar12, zpl, hzpl, zjn, hzjn, zup, hzup, zmi, hzmi, zdp, hzdp, hT⟩ := t0_all
     repeat' (first
      | refine go1 ?_ | refine gobt ?_ | refine gof ?_
      | ((with_reducible apply go_inline (f := 135) (hf := Tryz.func135) (hr := Tryz.results135) (hcall := Tryz.call135)); (· rfl); (· (cbv; try rfl)))
      | (((with_reducible apply go_askB (arrB y)); (· exact lt_of_eq_of_lt (off2 cl) (by have := hx; show _ < 16; omega)); (· have hq := arr0_putL true (o := cl.toNat) (by have := hx; omega); rw [hy]; (have ho := off2 cl); refine (congrArg (fun o => leCL (pasteL [.lit false, .lit false, .lit false, .lit false, .lit false, .lit false, .lit false, .lit false, .lit false, .lit false, .lit false, .lit false, .lit false, .lit false, .lit false, .lit false] o [.lit true]) (arrB (turn (fun _ => false) cl.toNat true))) ho).mpr hq); (· rfl); (· simp)))
      | fail)
     all_goals rfl
   · simp at hy
     refine go_start (args := [.pt (.agg [.int .u8 4, .int .i64 ql, .bool qd, .int .u8 qf, .int .u8 rk, .int .u8 ro, .int .u8 rb, .int .u8 ak, .int .i64 an, .int .i64 al, .bool ad, .int .u8 af, .int .u8 ek, .int .i64 en, .int .i64 el, .bool ed, .int .u8 ef, .int .i64 gl, .bool gd, .int .u8 gf, .int .u8 1, .int .i64 cn, .int .i64 cl, .bool cd, .int .u8 cf, .int .i64 yl])]) (c := NoRows) Tryz.func161 rfl (noRows_ok _) rfl rfl ?_
     obtain ⟨nd, hnd, nt, hnt, ar, har, cm, hcm, mx, hmx, mn, hmn, ar01, ar12, zpl, hzpl, zjn, hzjn, zup, hzup, zmi, hzmi, zdp, hzdp, hT⟩ := t0_all
     repeat' (first
      | refine go1 ?_ | refine gobt ?_
      | ((with_reducible apply go_inline (f := 135) (hf := Tryz.func135) (hr := Tryz.results135) (hcall := Tryz.call135)); (· rfl); (· (cbv; try rfl)))
      | fail)
     all_goals (rw [hy]; rfl)
   · simp at hy
     have hx := hp (by decide)
     refine go_start (args := [.pt (.agg [.int .u8 4, .int .i64 ql, .bool qd, .int .u8 qf, .int .u8 rk, .int .u8 ro, .int .u8 rb, .int .u8 ak, .int .i64 an, .int .i64 al, .bool ad, .int .u8 af, .int .u8 ek, .int .i64 en, .int .i64 el, .bool ed, .int .u8 ef, .int .i64 gl, .bool gd, .int .u8 gf, .int .u8 2, .int .i64 cn, .int .i64 cl, .bool cd, .int .u8 cf, .int .i64 yl])]) (c := NoRows) Tryz.func161 rfl (noRows_ok _) rfl rfl ?_
     obtain ⟨nd, hnd, nt, hnt, ar, har, cm, hcm, mx, hmx, mn, hmn, ar01, ar12, zpl, hzpl, zjn, hzjn, zup, hzup, zmi, hzmi, zdp, hzdp, hT⟩ := t0_all
     repeat' (first
      | refine go1 ?_ | refine gobt ?_ | refine gof ?_
      | ((with_reducible apply go_inline (f := 135) (hf := Tryz.func135) (hr := Tryz.results135) (hcall := Tryz.call135)); (· rfl); (· (cbv; try rfl)))
      | (((with_reducible apply go_askB (arrB y)); (· exact lt_of_eq_of_lt (off2 cl) (by have := hx; show _ < 16; omega)); (· have hq := arr0_putL true (o := cl.toNat) (by have := hx; omega); rw [hy]; (have ho := off2 cl); refine (congrArg (fun o => leCL (pasteL [.lit false, .lit false, .lit false, .lit false, .lit false, .lit false, .lit false, .lit false, .lit false, .lit false, .lit false, .lit false, .lit false, .lit false, .lit false, .lit false] o [.lit true]) (arrB (turn (fun _ => false) cl.toNat true))) ho).mpr hq); (· rfl); (· simp)))
      | fail)
     all_goals rfl
   · simp at hy
     have hx := hp (by decide)
     refine go_start (args := [.pt (.agg [.int .u8 4, .int .i64 ql, .bool qd, .int .u8 qf, .int .u8 rk, .int .u8 ro, .int .u8 rb, .int .u8 ak, .int .i64 an, .int .i64 al, .bool ad, .int .u8 af, .int .u8 ek, .int .i64 en, .int .i64 el, .bool ed, .int .u8 ef, .int .i64 gl, .bool gd, .int .u8 gf, .int .u8 3, .int .i64 cn, .int .i64 cl, .bool cd, .int .u8 cf, .int .i64 yl])]) (c := NoRows) Tryz.func161 rfl (noRows_ok _) rfl rfl ?_
     obtain ⟨nd, hnd, nt, hnt, ar, har, cm, hcm, mx, hmx, mn, hmn, ar01, ar12, zpl, hzpl, zjn, hzjn, zup, hzup, zmi, hzmi, zdp, hzdp, hT⟩ := t0_all
     repeat' (first
      | refine go1 ?_ | refine gobt ?_ | refine gof ?_
      | ((with_reducible apply go_inline (f := 135) (hf := Tryz.func135) (hr := Tryz.results135) (hcall := Tryz.call135)); (· rfl); (· (cbv; try rfl)))
      | (((with_reducible apply go_askB (arrB y)); (· exact lt_of_eq_of_lt (off2 cl) (by have := hx; show _ < 16; omega)); (· have hq := arr0_putL true (o := cl.toNat) (by have := hx; omega); rw [hy]; (have ho := off2 cl); refine (congrArg (fun o => leCL (pasteL [.lit false, .lit false, .lit false, .lit false, .lit false, .lit false, .lit false, .lit false, .lit false, .lit false, .lit false, .lit false, .lit false, .lit false, .lit false, .lit false] o [.lit true]) (arrB (turn (fun _ => false) cl.toNat true))) ho).mpr hq); (· rfl); (· simp)))
      | fail)
     all_goals rfl
end Go.Proofs.YtmceonmlgcbcmaaGreat
