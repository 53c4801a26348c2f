/- Layer 4 of the reference: which locals an rvalue uses. No condition. -/
import Derived.Test.YtmceonmlgcbcmaaGreatLvP
namespace Go.Proofs.YtmceonmlgcbcmaaGreat
open Go.RowKit
set_option linter.unusedVariables false
set_option linter.unusedSimpArgs false
def putB : List Int → (Nat → Bool) → Nat → Bool
 | [], f => f
 | x :: l, f => putB l (turn f x.toNat true)
theorem putB_has : ∀ (zs : List Int) (f : Nat → Bool) (l : Nat), (∀ x ∈ zs, 0 ≤ x) → putB zs f l = (f l || zs.contains (Int.ofNat l))
 | [], f, l, _ => by simp [putB]
 | x :: zs, f, l, h => by
   rw [putB, putB_has zs _ l (fun y hy => h y (List.mem_cons_of_mem _ hy))]
   have hx := h x (by simp)
   unfold turn
   by_cases e : l = x.toNat
   · have e2 : Int.ofNat l = x := by simp only [Int.ofNat_eq_natCast]; omega
     rw [if_pos e, e2]; simp
   · have e2 : ¬ Int.ofNat l = x := fun g => e (by rw [← g]; rfl)
     have e3 : ¬ (l : Int) = x := e2
     rw [if_neg e]
     simp [e3]
theorem arrV_ext {f g : Nat → Bool} (h : ∀ l, l < 16 → f l = g l) : arrV f = arrV g := by
 unfold arrV
 rw [h 0 (by decide), h 1 (by decide), h 2 (by decide), h 3 (by decide), h 4 (by decide), h 5 (by decide), h 6 (by decide), h 7 (by decide), h 8 (by decide), h 9 (by decide), h 10 (by decide), h 11 (by decide), h 12 (by decide), h 13 (by decide), h 14 (by decide), h 15 (by decide)]
set_option maxRecDepth 100000 in
set_option maxHeartbeats 8000000 in
theorem rUsed04C (r : GRv) (hs : r.ok = true) (w : World) :
 Calls Tryz.prog 184 #[r.val] w (Ret w (arrV (putB (rvU r) (fun _ => false)))) := by
 have hk := ok_rvK hs
 have ha : r.k = 1 ∨ r.k = 2 ∨ r.k = 3 → r.a.k ≠ 1 → 0 ≤ r.a.p.l ∧ r.a.p.l < 16 := fun g h => by
  refine oper_in ?_ h
  simp only [GRv.ok, Bool.or_eq_true, Bool.and_eq_true, beq_iff_eq] at hs
  grind
 have hb : r.k = 2 ∨ r.k = 3 → r.b.k ≠ 1 → 0 ≤ r.b.p.l ∧ r.b.p.l < 16 := fun g h => by
  refine oper_in ?_ h
  simp only [GRv.ok, Bool.or_eq_true, Bool.and_eq_true, beq_iff_eq] at hs
  grind
 have hp : r.k = 4 ∨ r.k = 5 → 0 ≤ r.p.l ∧ r.p.l < 16 := fun g => by
  refine place_in ?_
  simp only [GRv.ok, Bool.or_eq_true, Bool.and_eq_true, beq_iff_eq] at hs
  grind
 clear hs
 unfold rvK opK at hk
 obtain ⟨y, hy⟩ : ∃ y, y = putB (rvU r) (fun _ => false) := ⟨_, rfl⟩
 rw [← hy]
 unfold rvU opU at hy
 obtain ⟨rk, ro, rb, ⟨ak, an, ⟨al, ad, af⟩⟩, ⟨ek, en, ⟨el, ed, ef⟩⟩, ⟨gl, gd, gf⟩⟩ := r
 simp only at hk ha hb hp hy
 rcases hk with ⟨rfl, h⟩ | ⟨h0, h, h2⟩ | rfl | rfl
 · have ha := ha (.inl rfl)
   clear hb hp
   rcases h with rfl | rfl | rfl
   · simp [putB] at hy
     refine go_start (args := [.pt (.agg [.int .u8 1, .int .u8 ro, .int .u8 rb, .int .u8 1, .int .i64 an, .int .i64 al, .bool ad, .int .u8 af, .int .u8 ek, .int .i64 en, .int .i64 el, .bool ed, .int .u8 ef, .int .i64 gl, .bool gd, .int .u8 gf])]) (c := NoRows) Tryz.func184 rfl (noRows_ok _) rfl rfl ?_
     obtain ⟨nd, hnd, nt, hnt, ar, har, cm, hcm, mx, hmx, mn, hmn, ar01, ar12, zpl, hzpl, zjn, hzjn, zup, hzup, zmi, hzmi, zdp, hzdp, hT⟩ := t0_all
     repeat' (first
      | ((with_reducible apply go_ev hT 400); (· (cbv; try rfl)); (fail_if_success with_reducible apply stuck_id); (try simp only [ar01, ar12]))
      | refine go1 ?_ | refine gobt ?_ | refine gof ?_
      | ((with_reducible apply go_inline (f := 106) (hf := Tryz.func106) (hr := Tryz.results106) (hcall := Tryz.call106)); (· rfl); (· (cbv; try rfl)))
      | ((with_reducible apply go_inline (f := 135) (hf := Tryz.func135) (hr := Tryz.results135) (hcall := Tryz.call135)); (· rfl); (· (cbv; try rfl)))
      | (with_reducible apply go_rounds 3)
      | fail)
     all_goals (rw [hy]; rfl)
   · simp [putB] at hy
     have hx := ha (by decide)
     refine go_start (args := [.pt (.agg [.int .u8 1, .int .u8 ro, .int .u8 rb, .int .u8 2, .int .i64 an, .int .i64 al, .bool ad, .int .u8 af, .int .u8 ek, .int .i64 en, .int .i64 el, .bool ed, .int .u8 ef, .int .i64 gl, .bool gd, .int .u8 gf])]) (c := NoRows) Tryz.func184 rfl (noRows_ok _) rfl rfl ?_
     obtain ⟨nd, hnd, nt, hnt, ar, har, cm, hcm, mx, hmx, mn, hmn, ar01, ar12, zpl, hzpl, zjn, hzjn, zup, hzup, zmi, hzmi, zdp, hzdp, hT⟩ := t0_all
     repeat' (first
      | ((with_reducible apply go_ev hT 400); (· (cbv; try rfl)); (fail_if_success with_reducible apply stuck_id); (try simp only [ar01, ar12]))
      | refine go1 ?_ | refine gobt ?_ | refine gof ?_
      | ((with_reducible apply go_inline (f := 106) (hf := Tryz.func106) (hr := Tryz.results106) (hcall := Tryz.call106)); (· rfl); (· (cbv; try rfl)))
      | ((with_reducible apply go_inline (f := 135) (hf := Tryz.func135) (hr := Tryz.results135) (hcall := Tryz.call135)); (· rfl); (· (cbv; try rfl)))
      | (with_reducible apply go_rounds 3)
      | (((with_reducible apply go_askB (arrB y)); (· exact lt_of_eq_of_lt (off2 al) (by have := hx; show _ < 16; omega)); (· have hq := arr0_putL true (o := al.toNat) (by have := hx; omega); rw [hy]; (have ho := off2 al); refine (congrArg (fun o => leCL (pasteL [.lit false, .lit false, .lit false, .lit false, .lit false, .lit false, .lit false, .lit false, .lit false, .lit false, .lit false, .lit false, .lit false, .lit false, .lit false, .lit false] o [.lit true]) (arrB (turn (fun _ => false) al.toNat true))) ho).mpr hq); (· rfl); (· simp)))
      | fail)
     all_goals rfl
   · simp [putB] at hy
     have hx := ha (by decide)
     refine go_start (args := [.pt (.agg [.int .u8 1, .int .u8 ro, .int .u8 rb, .int .u8 3, .int .i64 an, .int .i64 al, .bool ad, .int .u8 af, .int .u8 ek, .int .i64 en, .int .i64 el, .bool ed, .int .u8 ef, .int .i64 gl, .bool gd, .int .u8 gf])]) (c := NoRows) Tryz.func184 rfl (noRows_ok _) rfl rfl ?_
     obtain ⟨nd, hnd, nt, hnt, ar, har, cm, hcm, mx, hmx, mn, hmn, ar01, ar12, zpl, hzpl, zjn, hzjn, zup, hzup, zmi, hzmi, zdp, hzdp, hT⟩ := t0_all
     repeat' (first
      | ((with_reducible apply go_ev hT 400); (· (cbv; try rfl)); (fail_if_success with_reducible apply stuck_id); (try simp only [ar01, ar12]))
      | refine go1 ?_ | refine gobt ?_ | refine gof ?_
      | ((with_reducible apply go_inline (f := 106) (hf := Tryz.func106) (hr := Tryz.results106) (hcall := Tryz.call106)); (· rfl); (· (cbv; try rfl)))
      | ((with_reducible apply go_inline (f := 135) (hf := Tryz.func135) (hr := Tryz.results135) (hcall := Tryz.call135)); (· rfl); (· (cbv; try rfl)))
      | (with_reducible apply go_rounds 3)
      | (((with_reducible apply go_askB (arrB y)); (· exact lt_of_eq_of_lt (off2 al) (by have := hx; show _ < 16; omega)); (· have hq := arr0_putL true (o := al.toNat) (by have := hx; omega); rw [hy]; (have ho := off2 al); refine (congrArg (fun o => leCL (pasteL [.lit false, .lit false, .lit false, .lit false, .lit false, .lit false, .lit false, .lit false, .lit false, .lit false, .lit false, .lit false, .lit false, .lit false, .lit false, .lit false] o [.lit true]) (arrB (turn (fun _ => false) al.toNat true))) ho).mpr hq); (· rfl); (· simp)))
      | fail)
     all_goals rfl
 · rcases h0 with rfl | rfl
   · have ha := ha (.inr (.inl rfl))
     have hb := hb (.inl rfl)
     clear hp
     rcases h with rfl | rfl | rfl
     · rcases h2 with rfl | rfl | rfl
       · simp [putB] at hy
         refine go_start (args := [.pt (.agg [.int .u8 2, .int .u8 ro, .int .u8 rb, .int .u8 1, .int .i64 an, .int .i64 al, .bool ad, .int .u8 af, .int .u8 1, .int .i64 en, .int .i64 el, .bool ed, .int .u8 ef, .int .i64 gl, .bool gd, .int .u8 gf])]) (c := NoRows) Tryz.func184 rfl (noRows_ok _) rfl rfl ?_
         obtain ⟨nd, hnd, nt, hnt, ar, har, cm, hcm, mx, hmx, mn, hmn, ar01, ar12, zpl, hzpl, zjn, hzjn, zup, hzup, zmi, hzmi, zdp, hzdp, hT⟩ := t0_all
         repeat' (first
          | ((with_reducible apply go_ev hT 400); (· (cbv; try rfl)); (fail_if_success with_reducible apply stuck_id); (try simp only [ar01, ar12]))
          | refine go1 ?_ | refine gobt ?_ | refine gof ?_
          | ((with_reducible apply go_inline (f := 106) (hf := Tryz.func106) (hr := Tryz.results106) (hcall := Tryz.call106)); (· rfl); (· (cbv; try rfl)))
          | ((with_reducible apply go_inline (f := 135) (hf := Tryz.func135) (hr := Tryz.results135) (hcall := Tryz.call135)); (· rfl); (· (cbv; try rfl)))
          | (with_reducible apply go_rounds 3)
          | fail)
         all_goals (rw [hy]; rfl)
       · simp [putB] at hy
         have hz := hb (by decide)
         refine go_start (args := [.pt (.agg [.int .u8 2, .int .u8 ro, .int .u8 rb, .int .u8 1, .int .i64 an, .int .i64 al, .bool ad, .int .u8 af, .int .u8 2, .int .i64 en, .int .i64 el, .bool ed, .int .u8 ef, .int .i64 gl, .bool gd, .int .u8 gf])]) (c := NoRows) Tryz.func184 rfl (noRows_ok _) rfl rfl ?_
         obtain ⟨nd, hnd, nt, hnt, ar, har, cm, hcm, mx, hmx, mn, hmn, ar01, ar12, zpl, hzpl, zjn, hzjn, zup, hzup, zmi, hzmi, zdp, hzdp, hT⟩ := t0_all
         repeat' (first
          | ((with_reducible apply go_ev hT 400); (· (cbv; try rfl)); (fail_if_success with_reducible apply stuck_id); (try simp only [ar01, ar12]))
          | refine go1 ?_ | refine gobt ?_ | refine gof ?_
          | ((with_reducible apply go_inline (f := 106) (hf := Tryz.func106) (hr := Tryz.results106) (hcall := Tryz.call106)); (· rfl); (· (cbv; try rfl)))
          | ((with_reducible apply go_inline (f := 135) (hf := Tryz.func135) (hr := Tryz.results135) (hcall := Tryz.call135)); (· rfl); (· (cbv; try rfl)))
          | (with_reducible apply go_rounds 3)
          | (((with_reducible apply go_askB (arrB y)); (· exact lt_of_eq_of_lt (off2 el) (by have := hz; show _ < 16; omega)); (· have hq := arr0_putL true (o := el.toNat) (by have := hz; omega); rw [hy]; (have ho := off2 el); refine (congrArg (fun o => leCL (pasteL [.lit false, .lit false, .lit false, .lit false, .lit false, .lit false, .lit false, .lit false, .lit false, .lit false, .lit false, .lit false, .lit false, .lit false, .lit false, .lit false] o [.lit true]) (arrB (turn (fun _ => false) el.toNat true))) ho).mpr hq); (· rfl); (· simp)))
          | fail)
         all_goals rfl
       · simp [putB] at hy
         have hz := hb (by decide)
         refine go_start (args := [.pt (.agg [.int .u8 2, .int .u8 ro, .int .u8 rb, .int .u8 1, .int .i64 an, .int .i64 al, .bool ad, .int .u8 af, .int .u8 3, .int .i64 en, .int .i64 el, .bool ed, .int .u8 ef, .int .i64 gl, .bool gd, .int .u8 gf])]) (c := NoRows) Tryz.func184 rfl (noRows_ok _) rfl rfl ?_
         obtain ⟨nd, hnd, nt, hnt, ar, har, cm, hcm, mx, hmx, mn, hmn, ar01, ar12, zpl, hzpl, zjn, hzjn, zup, hzup, zmi, hzmi, zdp, hzdp, hT⟩ := t0_all
         repeat' (first
          | ((with_reducible apply go_ev hT 400); (· (cbv; try rfl)); (fail_if_success with_reducible apply stuck_id); (try simp only [ar01, ar12]))
          | refine go1 ?_ | refine gobt ?_ | refine gof ?_
          | ((with_reducible apply go_inline (f := 106) (hf := Tryz.func106) (hr := Tryz.results106) (hcall := Tryz.call106)); (· rfl); (· (cbv; try rfl)))
          | ((with_reducible apply go_inline (f := 135) (hf := Tryz.func135) (hr := Tryz.results135) (hcall := Tryz.call135)); (· rfl); (· (cbv; try rfl)))
          | (with_reducible apply go_rounds 3)
          | (((with_reducible apply go_askB (arrB y)); (· exact lt_of_eq_of_lt (off2 el) (by have := hz; show _ < 16; omega)); (· have hq := arr0_putL true (o := el.toNat) (by have := hz; omega); rw [hy]; (have ho := off2 el); refine (congrArg (fun o => leCL (pasteL [.lit false, .lit false, .lit false, .lit false, .lit false, .lit false, .lit false, .lit false, .lit false, .lit false, .lit false, .lit false, .lit false, .lit false, .lit false, .lit false] o [.lit true]) (arrB (turn (fun _ => false) el.toNat true))) ho).mpr hq); (· rfl); (· simp)))
          | fail)
         all_goals rfl
     · rcases h2 with rfl | rfl | rfl
       · simp [putB] at hy
         have hx := ha (by decide)
         refine go_start (args := [.pt (.agg [.int .u8 2, .int .u8 ro, .int .u8 rb, .int .u8 2, .int .i64 an, .int .i64 al, .bool ad, .int .u8 af, .int .u8 1, .int .i64 en, .int .i64 el, .bool ed, .int .u8 ef, .int .i64 gl, .bool gd, .int .u8 gf])]) (c := NoRows) Tryz.func184 rfl (noRows_ok _) rfl rfl ?_
         obtain ⟨nd, hnd, nt, hnt, ar, har, cm, hcm, mx, hmx, mn, hmn, ar01, ar12, zpl, hzpl, zjn, hzjn, zup, hzup, zmi, hzmi, zdp, hzdp, hT⟩ := t0_all
         repeat' (first
          | ((with_reducible apply go_ev hT 400); (· (cbv; try rfl)); (fail_if_success with_reducible apply stuck_id); (try simp only [ar01, ar12]))
          | refine go1 ?_ | refine gobt ?_ | refine gof ?_
          | ((with_reducible apply go_inline (f := 106) (hf := Tryz.func106) (hr := Tryz.results106) (hcall := Tryz.call106)); (· rfl); (· (cbv; try rfl)))
          | ((with_reducible apply go_inline (f := 135) (hf := Tryz.func135) (hr := Tryz.results135) (hcall := Tryz.call135)); (· rfl); (· (cbv; try rfl)))
          | (with_reducible apply go_rounds 3)
          | (((with_reducible apply go_askB (arrB y)); (· exact lt_of_eq_of_lt (off2 al) (by have := hx; show _ < 16; omega)); (· have hq := arr0_putL true (o := al.toNat) (by have := hx; omega); rw [hy]; (have ho := off2 al); refine (congrArg (fun o => leCL (pasteL [.lit false, .lit false, .lit false, .lit false, .lit false, .lit false, .lit false, .lit false, .lit false, .lit false, .lit false, .lit false, .lit false, .lit false, .lit false, .lit false] o [.lit true]) (arrB (turn (fun _ => false) al.toNat true))) ho).mpr hq); (· rfl); (· simp)))
          | fail)
         all_goals rfl
       · simp [putB] at hy
         have hx := ha (by decide)
         have hz := hb (by decide)
         obtain ⟨T, hT1⟩ : ∃ T, T = turn (fun _ : Nat => false) al.toNat true := ⟨_, rfl⟩
         rw [← hT1] at hy
         refine go_start (args := [.pt (.agg [.int .u8 2, .int .u8 ro, .int .u8 rb, .int .u8 2, .int .i64 an, .int .i64 al, .bool ad, .int .u8 af, .int .u8 2, .int .i64 en, .int .i64 el, .bool ed, .int .u8 ef, .int .i64 gl, .bool gd, .int .u8 gf])]) (c := NoRows) Tryz.func184 rfl (noRows_ok _) rfl rfl ?_
         obtain ⟨nd, hnd, nt, hnt, ar, har, cm, hcm, mx, hmx, mn, hmn, ar01, ar12, zpl, hzpl, zjn, hzjn, zup, hzup, zmi, hzmi, zdp, hzdp, hT⟩ := t0_all
         repeat' (first
          | ((with_reducible apply go_ev hT 400); (· (cbv; try rfl)); (fail_if_success with_reducible apply stuck_id); (try simp only [ar01, ar12]))
          | refine go1 ?_ | refine gobt ?_ | refine gof ?_
          | ((with_reducible apply go_inline (f := 106) (hf := Tryz.func106) (hr := Tryz.results106) (hcall := Tryz.call106)); (· rfl); (· (cbv; try rfl)))
          | ((with_reducible apply go_inline (f := 135) (hf := Tryz.func135) (hr := Tryz.results135) (hcall := Tryz.call135)); (· rfl); (· (cbv; try rfl)))
          | (with_reducible apply go_rounds 3)
          | (((with_reducible apply go_askB (arrB T)); (· exact lt_of_eq_of_lt (off2 al) (by have := hx; show _ < 16; omega)); (· have hq := arr0_putL true (o := al.toNat) (by have := hx; omega); rw [hT1]; (have ho := off2 al); refine (congrArg (fun o => leCL (pasteL [.lit false, .lit false, .lit false, .lit false, .lit false, .lit false, .lit false, .lit false, .lit false, .lit false, .lit false, .lit false, .lit false, .lit false, .lit false, .lit false] o [.lit true]) (arrB (turn (fun _ => false) al.toNat true))) ho).mpr hq); (· rfl); (· simp)))
          | (((with_reducible apply go_askB (arrB y)); (· exact lt_of_eq_of_lt (off2 el) (by have := hz; show _ < 16; omega)); (· have hq := arrB_putL T true (o := el.toNat) (by have := hz; omega); rw [hy]; exact Eq.mpr (congrArg (fun o => leCL (pasteL (arrB T) o [.lit true]) (arrB (turn T el.toNat true))) (off2 el)) hq); (· rfl); (· simp)))
          | fail)
         all_goals rfl
       · simp [putB] at hy
         have hx := ha (by decide)
         have hz := hb (by decide)
         obtain ⟨T, hT1⟩ : ∃ T, T = turn (fun _ : Nat => false) al.toNat true := ⟨_, rfl⟩
         rw [← hT1] at hy
         refine go_start (args := [.pt (.agg [.int .u8 2, .int .u8 ro, .int .u8 rb, .int .u8 2, .int .i64 an, .int .i64 al, .bool ad, .int .u8 af, .int .u8 3, .int .i64 en, .int .i64 el, .bool ed, .int .u8 ef, .int .i64 gl, .bool gd, .int .u8 gf])]) (c := NoRows) Tryz.func184 rfl (noRows_ok _) rfl rfl ?_
         obtain ⟨nd, hnd, nt, hnt, ar, har, cm, hcm, mx, hmx, mn, hmn, ar01, ar12, zpl, hzpl, zjn, hzjn, zup, hzup, zmi, hzmi, zdp, hzdp, hT⟩ := t0_all
         repeat' (first
          | ((with_reducible apply go_ev hT 400); (· (cbv; try rfl)); (fail_if_success with_reducible apply stuck_id); (try simp only [ar01, ar12]))
          | refine go1 ?_ | refine gobt ?_ | refine gof ?_
          | ((with_reducible apply go_inline (f := 106) (hf := Tryz.func106) (hr := Tryz.results106) (hcall := Tryz.call106)); (· rfl); (· (cbv; try rfl)))
          | ((with_reducible apply go_inline (f := 135) (hf := Tryz.func135) (hr := Tryz.results135) (hcall := Tryz.call135)); (· rfl); (· (cbv; try rfl)))
          | (with_reducible apply go_rounds 3)
          | (((with_reducible apply go_askB (arrB T)); (· exact lt_of_eq_of_lt (off2 al) (by have := hx; show _ < 16; omega)); (· have hq := arr0_putL true (o := al.toNat) (by have := hx; omega); rw [hT1]; (have ho := off2 al); refine (congrArg (fun o => leCL (pasteL [.lit false, .lit false, .lit false, .lit false, .lit false, .lit false, .lit false, .lit false, .lit false, .lit false, .lit false, .lit false, .lit false, .lit false, .lit false, .lit false] o [.lit true]) (arrB (turn (fun _ => false) al.toNat true))) ho).mpr hq); (· rfl); (· simp)))
          | (((with_reducible apply go_askB (arrB y)); (· exact lt_of_eq_of_lt (off2 el) (by have := hz; show _ < 16; omega)); (· have hq := arrB_putL T true (o := el.toNat) (by have := hz; omega); rw [hy]; exact Eq.mpr (congrArg (fun o => leCL (pasteL (arrB T) o [.lit true]) (arrB (turn T el.toNat true))) (off2 el)) hq); (· rfl); (· simp)))
          | fail)
         all_goals rfl
     · rcases h2 with rfl | rfl | rfl
       · simp [putB] at hy
         have hx := ha (by decide)
         refine go_start (args := [.pt (.agg [.int .u8 2, .int .u8 ro, .int .u8 rb, .int .u8 3, .int .i64 an, .int .i64 al, .bool ad, .int .u8 af, .int .u8 1, .int .i64 en, .int .i64 el, .bool ed, .int .u8 ef, .int .i64 gl, .bool gd, .int .u8 gf])]) (c := NoRows) Tryz.func184 rfl (noRows_ok _) rfl rfl ?_
         obtain ⟨nd, hnd, nt, hnt, ar, har, cm, hcm, mx, hmx, mn, hmn, ar01, ar12, zpl, hzpl, zjn, hzjn, zup, hzup, zmi, hzmi, zdp, hzdp, hT⟩ := t0_all
         repeat' (first
          | ((with_reducible apply go_ev hT 400); (· (cbv; try rfl)); (fail_if_success with_reducible apply stuck_id); (try simp only [ar01, ar12]))
          | refine go1 ?_ | refine gobt ?_ | refine gof ?_
          | ((with_reducible apply go_inline (f := 106) (hf := Tryz.func106) (hr := Tryz.results106) (hcall := Tryz.call106)); (· rfl); (· (cbv; try rfl)))
          | ((with_reducible apply go_inline (f := 135) (hf := Tryz.func135) (hr := Tryz.results135) (hcall := Tryz.call135)); (· rfl); (· (cbv; try rfl)))
          | (with_reducible apply go_rounds 3)
          | (((with_reducible apply go_askB (arrB y)); (· exact lt_of_eq_of_lt (off2 al) (by have := hx; show _ < 16; omega)); (· have hq := arr0_putL true (o := al.toNat) (by have := hx; omega); rw [hy]; (have ho := off2 al); refine (congrArg (fun o => leCL (pasteL [.lit false, .lit false, .lit false, .lit false, .lit false, .lit false, .lit false, .lit false, .lit false, .lit false, .lit false, .lit false, .lit false, .lit false, .lit false, .lit false] o [.lit true]) (arrB (turn (fun _ => false) al.toNat true))) ho).mpr hq); (· rfl); (· simp)))
          | fail)
         all_goals rfl
       · simp [putB] at hy
         have hx := ha (by decide)
         have hz := hb (by decide)
         obtain ⟨T, hT1⟩ : ∃ T, T = turn (fun _ : Nat => false) al.toNat true := ⟨_, rfl⟩
         rw [← hT1] at hy
         refine go_start (args := [.pt (.agg [.int .u8 2, .int .u8 ro, .int .u8 rb, .int .u8 3, .int .i64 an, .int .i64 al, .bool ad, .int .u8 af, .int .u8 2, .int .i64 en, .int .i64 el, .bool ed, .int .u8 ef, .int .i64 gl, .bool gd, .int .u8 gf])]) (c := NoRows) Tryz.func184 rfl (noRows_ok _) rfl rfl ?_
         obtain ⟨nd, hnd, nt, hnt, ar, har, cm, hcm, mx, hmx, mn, hmn, ar01, ar12, zpl, hzpl, zjn, hzjn, zup, hzup, zmi, hzmi, zdp, hzdp, hT⟩ := t0_all
         repeat' (first
          | ((with_reducible apply go_ev hT 400); (· (cbv; try rfl)); (fail_if_success with_reducible apply stuck_id); (try simp only [ar01, ar12]))
          | refine go1 ?_ | refine gobt ?_ | refine gof ?_
          | ((with_reducible apply go_inline (f := 106) (hf := Tryz.func106) (hr := Tryz.results106) (hcall := Tryz.call106)); (· rfl); (· (cbv; try rfl)))
          | ((with_reducible apply go_inline (f := 135) (hf := Tryz.func135) (hr := Tryz.results135) (hcall := Tryz.call135)); (· rfl); (· (cbv; try rfl)))
          | (with_reducible apply go_rounds 3)
          | (((with_reducible apply go_askB (arrB T)); (· exact lt_of_eq_of_lt (off2 al) (by have := hx; show _ < 16; omega)); (· have hq := arr0_putL true (o := al.toNat) (by have := hx; omega); rw [hT1]; (have ho := off2 al); refine (congrArg (fun o => leCL (pasteL [.lit false, .lit false, .lit false, .lit false, .lit false, .lit false, .lit false, .lit false, .lit false, .lit false, .lit false, .lit false, .lit false, .lit false, .lit false, .lit false] o [.lit true]) (arrB (turn (fun _ => false) al.toNat true))) ho).mpr hq); (· rfl); (· simp)))
          | (((with_reducible apply go_askB (arrB y)); (· exact lt_of_eq_of_lt (off2 el) (by have := hz; show _ < 16; omega)); (· have hq := arrB_putL T true (o := el.toNat) (by have := hz; omega); rw [hy]; exact Eq.mpr (congrArg (fun o => leCL (pasteL (arrB T) o [.lit true]) (arrB (turn T el.toNat true))) (off2 el)) hq); (· rfl); (· simp)))
          | fail)
         all_goals rfl
       · simp [putB] at hy
         have hx := ha (by decide)
         have hz := hb (by decide)
         obtain ⟨T, hT1⟩ : ∃ T, T = turn (fun _ : Nat => false) al.toNat true := ⟨_, rfl⟩
         rw [← hT1] at hy
         refine go_start (args := [.pt (.agg [.int .u8 2, .int .u8 ro, .int .u8 rb, .int .u8 3, .int .i64 an, .int .i64 al, .bool ad, .int .u8 af, .int .u8 3, .int .i64 en, .int .i64 el, .bool ed, .int .u8 ef, .int .i64 gl, .bool gd, .int .u8 gf])]) (c := NoRows) Tryz.func184 rfl (noRows_ok _) rfl rfl ?_
         obtain ⟨nd, hnd, nt, hnt, ar, har, cm, hcm, mx, hmx, mn, hmn, ar01, ar12, zpl, hzpl, zjn, hzjn, zup, hzup, zmi, hzmi, zdp, hzdp, hT⟩ := t0_all
         repeat' (first
          | ((with_reducible apply go_ev hT 400); (· (cbv; try rfl)); (fail_if_success with_reducible apply stuck_id); (try simp only [ar01, ar12]))
          | refine go1 ?_ | refine gobt ?_ | refine gof ?_
          | ((with_reducible apply go_inline (f := 106) (hf := Tryz.func106) (hr := Tryz.results106) (hcall := Tryz.call106)); (· rfl); (· (cbv; try rfl)))
          | ((with_reducible apply go_inline (f := 135) (hf := Tryz.func135) (hr := Tryz.results135) (hcall := Tryz.call135)); (· rfl); (· (cbv; try rfl)))
          | (with_reducible apply go_rounds 3)
          | (((with_reducible apply go_askB (arrB T)); (· exact lt_of_eq_of_lt (off2 al) (by have := hx; show _ < 16; omega)); (· have hq := arr0_putL true (o := al.toNat) (by have := hx; omega); rw [hT1]; (have ho := off2 al); refine (congrArg (fun o => leCL (pasteL [.lit false, .lit false, .lit false, .lit false, .lit false, .lit false, .lit false, .lit false, .lit false, .lit false, .lit false, .lit false, .lit false, .lit false, .lit false, .lit false] o [.lit true]) (arrB (turn (fun _ => false) al.toNat true))) ho).mpr hq); (· rfl); (· simp)))
          | (((with_reducible apply go_askB (arrB y)); (· exact lt_of_eq_of_lt (off2 el) (by have := hz; show _ < 16; omega)); (· have hq := arrB_putL T true (o := el.toNat) (by have := hz; omega); rw [hy]; exact Eq.mpr (congrArg (fun o => leCL (pasteL (arrB T) o [.lit true]) (arrB (turn T el.toNat true))) (off2 el)) hq); (· rfl); (· simp)))
          | fail)
         all_goals rfl
   · have ha := ha (.inr (.inr rfl))
     have hb := hb (.inr rfl)
     clear hp
     rcases h with rfl | rfl | rfl
     · rcases h2 with rfl | rfl | rfl
       · simp [putB] at hy
         refine go_start (args := [.pt (.agg [.int .u8 3, .int .u8 ro, .int .u8 rb, .int .u8 1, .int .i64 an, .int .i64 al, .bool ad, .int .u8 af, .int .u8 1, .int .i64 en, .int .i64 el, .bool ed, .int .u8 ef, .int .i64 gl, .bool gd, .int .u8 gf])]) (c := NoRows) Tryz.func184 rfl (noRows_ok _) rfl rfl ?_
         obtain ⟨nd, hnd, nt, hnt, ar, har, cm, hcm, mx, hmx, mn, hmn, ar01, ar12, zpl, hzpl, zjn, hzjn, zup, hzup, zmi, hzmi, zdp, hzdp, hT⟩ := t0_all
         repeat' (first
          | ((with_reducible apply go_ev hT 400); (· (cbv; try rfl)); (fail_if_success with_reducible apply stuck_id); (try simp only [ar01, ar12]))
          | refine go1 ?_ | refine gobt ?_ | refine gof ?_
          | ((with_reducible apply go_inline (f := 106) (hf := Tryz.func106) (hr := Tryz.results106) (hcall := Tryz.call106)); (· rfl); (· (cbv; try rfl)))
          | ((with_reducible apply go_inline (f := 135) (hf := Tryz.func135) (hr := Tryz.results135) (hcall := Tryz.call135)); (· rfl); (· (cbv; try rfl)))
          | (with_reducible apply go_rounds 3)
          | fail)
         all_goals (rw [hy]; rfl)
       · simp [putB] at hy
         have hz := hb (by decide)
         refine go_start (args := [.pt (.agg [.int .u8 3, .int .u8 ro, .int .u8 rb, .int .u8 1, .int .i64 an, .int .i64 al, .bool ad, .int .u8 af, .int .u8 2, .int .i64 en, .int .i64 el, .bool ed, .int .u8 ef, .int .i64 gl, .bool gd, .int .u8 gf])]) (c := NoRows) Tryz.func184 rfl (noRows_ok _) rfl rfl ?_
         obtain ⟨nd, hnd, nt, hnt, ar, har, cm, hcm, mx, hmx, mn, hmn, ar01, ar12, zpl, hzpl, zjn, hzjn, zup, hzup, zmi, hzmi, zdp, hzdp, hT⟩ := t0_all
         repeat' (first
          | ((with_reducible apply go_ev hT 400); (· (cbv; try rfl)); (fail_if_success with_reducible apply stuck_id); (try simp only [ar01, ar12]))
          | refine go1 ?_ | refine gobt ?_ | refine gof ?_
          | ((with_reducible apply go_inline (f := 106) (hf := Tryz.func106) (hr := Tryz.results106) (hcall := Tryz.call106)); (· rfl); (· (cbv; try rfl)))
          | ((with_reducible apply go_inline (f := 135) (hf := Tryz.func135) (hr := Tryz.results135) (hcall := Tryz.call135)); (· rfl); (· (cbv; try rfl)))
          | (with_reducible apply go_rounds 3)
          | (((with_reducible apply go_askB (arrB y)); (· exact lt_of_eq_of_lt (off2 el) (by have := hz; show _ < 16; omega)); (· have hq := arr0_putL true (o := el.toNat) (by have := hz; omega); rw [hy]; (have ho := off2 el); refine (congrArg (fun o => leCL (pasteL [.lit false, .lit false, .lit false, .lit false, .lit false, .lit false, .lit false, .lit false, .lit false, .lit false, .lit false, .lit false, .lit false, .lit false, .lit false, .lit false] o [.lit true]) (arrB (turn (fun _ => false) el.toNat true))) ho).mpr hq); (· rfl); (· simp)))
          | fail)
         all_goals rfl
       · simp [putB] at hy
         have hz := hb (by decide)
         refine go_start (args := [.pt (.agg [.int .u8 3, .int .u8 ro, .int .u8 rb, .int .u8 1, .int .i64 an, .int .i64 al, .bool ad, .int .u8 af, .int .u8 3, .int .i64 en, .int .i64 el, .bool ed, .int .u8 ef, .int .i64 gl, .bool gd, .int .u8 gf])]) (c := NoRows) Tryz.func184 rfl (noRows_ok _) rfl rfl ?_
         obtain ⟨nd, hnd, nt, hnt, ar, har, cm, hcm, mx, hmx, mn, hmn, ar01, ar12, zpl, hzpl, zjn, hzjn, zup, hzup, zmi, hzmi, zdp, hzdp, hT⟩ := t0_all
         repeat' (first
          | ((with_reducible apply go_ev hT 400); (· (cbv; try rfl)); (fail_if_success with_reducible apply stuck_id); (try simp only [ar01, ar12]))
          | refine go1 ?_ | refine gobt ?_ | refine gof ?_
          | ((with_reducible apply go_inline (f := 106) (hf := Tryz.func106) (hr := Tryz.results106) (hcall := Tryz.call106)); (· rfl); (· (cbv; try rfl)))
          | ((with_reducible apply go_inline (f := 135) (hf := Tryz.func135) (hr := Tryz.results135) (hcall := Tryz.call135)); (· rfl); (· (cbv; try rfl)))
          | (with_reducible apply go_rounds 3)
          | (((with_reducible apply go_askB (arrB y)); (· exact lt_of_eq_of_lt (off2 el) (by have := hz; show _ < 16; omega)); (· have hq := arr0_putL true (o := el.toNat) (by have := hz; omega); rw [hy]; (have ho := off2 el); refine (congrArg (fun o => leCL (pasteL [.lit false, .lit false, .lit false, .lit false, .lit false, .lit false, .lit false, .lit false, .lit false, .lit false, .lit false, .lit false, .lit false, .lit false, .lit false, .lit false] o [.lit true]) (arrB (turn (fun _ => false) el.toNat true))) ho).mpr hq); (· rfl); (· simp)))
          | fail)
         all_goals rfl
     · rcases h2 with rfl | rfl | rfl
       · simp [putB] at hy
         have hx := ha (by decide)
         refine go_start (args := [.pt (.agg [.int .u8 3, .int .u8 ro, .int .u8 rb, .int .u8 2, .int .i64 an, .int .i64 al, .bool ad, .int .u8 af, .int .u8 1, .int .i64 en, .int .i64 el, .bool ed, .int .u8 ef, .int .i64 gl, .bool gd, .int .u8 gf])]) (c := NoRows) Tryz.func184 rfl (noRows_ok _) rfl rfl ?_
         obtain ⟨nd, hnd, nt, hnt, ar, har, cm, hcm, mx, hmx, mn, hmn, ar01, ar12, zpl, hzpl, zjn, hzjn, zup, hzup, zmi, hzmi, zdp, hzdp, hT⟩ := t0_all
         repeat' (first
          | ((with_reducible apply go_ev hT 400); (· (cbv; try rfl)); (fail_if_success with_reducible apply stuck_id); (try simp only [ar01, ar12]))
          | refine go1 ?_ | refine gobt ?_ | refine gof ?_
          | ((with_reducible apply go_inline (f := 106) (hf := Tryz.func106) (hr := Tryz.results106) (hcall := Tryz.call106)); (· rfl); (· (cbv; try rfl)))
          | ((with_reducible apply go_inline (f := 135) (hf := Tryz.func135) (hr := Tryz.results135) (hcall := Tryz.call135)); (· rfl); (· (cbv; try rfl)))
          | (with_reducible apply go_rounds 3)
          | (((with_reducible apply go_askB (arrB y)); (· exact lt_of_eq_of_lt (off2 al) (by have := hx; show _ < 16; omega)); (· have hq := arr0_putL true (o := al.toNat) (by have := hx; omega); rw [hy]; (have ho := off2 al); refine (congrArg (fun o => leCL (pasteL [.lit false, .lit false, .lit false, .lit false, .lit false, .lit false, .lit false, .lit false, .lit false, .lit false, .lit false, .lit false, .lit false, .lit false, .lit false, .lit false] o [.lit true]) (arrB (turn (fun _ => false) al.toNat true))) ho).mpr hq); (· rfl); (· simp)))
          | fail)
         all_goals rfl
       · simp [putB] at hy
         have hx := ha (by decide)
         have hz := hb (by decide)
         obtain ⟨T, hT1⟩ : ∃ T, T = turn (fun _ : Nat => false) al.toNat true := ⟨_, rfl⟩
         rw [← hT1] at hy
         refine go_start (args := [.pt (.agg [.int .u8 3, .int .u8 ro, .int .u8 rb, .int .u8 2, .int .i64 an, .int .i64 al, .bool ad, .int .u8 af, .int .u8 2, .int .i64 en, .int .i64 el, .bool ed, .int .u8 ef, .int .i64 gl, .bool gd, .int .u8 gf])]) (c := NoRows) Tryz.func184 rfl (noRows_ok _) rfl rfl ?_
         obtain ⟨nd, hnd, nt, hnt, ar, har, cm, hcm, mx, hmx, mn, hmn, ar01, ar12, zpl, hzpl, zjn, hzjn, zup, hzup, zmi, hzmi, zdp, hzdp, hT⟩ := t0_all
         repeat' (first
          | ((with_reducible apply go_ev hT 400); (· (cbv; try rfl)); (fail_if_success with_reducible apply stuck_id); (try simp only [ar01, ar12]))
          | refine go1 ?_ | refine gobt ?_ | refine gof ?_
          | ((with_reducible apply go_inline (f := 106) (hf := Tryz.func106) (hr := Tryz.results106) (hcall := Tryz.call106)); (· rfl); (· (cbv; try rfl)))
          | ((with_reducible apply go_inline (f := 135) (hf := Tryz.func135) (hr := Tryz.results135) (hcall := Tryz.call135)); (· rfl); (· (cbv; try rfl)))
          | (with_reducible apply go_rounds 3)
          | (((with_reducible apply go_askB (arrB T)); (· exact lt_of_eq_of_lt (off2 al) (by have := hx; show _ < 16; omega)); (· have hq := arr0_putL true (o := al.toNat) (by have := hx; omega); rw [hT1]; (have ho := off2 al); refine (congrArg (fun o => leCL (pasteL [.lit false, .lit false, .lit false, .lit false, .lit false, .lit false, .lit false, .lit false, .lit false, .lit false, .lit false, .lit false, .lit false, .lit false, .lit false, .lit false] o [.lit true]) (arrB (turn (fun _ => false) al.toNat true))) ho).mpr hq); (· rfl); (· simp)))
          | (((with_reducible apply go_askB (arrB y)); (· exact lt_of_eq_of_lt (off2 el) (by have := hz; show _ < 16; omega)); (· have hq := arrB_putL T true (o := el.toNat) (by have := hz; omega); rw [hy]; exact Eq.mpr (congrArg (fun o => leCL (pasteL (arrB T) o [.lit true]) (arrB (turn T el.toNat true))) (off2 el)) hq); (· rfl); (· simp)))
          | fail)
         all_goals rfl
       · simp [putB] at hy
         have hx := ha (by decide)
         have hz := hb (by decide)
         obtain ⟨T, hT1⟩ : ∃ T, T = turn (fun _ : Nat => false) al.toNat true := ⟨_, rfl⟩
         rw [← hT1] at hy
         refine go_start (args := [.pt (.agg [.int .u8 3, .int .u8 ro, .int .u8 rb, .int .u8 2, .int .i64 an, .int .i64 al, .bool ad, .int .u8 af, .int .u8 3, .int .i64 en, .int .i64 el, .bool ed, .int .u8 ef, .int .i64 gl, .bool gd, .int .u8 gf])]) (c := NoRows) Tryz.func184 rfl (noRows_ok _) rfl rfl ?_
         obtain ⟨nd, hnd, nt, hnt, ar, har, cm, hcm, mx, hmx, mn, hmn, ar01, ar12, zpl, hzpl, zjn, hzjn, zup, hzup, zmi, hzmi, zdp, hzdp, hT⟩ := t0_all
         repeat' (first
          | ((with_reducible apply go_ev hT 400); (· (cbv; try rfl)); (fail_if_success with_reducible apply stuck_id); (try simp only [ar01, ar12]))
          | refine go1 ?_ | refine gobt ?_ | refine gof ?_
          | ((with_reducible apply go_inline (f := 106) (hf := Tryz.func106) (hr := Tryz.results106) (hcall := Tryz.call106)); (· rfl); (· (cbv; try rfl)))
          | ((with_reducible apply go_inline (f := 135) (hf := Tryz.func135) (hr := Tryz.results135) (hcall := Tryz.call135)); (· rfl); (· (cbv; try rfl)))
          | (with_reducible apply go_rounds 3)
          | (((with_reducible apply go_askB (arrB T)); (· exact lt_of_eq_of_lt (off2 al) (by have := hx; show _ < 16; omega)); (· have hq := arr0_putL true (o := al.toNat) (by have := hx; omega); rw [hT1]; (have ho := off2 al); refine (congrArg (fun o => leCL (pasteL [.lit false, .lit false, .lit false, .lit false, .lit false, .lit false, .lit false, .lit false, .lit false, .lit false, .lit false, .lit false, .lit false, .lit false, .lit false, .lit false] o [.lit true]) (arrB (turn (fun _ => false) al.toNat true))) ho).mpr hq); (· rfl); (· simp)))
          | (((with_reducible apply go_askB (arrB y)); (· exact lt_of_eq_of_lt (off2 el) (by have := hz; show _ < 16; omega)); (· have hq := arrB_putL T true (o := el.toNat) (by have := hz; omega); rw [hy]; exact Eq.mpr (congrArg (fun o => leCL (pasteL (arrB T) o [.lit true]) (arrB (turn T el.toNat true))) (off2 el)) hq); (· rfl); (· simp)))
          | fail)
         all_goals rfl
     · rcases h2 with rfl | rfl | rfl
       · simp [putB] at hy
         have hx := ha (by decide)
         refine go_start (args := [.pt (.agg [.int .u8 3, .int .u8 ro, .int .u8 rb, .int .u8 3, .int .i64 an, .int .i64 al, .bool ad, .int .u8 af, .int .u8 1, .int .i64 en, .int .i64 el, .bool ed, .int .u8 ef, .int .i64 gl, .bool gd, .int .u8 gf])]) (c := NoRows) Tryz.func184 rfl (noRows_ok _) rfl rfl ?_
         obtain ⟨nd, hnd, nt, hnt, ar, har, cm, hcm, mx, hmx, mn, hmn, ar01, ar12, zpl, hzpl, zjn, hzjn, zup, hzup, zmi, hzmi, zdp, hzdp, hT⟩ := t0_all
         repeat' (first
          | ((with_reducible apply go_ev hT 400); (· (cbv; try rfl)); (fail_if_success with_reducible apply stuck_id); (try simp only [ar01, ar12]))
          | refine go1 ?_ | refine gobt ?_ | refine gof ?_
          | ((with_reducible apply go_inline (f := 106) (hf := Tryz.func106) (hr := Tryz.results106) (hcall := Tryz.call106)); (· rfl); (· (cbv; try rfl)))
          | ((with_reducible apply go_inline (f := 135) (hf := Tryz.func135) (hr := Tryz.results135) (hcall := Tryz.call135)); (· rfl); (· (cbv; try rfl)))
          | (with_reducible apply go_rounds 3)
          | (((with_reducible apply go_askB (arrB y)); (· exact lt_of_eq_of_lt (off2 al) (by have := hx; show _ < 16; omega)); (· have hq := arr0_putL true (o := al.toNat) (by have := hx; omega); rw [hy]; (have ho := off2 al); refine (congrArg (fun o => leCL (pasteL [.lit false, .lit false, .lit false, .lit false, .lit false, .lit false, .lit false, .lit false, .lit false, .lit false, .lit false, .lit false, .lit false, .lit false, .lit false, .lit false] o [.lit true]) (arrB (turn (fun _ => false) al.toNat true))) ho).mpr hq); (· rfl); (· simp)))
          | fail)
         all_goals rfl
       · simp [putB] at hy
         have hx := ha (by decide)
         have hz := hb (by decide)
         obtain ⟨T, hT1⟩ : ∃ T, T = turn (fun _ : Nat => false) al.toNat true := ⟨_, rfl⟩
         rw [← hT1] at hy
         refine go_start (args := [.pt (.agg [.int .u8 3, .int .u8 ro, .int .u8 rb, .int .u8 3, .int .i64 an, .int .i64 al, .bool ad, .int .u8 af, .int .u8 2, .int .i64 en, .int .i64 el, .bool ed, .int .u8 ef, .int .i64 gl, .bool gd, .int .u8 gf])]) (c := NoRows) Tryz.func184 rfl (noRows_ok _) rfl rfl ?_
         obtain ⟨nd, hnd, nt, hnt, ar, har, cm, hcm, mx, hmx, mn, hmn, ar01, ar12, zpl, hzpl, zjn, hzjn, zup, hzup, zmi, hzmi, zdp, hzdp, hT⟩ := t0_all
         repeat' (first
          | ((with_reducible apply go_ev hT 400); (· (cbv; try rfl)); (fail_if_success with_reducible apply stuck_id); (try simp only [ar01, ar12]))
          | refine go1 ?_ | refine gobt ?_ | refine gof ?_
          | ((with_reducible apply go_inline (f := 106) (hf := Tryz.func106) (hr := Tryz.results106) (hcall := Tryz.call106)); (· rfl); (· (cbv; try rfl)))
          | ((with_reducible apply go_inline (f := 135) (hf := Tryz.func135) (hr := Tryz.results135) (hcall := Tryz.call135)); (· rfl); (· (cbv; try rfl)))
          | (with_reducible apply go_rounds 3)
          | (((with_reducible apply go_askB (arrB T)); (· exact lt_of_eq_of_lt (off2 al) (by have := hx; show _ < 16; omega)); (· have hq := arr0_putL true (o := al.toNat) (by have := hx; omega); rw [hT1]; (have ho := off2 al); refine (congrArg (fun o => leCL (pasteL [.lit false, .lit false, .lit false, .lit false, .lit false, .lit false, .lit false, .lit false, .lit false, .lit false, .lit false, .lit false, .lit false, .lit false, .lit false, .lit false] o [.lit true]) (arrB (turn (fun _ => false) al.toNat true))) ho).mpr hq); (· rfl); (· simp)))
          | (((with_reducible apply go_askB (arrB y)); (· exact lt_of_eq_of_lt (off2 el) (by have := hz; show _ < 16; omega)); (· have hq := arrB_putL T true (o := el.toNat) (by have := hz; omega); rw [hy]; exact Eq.mpr (congrArg (fun o => leCL (pasteL (arrB T) o [.lit true]) (arrB (turn T el.toNat true))) (off2 el)) hq); (· rfl); (· simp)))
          | fail)
         all_goals rfl
       · simp [putB] at hy
         have hx := ha (by decide)
         have hz := hb (by decide)
         obtain ⟨T, hT1⟩ : ∃ T, T = turn (fun _ : Nat => false) al.toNat true := ⟨_, rfl⟩
         rw [← hT1] at hy
         refine go_start (args := [.pt (.agg [.int .u8 3, .int .u8 ro, .int .u8 rb, .int .u8 3, .int .i64 an, .int .i64 al, .bool ad, .int .u8 af, .int .u8 3, .int .i64 en, .int .i64 el, .bool ed, .int .u8 ef, .int .i64 gl, .bool gd, .int .u8 gf])]) (c := NoRows) Tryz.func184 rfl (noRows_ok _) rfl rfl ?_
         obtain ⟨nd, hnd, nt, hnt, ar, har, cm, hcm, mx, hmx, mn, hmn, ar01, ar12, zpl, hzpl, zjn, hzjn, zup, hzup, zmi, hzmi, zdp, hzdp, hT⟩ := t0_all
         repeat' (first
          | ((with_reducible apply go_ev hT 400); (· (cbv; try rfl)); (fail_if_success with_reducible apply stuck_id); (try simp only [ar01, ar12]))
          | refine go1 ?_ | refine gobt ?_ | refine gof ?_
          | ((with_reducible apply go_inline (f := 106) (hf := Tryz.func106) (hr := Tryz.results106) (hcall := Tryz.call106)); (· rfl); (· (cbv; try rfl)))
          | ((with_reducible apply go_inline (f := 135) (hf := Tryz.func135) (hr := Tryz.results135) (hcall := Tryz.call135)); (· rfl); (· (cbv; try rfl)))
          | (with_reducible apply go_rounds 3)
          | (((with_reducible apply go_askB (arrB T)); (· exact lt_of_eq_of_lt (off2 al) (by have := hx; show _ < 16; omega)); (· have hq := arr0_putL true (o := al.toNat) (by have := hx; omega); rw [hT1]; (have ho := off2 al); refine (congrArg (fun o => leCL (pasteL [.lit false, .lit false, .lit false, .lit false, .lit false, .lit false, .lit false, .lit false, .lit false, .lit false, .lit false, .lit false, .lit false, .lit false, .lit false, .lit false] o [.lit true]) (arrB (turn (fun _ => false) al.toNat true))) ho).mpr hq); (· rfl); (· simp)))
          | (((with_reducible apply go_askB (arrB y)); (· exact lt_of_eq_of_lt (off2 el) (by have := hz; show _ < 16; omega)); (· have hq := arrB_putL T true (o := el.toNat) (by have := hz; omega); rw [hy]; exact Eq.mpr (congrArg (fun o => leCL (pasteL (arrB T) o [.lit true]) (arrB (turn T el.toNat true))) (off2 el)) hq); (· rfl); (· simp)))
          | fail)
         all_goals rfl
 · have hx := hp (.inl rfl)
   clear ha hb hp
   simp [putB] at hy
   refine go_start (args := [.pt (.agg [.int .u8 4, .int .u8 ro, .int .u8 rb, .int .u8 ak, .int .i64 an, .int .i64 al, .bool ad, .int .u8 af, .int .u8 ek, .int .i64 en, .int .i64 el, .bool ed, .int .u8 ef, .int .i64 gl, .bool gd, .int .u8 gf])]) (c := NoRows) Tryz.func184 rfl (noRows_ok _) rfl rfl ?_
   obtain ⟨nd, hnd, nt, hnt, ar, har, cm, hcm, mx, hmx, mn, hmn, ar01, ar12, zpl, hzpl, zjn, hzjn, zup, hzup, zmi, hzmi, zdp, hzdp, hT⟩ := t0_all
   repeat' (first
    | ((with_reducible apply go_ev hT 400); (· (cbv; try rfl)); (fail_if_success with_reducible apply stuck_id); (try simp only [ar01, ar12]))
    | refine go1 ?_ | refine gobt ?_ | refine gof ?_
    | ((with_reducible apply go_inline (f := 106) (hf := Tryz.func106) (hr := Tryz.results106) (hcall := Tryz.call106)); (· rfl); (· (cbv; try rfl)))
    | (with_reducible apply go_rounds 3)
    | (((with_reducible apply go_askB (arrB y)); (· exact lt_of_eq_of_lt (off2 gl) (by have := hx; show _ < 16; omega)); (· have hq := arr0_putL true (o := gl.toNat) (by have := hx; omega); rw [hy]; (have ho := off2 gl); refine (congrArg (fun o => leCL (pasteL [.lit false, .lit false, .lit false, .lit false, .lit false, .lit false, .lit false, .lit false, .lit false, .lit false, .lit false, .lit false, .lit false, .lit false, .lit false, .lit false] o [.lit true]) (arrB (turn (fun _ => false) gl.toNat true))) ho).mpr hq); (· rfl); (· simp)))
    | fail)
   all_goals rfl
 · have hx := hp (.inr rfl)
   clear ha hb hp
   simp [putB] at hy
   refine go_start (args := [.pt (.agg [.int .u8 5, .int .u8 ro, .int .u8 rb, .int .u8 ak, .int .i64 an, .int .i64 al, .bool ad, .int .u8 af, .int .u8 ek, .int .i64 en, .int .i64 el, .bool ed, .int .u8 ef, .int .i64 gl, .bool gd, .int .u8 gf])]) (c := NoRows) Tryz.func184 rfl (noRows_ok _) rfl rfl ?_
   obtain ⟨nd, hnd, nt, hnt, ar, har, cm, hcm, mx, hmx, mn, hmn, ar01, ar12, zpl, hzpl, zjn, hzjn, zup, hzup, zmi, hzmi, zdp, hzdp, hT⟩ := t0_all
   repeat' (first
    | ((with_reducible apply go_ev hT 400); (· (cbv; try rfl)); (fail_if_success with_reducible apply stuck_id); (try simp only [ar01, ar12]))
    | refine go1 ?_ | refine gobt ?_ | refine gof ?_
    | ((with_reducible apply go_inline (f := 106) (hf := Tryz.func106) (hr := Tryz.results106) (hcall := Tryz.call106)); (· rfl); (· (cbv; try rfl)))
    | (with_reducible apply go_rounds 3)
    | (((with_reducible apply go_askB (arrB y)); (· exact lt_of_eq_of_lt (off2 gl) (by have := hx; show _ < 16; omega)); (· have hq := arr0_putL true (o := gl.toNat) (by have := hx; omega); rw [hy]; (have ho := off2 gl); refine (congrArg (fun o => leCL (pasteL [.lit false, .lit false, .lit false, .lit false, .lit false, .lit false, .lit false, .lit false, .lit false, .lit false, .lit false, .lit false, .lit false, .lit false, .lit false, .lit false] o [.lit true]) (arrB (turn (fun _ => false) gl.toNat true))) ho).mpr hq); (· rfl); (· simp)))
    | fail)
   all_goals rfl
end Go.Proofs.YtmceonmlgcbcmaaGreat
