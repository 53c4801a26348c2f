/- LivelyAdded, the walk. No condition. -/
import Derived.Test.YtbljhhkjjlgnmaaGreatLxA
import Derived.Test.YtbljhhkjjlgnmaaGreatSvL
namespace Go.Proofs.YtbljhhkjjlgnmaaGreat
open Go.RowKit
set_option linter.unusedVariables false
set_option linter.unusedSimpArgs false

/-- The print's cells, as a literal has them. -/
def prLC (x : Nat) : List SC := [.int .u8 2, .int .i64 0, .lit false, .int .u8 0, .int .u8 0, .int .u8 0, .int .u8 0, .int .u8 0, .int .i64 0, .int .i64 0, .lit false, .int .u8 0, .int .u8 0, .int .i64 0, .int .i64 0, .lit false, .int .u8 0, .int .i64 0, .lit false, .int .u8 0, .int .u8 2, .int .i64 0, .int .i64 (.ofNat x), .lit false, .int .u8 0, .int .i64 0]
theorem prLC_le (x : Nat) : leCL (cutL (prLC x) (0 + 0 * 26) 26) (prL x).sc := by
  cbv
theorem liM_moved (F : GFun) (lA : Option Addr) (lc : Nat) (bA : Option Addr) (bc : Nat) (sA : Nat → Option Addr) (sc : Nat → Nat) (jA : Nat → Option Addr) (jc : Nat → Nat) : liM (F.moved lA lc bA bc sA sc jA jc) = liM F := rfl
theorem insA_live {F : GFun} {b0 i0 : Nat} {t : GStmt} {y : Option Addr × Nat} {wc : World} {v : Value} (hs0 : F.sn b0 ≤ 24) (hF : F.At wc) (hO : (F.ins b0 i0 t).Ok) (hD : (F.ins b0 i0 t).Fd) (hx : XOk ⟨[], chiG (funX F) 4 (insAG F b0 i0 t y), []⟩ ⟨wc, []⟩) (hR : RowIs (chiG (funX F) 4 (insAG F b0 i0 t y)) wc ⟨F.bn, 14, insAQ F b0 y⟩ v) {c : Nat → Nat → Row} :
    Calls Tryz.prog 35 #[.agg #[.int .i64 F.pa, .bool F.un, .slice F.lA F.ln F.lc, v]] wc (RetR wc c (.tup [.one (.rs 0), .one (.int .i64 0)]) [⟨stN (F.ins b0 i0 t).sn (F.ins b0 i0 t).bn, 1, fun j => [.int .u32 (.ofNat (liM (F.ins b0 i0 t) j))]⟩]) := by
  obtain ⟨a, cap, rfl, hA⟩ := insA_more hF.s hs0 hF hx hR
  have hO' := insA_ok (y := y) (a := a) (cap := cap) hO
  rw [insA_moved] at hA hO'
  have := livesC _ wc hA hO' hD
  rw [liM_moved] at this
  exact Calls.to ⟨fun _ _ => rfl, trivial⟩ rfl this
theorem insP_fd {F : GFun} {b0 x : Nat} (hD : F.Fd) : (insP F b0 x).Fd := fun b hb => by
  refine ⟨fun i hi => ?_, (hD b hb).2⟩
  by_cases g : b = b0
  · subst g
    cases i with
    | zero => rw [insP_s0]; exact Int.le_refl 0
    | succ i => rw [insP_sS]; rw [insP_sn] at hi; exact (hD b hb).1 i (by omega)
  · rw [insP_so g]; rw [insP_sno g] at hi; exact (hD b hb).1 i hi

attribute [local irreducible] Calls
theorem wLxB_5 {p : Prop} (h : p := by (first | (cbv; (try simp only [true_and, and_true]); (try ((repeat' apply And.intro) <;> (first | trivial | rfl | exact RowLe.rfl' _ | decide | (rw [wrap_nat har _ (by omega)]; done) | ((rw [wrap_nat har i (by have h9 : i < N := (by assumption); omega)])) | fail))); done) | fail)) : Pf p := ⟨h⟩
set_option maxRecDepth 100000 in
set_option maxHeartbeats 16000000 in
theorem addedL (F : GFun) (w : World) (hF : F.At w) (hK : F.Ty8) (hD : F.Fd) (block lo : Int) :
    Calls Tryz.prog 7 #[F.val, .int .i64 block, .int .i64 lo] w (Ret w (.bool true)) := by
  have h1 (wc : World) (hk : KB ⟨w, []⟩ wc) := fit16C F wc (hF.later hk) hK
  by_cases hO : fitB F = true
  case neg =>
    have e : fitB F = false := by simpa using hO
    rw [e] at h1
    clear hK hO e hD
    obtain ⟨pa, un, lA, ln, lc, lk, lt, bA, bn, bc, sA, sn, sc, s, jA, jn, jc, ja, jk, jo, jf, jx, je, jd⟩ := F
    obtain ⟨hX, hl, hb, hs, hj⟩ := hF
    simp only at hl hb hs hj
    refine go_start (args := [.pt (.agg (GFun.dat _)), .pt (.one (.int .i64 block)), .pt (.one (.int .i64 lo))]) (c := (funX _)) Tryz.func7 rfl hX rfl rfl ?_
    obtain ⟨nd, hnd, nt, hnt, ar, har, cm, hcm, mx, hmx, mn, hmn, ar01, ar12, zpl, hzpl, zjn, hzjn, zup, hzup, zmi, hzmi, zdp, hzdp, hT⟩ := t0_all
    repeat' (first
      | refine go1 ?_ | refine gobt ?_ | refine gobn ?_ | refine go3 (fun hlt => ?_) (fun hge => ?_) | refine go2 (fun h => ?_) (fun h => ?_) | exact go0 | refine god ?_ | refine gof ?_ | refine gob ?_ | (with_reducible refine fork_cons ?_ ?_)
      | ((with_reducible apply go_call (f := 33) (hf := Tryz.call33)); (· (cbv; try rfl)); (· intro wc hbc hxc; exact alive16C wc))
      | ((with_reducible apply go_callq (f := 33) (hf := Tryz.call33)); (· (cbv; try rfl)); (· intro wc hbc hxc; exact alive16C wc))
      | ((with_reducible apply go_call (f := 34) (hf := Tryz.call34)); (· (cbv; try rfl)); (· intro wc hbc hxc; exact h1 wc hbc))
      | ((with_reducible apply go_callq (f := 34) (hf := Tryz.call34)); (· (cbv; try rfl)); (· intro wc hbc hxc; exact h1 wc hbc))
      | fail)
    all_goals rfl
  rw [hO] at h1
  have hO := fit_ok hO
  by_cases hgood : 0 ≤ block ∧ block < F.bn ∧ 0 ≤ lo ∧ lo < F.ln
  case neg =>
    clear hK hO hD
    obtain ⟨pa, un, lA, ln, lc, lk, lt, bA, bn, bc, sA, sn, sc, s, jA, jn, jc, ja, jk, jo, jf, jx, je, jd⟩ := F
    obtain ⟨hX, hl, hb, hs, hj⟩ := hF
    simp only at hl hb hs hj
    simp only at hgood
    refine go_start (args := [.pt (.agg (GFun.dat _)), .pt (.one (.int .i64 block)), .pt (.one (.int .i64 lo))]) (c := (funX _)) Tryz.func7 rfl hX rfl rfl ?_
    obtain ⟨nd, hnd, nt, hnt, ar, har, cm, hcm, mx, hmx, mn, hmn, ar01, ar12, zpl, hzpl, zjn, hzjn, zup, hzup, zmi, hzmi, zdp, hzdp, hT⟩ := t0_all
    have c1 : cm .lss block 0 = true ∨ (cm .lss block 0 = false ∧ (cm .geq block (.ofNat bn) = true ∨ (cm .geq block (.ofNat bn) = false ∧ (cm .lss lo 0 = true ∨ (cm .lss lo 0 = false ∧ cm .geq lo (.ofNat ln) = true))))) := by
      rw [hcm]
      simp only [rCm, decide_eq_true_eq, decide_eq_false_iff_not, Int.ofNat_eq_natCast]
      omega
    rcases c1 with c1 | ⟨c1, c2 | ⟨c2, c3 | ⟨c3, c4⟩⟩⟩
    all_goals
      repeat' (first
        | refine go1 ?_ | refine gobt ?_ | refine gobn ?_ | refine go3 (fun hlt => ?_) (fun hge => ?_) | refine go2 (fun h => ?_) (fun h => ?_) | exact go0 | refine god ?_ | refine gof ?_ | refine gob ?_ | (with_reducible refine fork_cons ?_ ?_)
        | ((with_reducible apply go_call (f := 33) (hf := Tryz.call33)); (· (cbv; try rfl)); (· intro wc hbc hxc; exact alive16C wc))
        | ((with_reducible apply go_callq (f := 33) (hf := Tryz.call33)); (· (cbv; try rfl)); (· intro wc hbc hxc; exact alive16C wc))
        | ((with_reducible apply go_call (f := 34) (hf := Tryz.call34)); (· (cbv; try rfl)); (· intro wc hbc hxc; exact h1 wc hbc))
        | ((with_reducible apply go_callq (f := 34) (hf := Tryz.call34)); (· (cbv; try rfl)); (· intro wc hbc hxc; exact h1 wc hbc))
        | fail)
    all_goals rfl
  obtain ⟨g1, g2, g3, g4⟩ := hgood
  obtain ⟨b0, rfl⟩ : ∃ n : Nat, block = .ofNat n := ⟨block.toNat, by simp only [Int.ofNat_eq_natCast]; omega⟩
  obtain ⟨L, rfl⟩ : ∃ n : Nat, lo = .ofNat n := ⟨lo.toNat, by simp only [Int.ofNat_eq_natCast]; omega⟩
  have hb0 : b0 < F.bn := by simp only [Int.ofNat_eq_natCast] at g2; omega
  have hL : L < F.ln := by simp only [Int.ofNat_eq_natCast] at g4; omega
  clear g1 g2 g3 g4
  by_cases hkk : F.lk L = 1
  case neg =>
    clear hK hO hD
    obtain ⟨pa, un, lA, ln, lc, lk, lt, bA, bn, bc, sA, sn, sc, s, jA, jn, jc, ja, jk, jo, jf, jx, je, jd⟩ := F
    obtain ⟨hX, hl, hb, hs, hj⟩ := hF
    simp only at hl hb hs hj
    simp only at hkk hb0 hL
    refine go_start (args := [.pt (.agg (GFun.dat _)), .pt (.one (.int .i64 (.ofNat b0))), .pt (.one (.int .i64 (.ofNat L)))]) (c := (funX _)) Tryz.func7 rfl hX rfl rfl ?_
    obtain ⟨nd, hnd, nt, hnt, ar, har, cm, hcm, mx, hmx, mn, hmn, ar01, ar12, zpl, hzpl, zjn, hzjn, zup, hzup, zmi, hzmi, zdp, hzdp, hT⟩ := t0_all
    have c1 : cm .lss (.ofNat b0) 0 = false := by rw [hcm]; exact decide_eq_false (Int.not_lt.2 (Int.natCast_nonneg b0))
    have c2 : cm .geq (.ofNat b0) (.ofNat bn) = false := by rw [hcm]; exact decide_eq_false (show ¬ (bn : Int) ≤ (b0 : Int) by omega)
    have c3 : cm .lss (.ofNat L) 0 = false := by rw [hcm]; exact decide_eq_false (Int.not_lt.2 (Int.natCast_nonneg L))
    have c4 : cm .geq (.ofNat L) (.ofNat ln) = false := by rw [hcm]; exact decide_eq_false (show ¬ (ln : Int) ≤ (L : Int) by omega)
    have c5 : decide (lk L = 1) = false := decide_eq_false hkk
    repeat' (first
      | refine go1 ?_ | refine gobt ?_ | refine gobn ?_ | refine go3 (fun hlt => ?_) (fun hge => ?_) | refine go2 (fun h => ?_) (fun h => ?_) | exact go0 | refine god ?_ | refine gof ?_ | refine gob ?_ | (with_reducible refine fork_cons ?_ ?_)
      | ((with_reducible apply go_call (f := 33) (hf := Tryz.call33)); (· (cbv; try rfl)); (· intro wc hbc hxc; exact alive16C wc))
      | ((with_reducible apply go_callq (f := 33) (hf := Tryz.call33)); (· (cbv; try rfl)); (· intro wc hbc hxc; exact alive16C wc))
      | ((with_reducible apply go_call (f := 34) (hf := Tryz.call34)); (· (cbv; try rfl)); (· intro wc hbc hxc; exact h1 wc hbc))
      | ((with_reducible apply go_callq (f := 34) (hf := Tryz.call34)); (· (cbv; try rfl)); (· intro wc hbc hxc; exact h1 wc hbc))
      | (((with_reducible apply go_need); (· exact Int.natCast_nonneg _); (· exact Int.ofNat_lt.2 hL)))
      | fail)
    all_goals rfl
  have hs0 : F.sn b0 ≤ 24 := hO.sn24 hb0
  have h30 (wc : World) (hk : KB ⟨w, []⟩ wc) {c : Nat → Nat → Row} := Calls.to (c' := c) (r := [⟨stN F.sn F.bn, 1, fun j => [.int .u32 (.ofNat (liM F j))]⟩]) ⟨fun _ _ => rfl, trivial⟩ rfl (livesC F wc (hF.later hk) hO hD)
  have h4 (wc : World) (hk : KB ⟨w, []⟩ wc) (y : Option Addr × Nat) (v : Value) := insA_check (F := F) (b0 := b0) (i0 := 0) (t := prL L) (y := y) (wc := wc) (v := v) hs0 (hF.later hk) hK
  have h50 (wc : World) (hk : KB ⟨w, []⟩ wc) (hz : rchkV (insP F b0 L) = 0) (y : Option Addr × Nat) (v : Value) {c : Nat → Nat → Row} := insA_live (F := F) (b0 := b0) (i0 := 0) (t := prL L) (y := y) (wc := wc) (v := v) (c := c) hs0 (hF.later hk) ((rchk_eq _).symm.trans hz) (insP_fd hD)
  have h6 (wc : World) (hk : KB ⟨w, []⟩ wc) {c : Nat → Nat → Row} := Calls.to (c' := c) (r := [⟨F.bn + 1, 1, fun j => [.int .i64 (.ofNat (stN F.sn j))]⟩]) ⟨fun _ _ => rfl, trivial⟩ rfl (startsC F wc (hF.later hk) hO.small.s hO.small.b)
  have h7 (wc : World) (hk : KB ⟨w, []⟩ wc) := sizeC F wc (hF.later hk) hO.small
  have hN9 := hO.pts
  have hl16 := hO.ln16
  have hb24 := hO.bn24
  obtain ⟨N, hN⟩ : ∃ N, N = stN F.sn F.bn := ⟨_, rfl⟩
  obtain ⟨A, hA⟩ : ∃ f : Nat → Nat, f = liM F := ⟨_, rfl⟩
  obtain ⟨B, hB⟩ : ∃ f : Nat → Nat, f = liM (insP F b0 L) := ⟨_, rfl⟩
  obtain ⟨st, hstt⟩ : ∃ f : Nat → Nat, f = stN F.sn := ⟨_, rfl⟩
  obtain ⟨at_, hat⟩ : ∃ n : Nat, n = stN F.sn b0 := ⟨_, rfl⟩
  have hst0 : st b0 = at_ := by rw [hstt, hat]
  have hatN : at_ < N := by rw [hat, hN]; have := stN_lt (sn := F.sn) hb0 (Nat.zero_le _); omega
  have h3 (wc : World) (hk : KB ⟨w, []⟩ wc) {c : Nat → Nat → Row} : Calls Tryz.prog 35 #[F.val] wc (RetR wc c (.tup [.one (.rs 0), .one (.int .i64 0)]) [⟨N, 1, fun j => [.int .u32 (.ofNat (A j))]⟩]) := by
    rw [hA, hN]; exact h30 wc hk
  have h5 (wc : World) (hk : KB ⟨w, []⟩ wc) (hz : rchkV (insP F b0 L) = 0) (y : Option Addr × Nat) (v : Value) {c : Nat → Nat → Row} (hx : XOk ⟨[], chiG (funX F) 4 (insAG F b0 0 (prL L) y), []⟩ ⟨wc, []⟩) (hR : RowIs (chiG (funX F) 4 (insAG F b0 0 (prL L) y)) wc ⟨F.bn, 14, insAQ F b0 y⟩ v) : Calls Tryz.prog 35 #[.agg #[.int .i64 F.pa, .bool F.un, .slice F.lA F.ln F.lc, v]] wc (RetR wc c (.tup [.one (.rs 0), .one (.int .i64 0)]) [⟨N + 1, 1, fun j => [.int .u32 (.ofNat (B j))]⟩]) := by
    have := h50 wc hk hz y v (c := c) hx hR
    rw [insP_N hb0] at this
    rw [hB, hN]; exact this
  have hok : ∀ {ar : BinOp → IntKind → Int → Int → Int}, ar = rAr → _ := fun {ar} har => added_ok (F := F) (b0 := b0) (x := L) hO hb0 hL har
  rw [← hA, ← hB, ← hat, ← hN] at hok
  rw [← hN] at h7 hN9
  rw [← hstt] at h6
  obtain ⟨sx, hsx⟩ : ∃ f : Nat → GStmt, f = (insP F b0 L).s b0 := ⟨_, rfl⟩
  obtain ⟨n1, hn1⟩ : ∃ n, n = F.sn b0 + 1 := ⟨_, rfl⟩
  obtain ⟨Gf, hGf⟩ : ∃ f : Option Addr × Nat → Nat → Nat → Row, f = insAG F b0 0 (prL L) := ⟨_, rfl⟩
  obtain ⟨bq, hbq⟩ : ∃ f : Option Addr × Nat → Nat → List SC, f = insAQ F b0 := ⟨_, rfl⟩
  obtain ⟨z, hz⟩ : ∃ z, z = rchkV (insP F b0 L) := ⟨_, rfl⟩
  rw [← hz] at h4 h5
  rw [← hGf, ← hbq] at h4 h5
  have hG0 : ∀ y p i, Gf y p i = if p = 0 ∧ i = 0 then ⟨y.1, n1, y.2, 26, fun i => (sx i).sc⟩ else ⟨none, 0, 0, 0, fun _ => []⟩ := fun y p i => by rw [hGf, hn1, hsx]; rfl
  have hQ0 : ∀ y b, bq y b = if b = b0 then pasteL (F.blkC b) 0 [.val (.slice y.1 n1 y.2)] else F.blkC b := fun y b => by rw [hbq, hn1]; rfl
  have hx0 : ∀ i, sx (i + 1) = F.s b0 i := fun i => by rw [hsx]; exact insP_sS i
  have hx1 : sx 0 = prL L := by rw [hsx]; exact insP_s0
  clear hGf hbq hz hsx hK hO hD hstt hat hA hB hN h30 h50
  obtain ⟨pa, un, lA, ln, lc, lk, lt, bA, bn, bc, sA, sn, sc, s, jA, jn, jc, ja, jk, jo, jf, jx, je, jd⟩ := F
  obtain ⟨hX, hl, hb, hs, hj⟩ := hF
  simp only at hl hb hs hj
  simp only at hn1 hb24 hb0 hs0 hL hkk hl16 hG0 hQ0 hx0 hx1 h1 h3 h4 h5 h6 h7
  refine go_start (args := [.pt (.agg (GFun.dat _)), .pt (.one (.int .i64 (.ofNat b0))), .pt (.one (.int .i64 (.ofNat L)))]) (c := (funX _)) Tryz.func7 rfl hX rfl rfl ?_
  obtain ⟨nd, hnd, nt, hnt, ar, har, cm, hcm, mx, hmx, mn, hmn, ar01, ar12, zpl, hzpl, zjn, hzjn, zup, hzup, zmi, hzmi, zdp, hzdp, hT⟩ := t0_all
  have hok := hok har
  have c1 : cm .lss (.ofNat b0) 0 = false := by rw [hcm]; exact decide_eq_false (Int.not_lt.2 (Int.natCast_nonneg b0))
  have c2 : cm .geq (.ofNat b0) (.ofNat bn) = false := by rw [hcm]; exact decide_eq_false (show ¬ (bn : Int) ≤ (b0 : Int) by omega)
  have c3 : cm .lss (.ofNat L) 0 = false := by rw [hcm]; exact decide_eq_false (Int.not_lt.2 (Int.natCast_nonneg L))
  have c4 : cm .geq (.ofNat L) (.ofNat ln) = false := by rw [hcm]; exact decide_eq_false (show ¬ (ln : Int) ≤ (L : Int) by omega)
  have c5 : decide (lk L = 1) = true := decide_eq_true hkk
  refine go_fam 4 rfl rfl trivial ?_ ?_
  · intro q i j hq hj
    match q, hq with
    | 0, _ => rfl
    | 1, _ => rfl
    | 2, _ => rfl
    | 3, _ => rfl
  repeat' (first
    | refine go1 ?_ | refine gobt ?_ | refine gobn ?_ | refine go3 (fun hlt => ?_) (fun hge => ?_) | refine go2 (fun h => ?_) (fun h => ?_) | exact go0 | refine gof ?_ | (with_reducible refine fork_cons ?_ ?_)
    | ((with_reducible refine go_ob ?_ ?_); (· first | trivial | (refine ⟨trivial, ?_⟩; omega) | (rw [hzpl]; refine ⟨trivial, ?_⟩; show _ + _ ≤ 1073741824; omega) | (rw [hzpl]; show _ + _ ≤ 1073741824; omega) | ((exact ⟨fun j hj => ⟨rfl, rfl⟩, by rw [hzpl]; show 0 + bn ≤ 1073741824; omega⟩))))
    | ((with_reducible apply go_call (f := 33) (hf := Tryz.call33)); (· (cbv; try rfl)); (· intro wc hbc hxc; exact alive16C wc))
    | ((with_reducible apply go_callq (f := 33) (hf := Tryz.call33)); (· (cbv; try rfl)); (· intro wc hbc hxc; exact alive16C wc))
    | ((with_reducible apply go_call (f := 34) (hf := Tryz.call34)); (· (cbv; try rfl)); (· intro wc hbc hxc; exact h1 wc hbc))
    | ((with_reducible apply go_callq (f := 34) (hf := Tryz.call34)); (· (cbv; try rfl)); (· intro wc hbc hxc; exact h1 wc hbc))
    | (((with_reducible apply go_need); (· exact Int.natCast_nonneg _); (· exact Int.ofNat_lt.2 hL)))
    | fail)
  with_reducible refine go_drawE (by kernel_rfl) ?_
  have hzb : (b0 : Int) < (zpl 0 bn : Nat) := by rw [hzpl]; show (b0 : Int) < ((0 + bn : Nat) : Int); omega
  have hfz : RowLe ⟨zpl 1 (sn b0), 26, zjn 1 (fun j => cutL (prLC L) (j * 26) 26) (fun i => (s b0 i).sc)⟩ ⟨n1, 26, fun i => (sx i).sc⟩ := by
    subst hzpl hzjn
    refine ⟨by show 1 + sn b0 = n1; rw [hn1]; omega, rfl, fun j hj => ?_⟩
    show leCL (rJn 1 (fun j => cutL (prLC L) (j * 26) 26) (fun i => (s b0 i).sc) j) (sx j).sc
    cases j with
    | zero =>
      rw [hx1]
      simp only [rJn, Nat.zero_lt_one, if_true]
      exact prLC_le L
    | succ j =>
      rw [hx0]
      simp only [rJn, if_neg (show ¬ j + 1 < 1 by omega), Nat.add_sub_cancel]
      exact leCL_rfl _
  have hqb : ∀ j, qbL 4 (zjn 0 (fun j => cutL [] (j * 14) 14) (GFun.blkC ⟨pa, un, lA, ln, lc, lk, lt, bA, bn, bc, sA, sn, sc, s, jA, jn, jc, ja, jk, jo, jf, jx, je, jd⟩) j) = true := fun j => by
    rw [hzjn]; rfl
  have hob2 : zpl 1 (sn b0) ≤ 1073741824 := by rw [hzpl]; show 1 + sn b0 ≤ _; omega
  have hrow : ∀ y : Option Addr × Nat, RowLe ⟨zpl 0 bn, 14, zup (zjn 0 (fun j => cutL [] (j * 14) 14) (GFun.blkC ⟨pa, un, lA, ln, lc, lk, lt, bA, bn, bc, sA, sn, sc, s, jA, jn, jc, ja, jk, jo, jf, jx, je, jd⟩)) b0 0 [.val (.slice y.1 n1 y.2)]⟩ ⟨bn, 14, bq y⟩ := fun y => by
    subst hzpl hzjn hzup
    refine ⟨by show 0 + bn = bn; omega, rfl, fun j hj => ?_⟩
    show leCL (rUp _ b0 0 _ j) (bq y j)
    rw [hQ0]
    simp only [rUp, rJn, Nat.not_lt_zero, if_false, Nat.sub_zero]
    exact leCL_rfl _
  have hc4 : ∀ q i j, q < 4 → j < (funX ⟨pa, un, lA, ln, lc, lk, lt, bA, bn, bc, sA, sn, sc, s, jA, jn, jc, ja, jk, jo, jf, jx, je, jd⟩ q i).n → qbL 4 ((funX ⟨pa, un, lA, ln, lc, lk, lt, bA, bn, bc, sA, sn, sc, s, jA, jn, jc, ja, jk, jo, jf, jx, je, jd⟩ q i).el j) = true := fun q i j hq hj => by
    match q, hq with
    | 0, _ => rfl
    | 1, _ => rfl
    | 2, _ => rfl
    | 3, _ => rfl
  refine go_cutL (σ := {y : Option Addr × Nat // NewA w y.1}) (fun y => chiG (funX ⟨pa, un, lA, ln, lc, lk, lt, bA, bn, bc, sA, sn, sc, s, jA, jn, jc, ja, jk, jo, jf, jx, je, jd⟩) 4 (Gf y.1)) [68, 69, 70, 71, 72, 73, 74, 75, 76, 77, 78, 79, 80, 81] (fun y => []) (fun y => []) (fun y => [(0, ⟨bn, 14, bq y.1⟩)]) rfl ?_ (fun y => ?_)
  · skip
    repeat' (first
      | refine go1 ?_ | refine gobt ?_ | refine gobn ?_ | refine go3 (fun hlt => ?_) (fun hge => ?_) | refine go2 (fun h => ?_) (fun h => ?_) | exact go0 | refine god ?_ | refine gof ?_ | (with_reducible refine fork_cons ?_ ?_)
      | (((with_reducible refine go_ob ?_ ?_); (· exact ⟨fun j hj => ⟨rfl, rfl⟩, hob2⟩); (refine go_freeze 1 0 0 (fun a cap => Gf (a, cap)) (R := ⟨n1, 26, fun i => (sx i).sc⟩) rfl hfz rfl (fun v => rfl) ⟨fun j _ => hqb j, trivial⟩ (fun j hj => rfl) hc4 (fun p i j hj => absurd hj (Nat.not_lt_zero _)) rfl (fun a cap p' i' h => by rw [hG0, if_neg h]; rfl) (fun a cap => by rw [hG0, if_pos ⟨rfl, rfl⟩]) (fun a cap hnew => ?_))))
      | (((with_reducible apply go_need); (· exact Int.natCast_nonneg _); (· first | exact hzb | exact Int.ofNat_lt.2 hb0)))
      | (((with_reducible refine go_stopC ⟨(a, cap), hnew⟩ rfl ?_ ?_ ?_); (· (refine le_mk ?_ ?_ ?_ ?_ <;> (cbv; (try simp only [true_and, and_true]); (try ((repeat' apply And.intro) <;> (first | trivial | rfl | exact hrow (a, cap))))))); (· (cbv; try rfl)); (· simp)))
      | fail)
  obtain ⟨⟨a, cap⟩, hnew⟩ := y
  simp only
  have qL : ar .quo .u64 (.ofNat L) 0 = .ofNat L := quo_u64L har (x := Int.ofNat L) (Int.natCast_nonneg L) (by simp only [Int.ofNat_eq_natCast]; omega)
  have n3 : 0 ≤ ar .quo .u64 (.ofNat L) 0 := by rw [qL]; exact Int.natCast_nonneg _
  have hnn : ∀ X : Int, 0 ≤ X → X < X.toNat + 1 := fun X h => by omega
  have eb : ar .shl .u32 1 (ar .quo .u64 (.ofNat L) 0) = .ofNat (2 ^ L) := by rw [qL, u32_shl har (by omega)]
  have aN1 : ar .add .i64 (.ofNat N) 1 = .ofNat (N + 1) := wrap_nat har _ (by omega)
  rw [← eb] at hok
  have k0 : ∀ i, i < at_ → phN at_ i = i := fun i h => by unfold phN; rw [if_pos h]
  have k1 : ∀ i, ¬ i < at_ → phN at_ i = i + 1 := fun i h => by unfold phN; rw [if_neg h]
  have cgt : ∀ {i : Nat}, cm .geq (.ofNat i) (.ofNat at_) = true → ¬ i < at_ := fun {i} h => by rw [hcm] at h; have := of_decide_eq_true h; exact Nat.not_lt.2 (Int.ofNat_le.1 this)
  have cgf : ∀ {i : Nat}, cm .geq (.ofNat i) (.ofNat at_) = false → i < at_ := fun {i} h => by rw [hcm] at h; have := of_decide_eq_false h; exact Nat.lt_of_not_le (fun g => this (Int.ofNat_le.2 g))
  repeat' (first
    | refine go1 ?_ | refine gobt ?_ | refine gobn ?_ | refine go3 (fun hlt => ?_) (fun hge => ?_) | refine go2 (fun h => ?_) (fun h => ?_) | exact go0 | refine god ?_ | refine gof ?_ | refine gob ?_ | (with_reducible refine fork_cons ?_ ?_)
    | ((first | with_reducible apply go_fin_rowsP hT | with_reducible apply go_ret_rowsP hT); (· (cbv; try rfl)); (· (cbv; try rfl)); (· exact wLxB_5); (· exact wLxB_5); (· rfl))
    | ((with_reducible apply go_callRv (f := 23) (hf := Tryz.call23)); (· intro S; cbv; try rfl); (· intro wc S hbc hxc hrc; exact h4 wc hbc (a, cap) _ hxc (hrc 0 _ rfl)))
    | ((with_reducible apply go_callR (f := 36) (hf := Tryz.call36)); (· intro S; cbv; try rfl); (· intro wc S hbc hxc hrc; exact h6 wc hbc); (· rfl))
    | ((with_reducible apply go_call (f := 24) (hf := Tryz.call24)); (· (cbv; try rfl)); (· intro wc hbc hxc; exact h7 wc hbc))
    | ((with_reducible apply go_callq (f := 24) (hf := Tryz.call24)); (· (cbv; try rfl)); (· intro wc hbc hxc; exact h7 wc hbc))
    | ((with_reducible apply go_callR (f := 35) (hf := Tryz.call35)); (· intro S; cbv; try rfl); (· intro wc S hbc hxc hrc; exact (by first | exact h3 wc hbc | exact h5 wc hbc (by have := of_decide_eq_true (by assumption : decide (z = 0) = true); exact this) (a, cap) _ hxc (hrc 0 _ rfl))); (· rfl))
    | ((rw [aN1]))
    | ((rw [hst0]))
    | ((with_reducible refine go_loopk (σ := {i : Nat // i ≤ N}) [6, 17, 132, 133, 134, 135, 136, 137, 138, 139, 140, 141, 142, 143, 144, 145, 146, 147, 148, 149, 150, 151, 152, 153, 154, 155, 156, 157, 158, 159, 160, 161, 162, 163, 164, 165, 166, 167] (fun x => [(16, .pt (.one (.int .i64 (.ofNat x.1))))]) (fun x => []) (fun x => []) (fun x => N - x.1) ⟨0, Nat.zero_le _⟩ ?_ ?_ ?_ ?_); (· exact le_mkP wLxB_5 wLxB_5 wLxB_5 wLxB_5); (· (cbv; try rfl)); (· simp); (rintro ⟨i, hi⟩ mm hmm))
    | ((with_reducible refine go_stop (⟨i + 1, Nat.succ_le_of_lt (by assumption)⟩ : {i : Nat // i ≤ N}) ?_ ?_ ?_ ?_); (· exact Nat.lt_of_lt_of_eq (show N - (i + 1) < N - i from by omega) (Eq.symm (by assumption))); (· exact le_mkP wLxB_5 wLxB_5 wLxB_5 wLxB_5); (· (cbv; try rfl)); (· simp))
    | ((rw [wrap_nat har i (by have h9 : i < N := (by assumption); omega)]))
    | (((with_reducible apply go_need); (· exact n3); (· exact hnn _ n3)))
    | (((with_reducible apply go_need); (· exact Int.natCast_nonneg _); (· first | exact Int.ofNat_lt.2 (by assumption) | exact Int.ofNat_lt.2 (Nat.lt_succ_of_lt (by assumption)) | exact Int.ofNat_lt.2 (Nat.succ_lt_succ (by assumption)) | exact Int.ofNat_lt.2 (Nat.lt_succ_of_lt hb0) | exact Int.ofNat_lt.2 (Nat.lt_succ_of_lt hatN))))
    | (fail)
    | fail)
  all_goals first
    | rfl
    | exact absurd aN1.symm (of_decide_eq_false (by assumption))
    | exact absurd (of_decide_eq_true (by assumption)) hok.1
    | (have g := cgt (by assumption); have q := hok.2 i (by assumption); rw [k1 i g] at q; exact absurd q.1 (of_decide_eq_false (by assumption)))
    | (have g := cgt (by assumption); have q := hok.2 i (by assumption); rw [k1 i g] at q; exact absurd q.2 (of_decide_eq_false (by assumption)))
    | (have g := cgf (by assumption); have q := hok.2 i (by assumption); rw [k0 i g] at q; exact absurd q.1 (of_decide_eq_false (by assumption)))
    | (have g := cgf (by assumption); have q := hok.2 i (by assumption); rw [k0 i g] at q; exact absurd q.2 (of_decide_eq_false (by assumption)))
    | trace_state

end Go.Proofs.YtbljhhkjjlgnmaaGreat
