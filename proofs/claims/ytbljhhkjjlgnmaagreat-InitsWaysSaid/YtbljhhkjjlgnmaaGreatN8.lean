/- Texts joined: WaA WaB. No condition. -/
import Derived.Test.YtbljhhkjjlgnmaaGreatFlE
import Derived.Test.YtbljhhkjjlgnmaaGreatFlM
import Derived.Test.YtbljhhkjjlgnmaaGreatN7
import Derived.Test.YtbljhhkjjlgnmaaGreatSxU
/- InitsWays, plain: what is set at a point is set on whatever way to it; a function and a row of ints as arguments. No condition. -/
namespace Go.Proofs.YtbljhhkjjlgnmaaGreat
open Go.RowKit
set_option linter.unusedVariables false
set_option linter.unusedSimpArgs false

/-- A way's state: the point is reached, and what is set there is set. -/
def WayI (F : GFun) (a : Nat) (S : Nat → Bool) : Prop := ReachG (succN F) a ∧ ∀ l, setM F a l = true → S l = true
theorem setM_not {F : GFun} {n l : Nat} : setM F n l = true ↔ ¬ Cl ((flowF F).Z l) ((flowF F).R l) n := by
  rw [← clB_iff]; unfold setM FlowG.unB; simp
theorem way_zero {F : GFun} (S : Nat → Bool) (h : ∀ l, (decide (1 ≤ l) && decide (Int.ofNat l ≤ F.pa)) = true → S l = true) : WayI F 0 S := by
  refine ⟨.zero, fun l hl => h l ?_⟩
  rw [setM_not] at hl
  cases g : (flowF F).i0 l
  · exact (hl (.zero (.inl ⟨rfl, g⟩))).elim
  · exact g
theorem way_step {F : GFun} {a b : Nat} {S : Nat → Bool} (h : WayI F a S) (hb : b ∈ succN F a) : WayI F b ((flowF F).be a S) := by
  refine ⟨.step h.1 hb, fun l hl => ?_⟩
  rw [setM_not] at hl
  show ((flowF F).gS a l || (S l && !(flowF F).uS a l)) = true
  cases g : (flowF F).gS a l
  · cases u : (flowF F).uS a l
    · have : setM F a l = true := by
        rw [setM_not]; exact fun hc => hl (.step hc ⟨h.1, g, hb⟩)
      rw [h.2 l this]; rfl
    · exact (hl (.zero (.inr ⟨a, h.1, g, u, hb⟩))).elim
  · rfl
theorem way_lt {F : GFun} (hO : F.Ok) {a : Nat} {S : Nat → Bool} (h : WayI F a S) : a < stN F.sn F.bn := by
  have key : ∀ m, ReachG (succN F) m → m < stN F.sn F.bn := fun m h => by
    induction h with
    | zero => exact pts_pos hO
    | step _ hn ih => exact succN_lt hO ih _ hn
  exact key a h.1
theorem way_bad {F : GFun} (hO : F.Ok) (hi : initI F = 0) {a : Nat} {S : Nat → Bool} (h : WayI F a S) : badI (ptD F (pbN F a) (piN F a)) S < 0 := by
  have e0 : initI F = if (firstI F).2.2 = 6 then 0 else 44 := rfl
  rw [e0] at hi
  have ha := way_lt hO h
  rcases firstI_is F with ⟨k, e1, _⟩ | ⟨_, e2⟩
  · rw [e1] at hi; simp at hi
  · exact dStep_mono _ (fun d hd => (ptD_in hO (num_pt ha).1 d hd).1) (setM F a, -1) (S, -1) h.2 (fun _ => (by decide : (-1 : Int) < 0)) (e2 a ha)

/-- A function, and a row of ints behind its four families. -/
def funC (F : GFun) (a : Option Addr) (n cap : Nat) (f : Nat → Int) : Nat → Nat → Row
  | 0, i => funX F 0 i
  | 1, i => funX F 1 i
  | 2, i => funX F 2 i
  | 3, i => funX F 3 i
  | _, _ => ⟨a, n, cap, 1, fun i => [.int .i64 (f i)]⟩
theorem funC_lt {F : GFun} {a : Option Addr} {n cap : Nat} {f : Nat → Int} : ∀ q i, q < 4 → funX F q i = funC F a n cap f q i
  | 0, _, _ => rfl
  | 1, _, _ => rfl
  | 2, _, _ => rfl
  | 3, _, _ => rfl
theorem funC_ok {F : GFun} {w : World} (hF : F.At w) {a : Option Addr} {n cap : Nat} {f : Nat → Int} (h : RowAt w a n 1 (fun i => [.int .i64 (f i)])) : XOk ⟨[], funC F a n cap f, []⟩ ⟨w, []⟩ := fun q i j hj => by
  by_cases hq : q < 4
  · have e := funC_lt (F := F) (a := a) (n := n) (cap := cap) (f := f) q i hq
    have hj' : j < (funX F q i).n := by rw [e]; exact hj
    obtain ⟨b, p, g1, g2, g3, vs, g4, g5⟩ := hF.ok q i j hj'
    refine ⟨b, p, (congrArg Row.a e).symm.trans g1, g2, g3, vs, ?_, ?_⟩
    · show isL ⟨[], funC F a n cap f, []⟩ ((funC F a n cap f q i).el j) vs
      rw [← e]
      exact isL_chi (K := 4) funC_lt (funX_qb F q i j hq hj') g4
    · show ∀ (t : Nat) (v : Value), vs[t]? = some v → w.cell? ⟨b, p + (j * (funC F a n cap f q i).size + t), none⟩ = some v
      rw [← e]
      exact g5
  · obtain ⟨q, rfl⟩ : ∃ m, q = m + 4 := ⟨q - 4, by omega⟩
    obtain ⟨b, o, h1, h2, h3⟩ := h j hj
    exact ⟨b, o, h1, h2, by simp, [.int .i64 (f j)], ⟨rfl, trivial⟩, fun t v ht => h3 t v ht⟩

theorem funC_qb (F : GFun) (a : Option Addr) (n cap : Nat) (f : Nat → Int) : ∀ q i j, q < 5 → j < (funC F a n cap f q i).n → qbL 5 ((funC F a n cap f q i).el j) = true := fun q i j hq hj => by
  by_cases h : q < 4
  · rw [← funC_lt q i h] at hj ⊢
    exact qbL_up _ (funX_qb F q i j h hj)
  · obtain rfl : q = 4 := by omega
    rfl

end Go.Proofs.YtbljhhkjjlgnmaaGreat

/- InitsWays, the walk. No condition. -/
namespace Go.Proofs.YtbljhhkjjlgnmaaGreat
open Go.RowKit
set_option linter.unusedVariables false
set_option linter.unusedSimpArgs false

set_option maxRecDepth 100000 in
set_option maxHeartbeats 8000000 in
theorem waysL (F : GFun) (w : World) (hF : F.At w) (hK : F.Ty8) (a : Option Addr) (n cap : Nat) (f : Nat → Int) (hn0 : n ≤ maxLen) (hA : RowAt w a n 1 (fun i => [.int .i64 (f i)])) :
    Calls Tryz.prog 4 #[F.val, .slice a n cap] w (Ret w (.bool true)) := by
  have hXC := funC_ok (cap := cap) hF hA
  have hn1 : n ≤ 9223372036854775807 := Nat.le_trans hn0 (by decide)
  have h1 (wc : World) (hk : KB ⟨w, []⟩ wc) := greatC F wc (hF.later hk)
  have h2 (wc : World) (hk : KB ⟨w, []⟩ wc) := gfC F wc (hF.later hk)
  have h3 (wc : World) (hk : KB ⟨w, []⟩ wc) := rFnChk F wc (hF.later hk) hK
  generalize greatB F = q1 at h1
  generalize gfB F = q2 at h2
  by_cases hO : rchkV F = 0
  case neg =>
    generalize rchkV F = z at h3 hO
    have hq : decide (z = 0) = false := decide_eq_false hO
    clear hK hO hA
    obtain ⟨pa, un, lA, ln, lc, lk, lt, bA, bn, bc, sA, sn, sc, s, jA, jn, jc, ja, jk, jo, jf, jx, je, jd⟩ := F
    obtain ⟨hX, hl, hb, hs, hj⟩ := hF
    simp only at hl hb hs hj
    refine go_start (args := [.pt (.agg (GFun.dat _)), .pt (.one (.xs 4 0))]) (c := (funC _ a n cap f)) Tryz.func4 rfl hXC rfl rfl ?_
    obtain ⟨nd, hnd, nt, hnt, ar, har, cm, hcm, mx, hmx, mn, hmn, ar01, ar12, zpl, hzpl, zjn, hzjn, zup, hzup, zmi, hzmi, zdp, hzdp, hT⟩ := t0_all
    repeat' (first
      | ((with_reducible apply go_ev hT 400); (· (cbv; try rfl)); (fail_if_success with_reducible apply stuck_id))
      | ((with_reducible refine go_brnt hnt ?_ ?_); (· first | rfl | assumption))
      | (with_reducible refine go_br (fun h => ?_) (fun h => ?_))
      | ((with_reducible apply go_ret_val hT); (· (cbv; try rfl)); (· (cbv; try rfl)))
      | ((with_reducible apply go_call (f := 22) (hf := Tryz.call22)); (· (cbv; try rfl)); (· intro wc hbc hxc; exact alive15C wc))
      | ((with_reducible apply go_call_bool (f := 13) (hf := Tryz.call13)); (· (cbv; try rfl)); (· intro wc hbc hxc; exact h1 wc hbc); intro z hz)
      | ((with_reducible apply go_call_bool (f := 14) (hf := Tryz.call14)); (· (cbv; try rfl)); (· intro wc hbc hxc; exact h2 wc hbc); intro z hz)
      | ((with_reducible apply go_call (f := 23) (hf := Tryz.call23)); (· (cbv; try rfl)); (· intro wc hbc hxc; exact h3 wc hbc))
      )
    all_goals rfl
  rw [hO] at h3
  have hO : F.Ok := (rchk_eq F).symm.trans hO
  by_cases hg : 200 < n
  case pos =>
    clear hK hO hA
    obtain ⟨pa, un, lA, ln, lc, lk, lt, bA, bn, bc, sA, sn, sc, s, jA, jn, jc, ja, jk, jo, jf, jx, je, jd⟩ := F
    obtain ⟨hX, hl, hb, hs, hj⟩ := hF
    simp only at hl hb hs hj
    refine go_start (args := [.pt (.agg (GFun.dat _)), .pt (.one (.xs 4 0))]) (c := (funC _ a n cap f)) Tryz.func4 rfl hXC rfl rfl ?_
    obtain ⟨nd, hnd, nt, hnt, ar, har, cm, hcm, mx, hmx, mn, hmn, ar01, ar12, zpl, hzpl, zjn, hzjn, zup, hzup, zmi, hzmi, zdp, hzdp, hT⟩ := t0_all
    have c1 : cm .gtr (.ofNat n) 200 = true := by rw [hcm]; exact decide_eq_true (show (200 : Int) < (n : Int) by omega)
    repeat' (first
      | ((with_reducible apply go_ev hT 400); (· (cbv; try rfl)); (fail_if_success with_reducible apply stuck_id))
      | ((with_reducible refine go_brt ?_ ?_); (· first | rfl | assumption | (rw [hcm]; decide)))
      | ((with_reducible refine go_brnf hnt ?_ ?_); (· first | rfl | assumption))
      | (with_reducible refine go_br (fun h => ?_) (fun h => ?_))
      | ((with_reducible apply go_ret_val hT); (· (cbv; try rfl)); (· (cbv; try rfl)))
      | ((with_reducible apply go_call (f := 22) (hf := Tryz.call22)); (· (cbv; try rfl)); (· intro wc hbc hxc; exact alive15C wc))
      | ((with_reducible apply go_call_bool (f := 13) (hf := Tryz.call13)); (· (cbv; try rfl)); (· intro wc hbc hxc; exact h1 wc hbc); intro z hz)
      | ((with_reducible apply go_call_bool (f := 14) (hf := Tryz.call14)); (· (cbv; try rfl)); (· intro wc hbc hxc; exact h2 wc hbc); intro z hz)
      | ((with_reducible apply go_call (f := 23) (hf := Tryz.call23)); (· (cbv; try rfl)); (· intro wc hbc hxc; exact h3 wc hbc))
      )
    all_goals rfl
  have h40 (wc : World) (hk : KB ⟨w, []⟩ wc) := setC F wc (hF.later hk) hO
  have h5 (wc : World) (hk : KB ⟨w, []⟩ wc) := initsC F wc (hF.later hk) hO
  have h60 (wc : World) (hk : KB ⟨w, []⟩ wc) (a : Nat) (ha : a < stN F.sn F.bn) (S : Nat → Bool) := behL F wc (hF.later hk) hO a ha S
  have h7 (wc : World) (hk : KB ⟨w, []⟩ wc) := sizeC F wc (hF.later hk) hO.small
  have h80 (wc : World) (hk : KB ⟨w, []⟩ wc) (a : Nat) (ha : a < stN F.sn F.bn) := nextPC F wc (hF.later hk) hO (pbN F a) (piN F a) (num_pt ha).1 (num_pt ha).2.1
  have h90 (wc : World) (hk : KB ⟨w, []⟩ wc) (a : Nat) (ha : a < stN F.sn F.bn) (S : Nat → Bool) := rBadC F wc (hF.later hk) hO a ha S
  have h100 (wc : World) (hk : KB ⟨w, []⟩ wc) (b i : Nat) (hb : b < F.bn) (hi : i ≤ F.sn b) := numberC F wc (hF.later hk) hO b i hb hi
  have h110 (wc : World) (hk : KB ⟨w, []⟩ wc) (a : Nat) (ha : a < stN F.sn F.bn) := pointNC F wc (hF.later hk) hO.small a ha
  have hN9 := hO.pts
  have hN0 := pts_pos hO
  have hl16 := hO.ln16
  have hpa := ok_pa hO
  obtain ⟨u, hu⟩ : ∃ u, u = initI F := ⟨_, rfl⟩
  rw [← hu] at h5
  obtain ⟨N, hN⟩ : ∃ N, N = stN F.sn F.bn := ⟨_, rfl⟩
  obtain ⟨pb, hpb⟩ : ∃ f : Nat → Nat, f = pbN F := ⟨_, rfl⟩
  obtain ⟨pi, hpi⟩ : ∃ f : Nat → Nat, f = piN F := ⟨_, rfl⟩
  obtain ⟨rm, hrm⟩ : ∃ f : Nat → Nat, f = fun j => mk (setM F j) F.ln := ⟨_, rfl⟩
  obtain ⟨mS, hmS⟩ : ∃ f : (Nat → Bool) → Nat, f = fun S => mk S F.ln := ⟨_, rfl⟩
  obtain ⟨Be, hBe⟩ : ∃ f : Nat → (Nat → Bool) → Nat → Bool, f = (flowF F).be := ⟨_, rfl⟩
  obtain ⟨bd, hbd⟩ : ∃ f : Nat → (Nat → Bool) → Int, f = fun a S => badI (ptD F (pbN F a) (piN F a)) S := ⟨_, rfl⟩
  obtain ⟨nl, hnl⟩ : ∃ f : Nat → Nat, f = fun a => (nextP F (pbN F a) (piN F a)).length := ⟨_, rfl⟩
  obtain ⟨q1', hq1⟩ : ∃ f : Nat → Nat → Nat, f = fun a k => ((nextP F (pbN F a) (piN F a)).getD k (0, 0)).1 := ⟨_, rfl⟩
  obtain ⟨q2', hq2⟩ : ∃ f : Nat → Nat → Nat, f = fun a k => ((nextP F (pbN F a) (piN F a)).getD k (0, 0)).2 := ⟨_, rfl⟩
  obtain ⟨nm, hnm⟩ : ∃ f : Nat → Nat → Nat, f = nmN F := ⟨_, rfl⟩
  obtain ⟨Wy, hWy⟩ : ∃ f : Nat → (Nat → Bool) → Prop, f = WayI F := ⟨_, rfl⟩
  obtain ⟨S0, hS0⟩ : ∃ S : Nat → Bool, S = (flowF F).i0 := ⟨_, rfl⟩
  have h4 {c : Nat → Nat → Row} (wc : World) (hk : KB ⟨w, []⟩ wc) : Calls Tryz.prog 15 #[F.val] wc (RetR wc c (.tup [.one (.rs 0), .one (.int .i64 0)]) [⟨N, 1, fun j => [.int .u32 (.ofNat (rm j))]⟩]) := by
    rw [hrm, hN]; exact Calls.to ⟨fun _ _ => rfl, trivial⟩ rfl (h40 wc hk)
  have h6 (wc : World) (hk : KB ⟨w, []⟩ wc) (a : Nat) (S : Nat → Bool) (ha : a < N) : Calls Tryz.prog 26 #[F.val, .int .i64 (.ofNat a), .int .u32 (.ofNat (mS S))] wc (Ret wc (.int .u32 (.ofNat (mS (Be a S))))) := by
    rw [hmS, hBe]; exact h60 wc hk a (hN ▸ ha) S
  have h9 (wc : World) (hk : KB ⟨w, []⟩ wc) (a : Nat) (S : Nat → Bool) (ha : a < N) : Calls Tryz.prog 25 #[F.val, .int .i64 (.ofNat a), .int .u32 (.ofNat (mS S))] wc (Ret wc (.int .i64 (bd a S))) := by
    rw [hmS, hbd]; exact h90 wc hk a (hN ▸ ha) S
  have h8 {c : Nat → Nat → Row} (wc : World) (hk : KB ⟨w, []⟩ wc) (x : Nat) (hx : x < N) : Calls Tryz.prog 27 #[F.val, .agg #[.int .i64 (.ofNat (pb x)), .int .i64 (.ofNat (pi x))]] wc (RetR wc c (.tup [.one (.rs 0), .one (.int .i64 0)]) [⟨nl x, 2, fun j => [.int .i64 (.ofNat (q1' x j)), .int .i64 (.ofNat (q2' x j))]⟩]) := by
    rw [hpb, hpi, hnl, hq1, hq2]; exact Calls.to ⟨fun _ _ => rfl, trivial⟩ rfl (h80 wc hk x (hN ▸ hx))
  have h11 (wc : World) (hk : KB ⟨w, []⟩ wc) (a : Nat) (ha : a < N) : Calls Tryz.prog 28 #[F.val, .int .i64 (.ofNat a)] wc (Ret wc (.agg #[.int .i64 (.ofNat (pb a)), .int .i64 (.ofNat (pi a))])) := by
    rw [hpb, hpi]; exact h110 wc hk a (hN ▸ ha)
  have h10 (wc : World) (hk : KB ⟨w, []⟩ wc) (a k : Nat) (ha : a < N) (hk2 : k < nl a) : Calls Tryz.prog 29 #[F.val, .agg #[.int .i64 (.ofNat (q1' a k)), .int .i64 (.ofNat (q2' a k))]] wc (Ret wc (.tuple #[.int .i64 (.ofNat (nm a k)), .int .i64 0])) := by
    rw [hnl] at hk2
    have q := nmN_ok hO (hN ▸ ha) hk2
    rw [hq1, hq2, hnm]; exact h100 wc hk _ _ q.1 q.2.1
  have nl2 : ∀ a, nl a ≤ 2 := fun a => by rw [hnl]; exact nextP_len
  have wlt : ∀ {a S}, Wy a S → a < N := fun {a S} h => by rw [hWy] at h; rw [hN]; exact way_lt hO h
  have wst : ∀ {a S k}, Wy a S → k < nl a → Wy (nm a k) (Be a S) := fun {a S k} h hk => by
    rw [hWy] at h ⊢; rw [hnl] at hk; rw [hnm, hBe, ← succN_at hk]
    refine way_step h ?_
    have hk' : k < (succN F a).length := by rw [succN_len]; exact hk
    simp only [List.getD, List.getElem?_eq_getElem hk', Option.getD_some]
    exact List.getElem_mem hk'
  have wbd : u = 0 → ∀ {a S}, Wy a S → bd a S < 0 := fun e {a S} h => by
    rw [hWy] at h; rw [hbd]; exact way_bad hO (hu ▸ e) h
  have wan : ∀ {ar : BinOp → IntKind → Int → Int → Int}, ar = rAr → ∀ a S, Wy a S → ar .andNot .u32 (.ofNat (rm a)) (.ofNat (mS S)) = 0 := fun {ar} har a S h => by
    rw [hWy] at h
    rw [hrm, hmS, mk_andNot har (by omega)]
    have : mk (fun l => setM F a l && !S l) F.ln = 0 := by
      refine Eq.trans (mk_ext (T := fun _ => false) fun l _ => ?_) mk_none.symm
      cases e : setM F a l
      · rfl
      · rw [h.2 l e]; rfl
    rw [this]; rfl
  have w0 : Wy 0 S0 := by rw [hWy, hS0]; exact way_zero _ fun l h => h
  have hi0 : mS S0 = 2 ^ (F.pa.toNat + 1) - 2 := by
    rw [hmS, hS0]
    refine Nat.eq_of_testBit_eq fun l => ?_
    have e : 2 ^ (F.pa.toNat + 1) - 2 = 2 * (2 ^ F.pa.toNat - 1) := by rw [Nat.pow_succ]; omega
    have gi : ∀ l, (flowF F).i0 l = (decide (1 ≤ l) && decide (Int.ofNat l ≤ F.pa)) := fun l => rfl
    rw [mk_bit, gi, e]
    cases l with
    | zero => simp [Nat.testBit_zero]
    | succ l =>
      rw [Nat.testBit_succ, Nat.mul_div_cancel_left _ (by decide : 0 < 2), Nat.testBit_two_pow_sub_one]
      rw [Bool.eq_iff_iff]
      simp only [Bool.and_eq_true, decide_eq_true_eq, Int.ofNat_eq_natCast]
      omega
  have hpa2 : 0 ≤ F.pa ∧ F.pa.toNat ≤ 15 := by omega
  rw [← hN] at h7 hN9 hN0
  clear hrm hmS hBe hbd hnl hq1 hq2 hnm hWy hS0 hpb hpi hu h40 h60 h80 h90 h100 h110 hN hO hK hpa hA
  obtain ⟨pa, un, lA, ln, lc, lk, lt, bA, bn, bc, sA, sn, sc, s, jA, jn, jc, ja, jk, jo, jf, jx, je, jd⟩ := F
  obtain ⟨hX, hl, hb, hs, hj⟩ := hF
  simp only at hl hb hs hj
  try simp only at h4 h6 h7 h8 h9 h10 h11 hl16 hpa2 hi0
  refine go_start (args := [.pt (.agg (GFun.dat ⟨pa, un, lA, ln, lc, lk, lt, bA, bn, bc, sA, sn, sc, s, jA, jn, jc, ja, jk, jo, jf, jx, je, jd⟩)), .pt (.one (.xs 4 0))]) (c := (funC _ a n cap f)) Tryz.func4 rfl hXC rfl rfl ?_
  obtain ⟨nd, hnd, nt, hnt, ar, har, cm, hcm, mx, hmx, mn, hmn, ar01, ar12, zpl, hzpl, zjn, hzjn, zup, hzup, zmi, hzmi, zdp, hzdp, hT⟩ := t0_all
  refine go_fam 5 rfl rfl trivial (funC_qb _ a n cap f) ?_
  have wan := @wan ar har
  have c0 : cm .gtr (.ofNat n) 200 = false := by rw [hcm]; exact decide_eq_false (show ¬ (200 : Int) < (n : Int) by omega)
  have hne : ∀ {i}, i ≤ n → decide (Int.ofNat i = Int.ofNat n) = false → i < n := fun {i} h g => by
    have := of_decide_eq_false g
    rcases Nat.lt_or_eq_of_le h with h | h
    · exact h
    · exact absurd (congrArg Int.ofNat h) this
  have hnz : ∀ {x}, decide (Int.ofNat (nl x) = 0) = false → 0 < nl x := fun {x} g => by
    have := of_decide_eq_false g
    rcases Nat.eq_zero_or_pos (nl x) with h | h
    · exact absurd (congrArg Int.ofNat h) this
    · exact h
  obtain ⟨zr, hzr⟩ : ∃ g : Int → Nat → Nat, g = fun m d => m.toNat % d := ⟨_, rfl⟩
  have hzl : ∀ m {x}, decide (Int.ofNat (nl x) = 0) = false → zr m (nl x) < nl x := fun m {x} g => by
    rw [hzr]; exact Nat.mod_lt _ (hnz g)
  have hfi : ∀ {i}, cm .lss (f i) 0 = false → 0 ≤ f i := fun {i} h => by
    rw [hcm] at h
    exact Int.not_lt.1 (of_decide_eq_false h)
  have hle : ∀ {i}, i ≤ n → cm .leq (.ofNat i) (.ofNat n) = true := fun {i} h => by
    rw [hcm]; exact decide_eq_true (Int.ofNat_le.2 h)
  have hbf : decide (u = 0) = true → ∀ {x S}, Wy x S → cm .geq (bd x S) 0 = false := fun e {x S} h => by
    rw [hcm]; exact decide_eq_false (Int.not_le.2 (wbd (of_decide_eq_true e) h))
  have hgN : ∀ {x S} m, Wy x S → decide (Int.ofNat (nl x) = 0) = false → cm .geq (.ofNat (nm x (zr m (nl x)))) (.ofNat N) = false := fun {x S} m h g => by
    rw [hcm]; exact decide_eq_false (Int.not_le.2 (Int.ofNat_lt.2 (wlt (wst h (hzl m g)))))
  have hg0 : ∀ k : Nat, cm .lss (.ofNat k) 0 = false := fun k => by rw [hcm]; exact decide_eq_false (Int.not_lt.2 (Int.natCast_nonneg k))
  have qp : ar .quo .u64 pa 0 = pa := (quo_u64 har (x := pa) hpa2.1 (by omega)).trans (by simp only [Int.ofNat_eq_natCast]; omega)
  have hpa1 : ar .shl .u32 (ar .sub .u32 (ar .shl .u32 1 (ar .quo .u64 pa 0)) 1) 1 = .ofNat (mS S0) := by
    rw [qp]
    have e : pa = .ofNat pa.toNat := by simp only [Int.ofNat_eq_natCast]; omega
    have e1 := u32_shl har (b := pa.toNat) (by omega)
    rw [← e] at e1
    have e2 := u32_sub har (a := 2 ^ pa.toNat) (b := 1) Nat.one_le_two_pow (Nat.pow_lt_pow_right (by decide) (by omega))
    have hle := Nat.pow_le_pow_right (n := 2) (by decide) hpa2.2
    have e3 := u32_shlN har (a := 2 ^ pa.toNat - 1) (b := 1) (by decide) (by omega)
    rw [e1]
    refine (congrArg (fun z => ar .shl .u32 z 1) e2).trans (e3.trans ?_)
    rw [hi0, Nat.pow_succ]
    exact congrArg Int.ofNat (by omega)
  repeat' (first
    | ((with_reducible apply go_ev hT 400); (· (cbv; try rfl)); (fail_if_success with_reducible apply stuck_id))
    | (((with_reducible apply go_takeR 0 (zr (f i) (nl x)) (m := f i)); (· rfl); (· kernel_rfl); (· rfl); (· rfl); (· kernel_rfl); (· kernel_rfl); (· kernel_rfl); (· (cbv; try rfl)); (· (cbv; try rfl)); (· (cbv; try rfl)); (· exact hfi (by assumption)); (· exact hnz (by assumption)); (· rw [hzr])))
    | (((with_reducible apply go_takeR 0 (zr (0) (nl x)) (m := 0)); (· rfl); (· kernel_rfl); (· rfl); (· rfl); (· kernel_rfl); (· kernel_rfl); (· kernel_rfl); (· (cbv; try rfl)); (· (cbv; try rfl)); (· (cbv; try rfl)); (· exact Int.le_refl 0); (· exact hnz (by assumption)); (· rw [hzr])))
    | ((with_reducible refine go_brt ?_ ?_); (· first | rfl | assumption | (rw [hcm]; decide)))
    | ((with_reducible refine go_brf ?_ ?_); (· first | rfl | assumption | (rw [hcm]; decide)))
    | ((with_reducible refine go_brnf hnt ?_ ?_); (· first | rfl | assumption))
    | (with_reducible refine go_brn hnt (fun h => ?_) (fun h => ?_))
    | (with_reducible refine go_br (fun h => ?_) (fun h => ?_))
    | ((with_reducible apply go_ret_val hT); (· (cbv; try rfl)); (· (cbv; try rfl)))
    | ((with_reducible apply go_drawE); (· kernel_rfl))
    | (with_reducible refine go_fork ?_)
    | (with_reducible refine fork_cons ?_ ?_)
    | (with_reducible exact fork_nil)
    | ((with_reducible refine go_need ?_ ?_ ?_); (· first | omega | (simp only [Int.ofNat_eq_natCast]; omega)); (· first | omega | (simp only [Int.ofNat_eq_natCast]; omega)))
    | ((with_reducible apply go_call (f := 22) (hf := Tryz.call22)); (· (cbv; try rfl)); (· intro wc hbc hxc; exact alive15C wc))
    | ((with_reducible apply go_call_bool (f := 13) (hf := Tryz.call13)); (· (cbv; try rfl)); (· intro wc hbc hxc; exact h1 wc hbc); intro z hz)
    | ((with_reducible apply go_call_bool (f := 14) (hf := Tryz.call14)); (· (cbv; try rfl)); (· intro wc hbc hxc; exact h2 wc hbc); intro z hz)
    | ((with_reducible apply go_call (f := 23) (hf := Tryz.call23)); (· (cbv; try rfl)); (· intro wc hbc hxc; exact h3 wc hbc))
    | ((with_reducible apply go_callR (f := 15) (hf := Tryz.call15)); (· intro S; cbv; try rfl); (· intro wc S hbc hxc hrc; exact h4 wc hbc); (· rfl))
    | ((with_reducible apply go_call (f := 20) (hf := Tryz.call20)); (· (cbv; try rfl)); (· intro wc hbc hxc; exact h5 wc hbc))
    | (((with_reducible apply go_call (f := 24) (hf := Tryz.call24)); (· (cbv; try rfl)); (· intro wc hbc hxc; exact h7 wc hbc); (refine go_boxT 2 5 rfl rfl rfl rfl rfl ⟨fun _ _ => rfl, trivial⟩ rfl (fam_qb (funC_qb _ a n cap f)) fam_n (fun a0 _ => ?_))))
    | ((rw [hpa1]))
    | ((with_reducible apply go_call (f := 26) (hf := Tryz.call26)); (· (cbv; try rfl)); (· intro wc hbc hxc; exact h6 wc hbc x S (wlt hW)))
    | ((with_reducible apply go_call (f := 25) (hf := Tryz.call25)); (· (cbv; try rfl)); (· intro wc hbc hxc; exact h9 wc hbc x S (wlt hW)))
    | ((with_reducible apply go_call (f := 28) (hf := Tryz.call28)); (· (cbv; try rfl)); (· intro wc hbc hxc; exact h11 wc hbc x (wlt hW)))
    | ((with_reducible apply go_callR (f := 27) (hf := Tryz.call27)); (· intro S; cbv; try rfl); (· intro wc S hbc hxc hrc; exact h8 wc hbc x (wlt hW)); (· rfl))
    | ((with_reducible refine go_loopk (σ := {x : Nat × Nat × (Nat → Bool) // x.1 ≤ n ∧ Wy x.2.1 x.2.2}) [4, 12, 13, 14, 15, 16, 62, 63, 64, 65, 66, 67, 68, 69, 70, 71, 72, 73, 74, 75, 76, 77, 78, 79, 80, 81, 82, 83, 84, 85, 86, 87, 88, 89, 90, 91, 92, 93, 94, 95, 96, 97, 98, 99, 100, 101, 102, 103, 104, 105, 106, 107, 108, 109, 110, 111, 112, 113, 114, 115, 116, 117, 118, 119, 120, 121, 122, 123, 124, 125, 126, 127, 128, 129, 130, 131, 132, 133, 134, 135, 136, 137, 138, 139, 140, 141, 142, 143, 144, 145] (fun x => [(11, .pt (.one (.int .i64 (.ofNat x.1.1)))), (10, .pt (.one (.int .i64 (.ofNat x.1.2.1)))), (9, .pt (.one (.int .u32 (.ofNat (mS x.1.2.2)))))]) (fun x => []) (fun x => []) (fun x => n - x.1.1) ⟨(0, 0, S0), Nat.zero_le _, w0⟩ ?_ ?_ ?_ ?_); (· (refine le_mk ?_ ?_ ?_ ?_ <;> (cbv; (try simp only [true_and, and_true]); (try ((repeat' apply And.intro) <;> (first | trivial | rfl | exact RowLe.rfl' _ | (rw [wrap_nat har _ (by omega)]))))))); (· (cbv; try rfl)); (· simp); (rintro ⟨⟨i, x, S⟩, hi, hW⟩ mm hmm))
    | (((with_reducible apply go_need); (· rw [qp]; exact hpa2.1); (· rw [qp]; exact (show pa < ((pa.toNat + 1 : Nat) : Int) by omega))))
    | (((with_reducible apply go_need); (· exact Int.natCast_nonneg _); (· first | exact Int.ofNat_lt.2 (wlt hW) | exact Int.ofNat_lt.2 (hne hi (by assumption)) | exact Int.ofNat_lt.2 (hzl _ (by assumption)))))
    | ((with_reducible apply go_call (f := 29) (hf := Tryz.call29)); (· (cbv; try rfl)); (· intro wc hbc hxc; exact h10 wc hbc x _ (wlt hW) (hzl _ (by assumption))))
    | ((with_reducible refine go_stop (⟨(i + 1, nm x (zr (f i) (nl x)), Be x S), Nat.succ_le_of_lt (hne hi (by assumption)), wst hW (hzl _ (by assumption))⟩ : {x : Nat × Nat × (Nat → Bool) // x.1 ≤ n ∧ Wy x.2.1 x.2.2}) ?_ ?_ ?_ ?_); (· subst hmm; (have hlt2 := hne hi (by assumption); show n - (i + 1) < n - i; omega)); (· (refine le_mk ?_ ?_ ?_ ?_ <;> (cbv; (try simp only [true_and, and_true]); (try ((repeat' apply And.intro) <;> (first | trivial | rfl | exact RowLe.rfl' _ | (rw [wrap_nat har _ (by omega)]))))))); (· (cbv; try rfl)); (· simp))
    | ((with_reducible refine go_stop (⟨(i + 1, nm x (zr 0 (nl x)), Be x S), Nat.succ_le_of_lt (hne hi (by assumption)), wst hW (hzl _ (by assumption))⟩ : {x : Nat × Nat × (Nat → Bool) // x.1 ≤ n ∧ Wy x.2.1 x.2.2}) ?_ ?_ ?_ ?_); (· subst hmm; (have hlt2 := hne hi (by assumption); show n - (i + 1) < n - i; omega)); (· (refine le_mk ?_ ?_ ?_ ?_ <;> (cbv; (try simp only [true_and, and_true]); (try ((repeat' apply And.intro) <;> (first | trivial | rfl | exact RowLe.rfl' _ | (rw [wrap_nat har _ (by omega)]))))))); (· (cbv; try rfl)); (· simp))
    )
  all_goals first | rfl | exact absurd ((show decide (ar .andNot .u32 (.ofNat (rm x)) (.ofNat (mS S)) = 0) = true from decide_eq_true (wan x S hW)).symm.trans (by assumption)) (by decide) | exact absurd ((hbf (by assumption) hW).symm.trans (by assumption)) (by decide) | exact absurd ((hle hi).symm.trans (by assumption)) (by decide) | exact absurd ((hgN (f i) hW (by assumption)).symm.trans (by assumption)) (by decide) | exact absurd ((hgN 0 hW (by assumption)).symm.trans (by assumption)) (by decide) | exact absurd ((hg0 _).symm.trans (by assumption)) (by decide) | trace_state

end Go.Proofs.YtbljhhkjjlgnmaaGreat
