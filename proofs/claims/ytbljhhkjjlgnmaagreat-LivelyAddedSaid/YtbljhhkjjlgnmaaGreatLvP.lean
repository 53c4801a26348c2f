/- LivelyUses: what a point uses and sets, and what is live there. No condition. -/
import Derived.Test.YtbljhhkjjlgnmaaGreatV6
import Derived.Test.YtbljhhkjjlgnmaaGreatN6
namespace Go.Proofs.YtbljhhkjjlgnmaaGreat
open Go.RowKit
set_option linter.unusedVariables false
set_option linter.unusedSimpArgs false

theorem bit_is {ar : BinOp → IntKind → Int → Int → Int} (har : ar = rAr) {S : Nat → Bool} {n l : Nat} (hn : n ≤ 32) (hl : l < n) : ar .and .u32 (ar .shr .u32 (.ofNat (mk S n)) (.ofNat l)) 1 = if S l = true then 1 else 0 := by
  rw [u32_shr har (by omega)]
  have h1 : mk S n / 2 ^ l < 2 ^ 32 := Nat.lt_of_le_of_lt (Nat.div_le_self _ _) (mk_32 hn)
  have := u32_and har (a := mk S n / 2 ^ l) (b := 1) h1 (by decide)
  refine this.trans ?_
  rw [Nat.and_one_is_mod, mk_odd, decide_eq_true hl]
  cases S l <;> rfl

theorem quo_u64L {ar : BinOp → IntKind → Int → Int → Int} (har : ar = rAr) {x : Int} (h0 : 0 ≤ x) (h1 : x < 1000) : ar .quo .u64 x 0 = .ofNat x.toNat := by
  rw [har]
  show IntKind.u64.wrap x = _
  have e : IntKind.u64.wrap x = x % (2 ^ 64 : Int) := by simp [IntKind.wrap, IntKind.bits, IntKind.signed]
  rw [e]
  simp only [Int.ofNat_eq_natCast]
  omega
/-- What the statements consider. -/
def fitB (F : GFun) : Bool := !greatB F && (!gfB F && decide (rchkV F = 0))
set_option maxRecDepth 100000 in
theorem fit16C (F : GFun) (w : World) (hF : F.At w) (hK : F.Ty8) :
    Calls Tryz.prog 34 #[F.val] w (Ret w (.bool (fitB F))) := by
  have h1 (wc : World) (hk : KB ⟨w, []⟩ wc) := greatC F wc (hF.later hk)
  have h2 (wc : World) (hk : KB ⟨w, []⟩ wc) := gfC F wc (hF.later hk)
  have h3 (wc : World) (hk : KB ⟨w, []⟩ wc) := rFnChk F wc (hF.later hk) hK
  unfold fitB
  generalize greatB F = q1 at h1 ⊢
  generalize gfB F = q2 at h2 ⊢
  generalize rchkV F = q3 at h3 ⊢
  clear hK
  obtain ⟨pa, un, lA, ln, lc, lk, lt, bA, bn, bc, sA, sn, sc, s, jA, jn, jc, ja, jk, jo, jf, jx, je, jd⟩ := F
  obtain ⟨hX, hl, hb, hs, hj⟩ := hF
  simp only at hl hb hs hj
  refine go_start (args := [.pt (.agg (GFun.dat ⟨pa, un, lA, ln, lc, lk, lt, bA, bn, bc, sA, sn, sc, s, jA, jn, jc, ja, jk, jo, jf, jx, je, jd⟩))]) (c := (funX ⟨pa, un, lA, ln, lc, lk, lt, bA, bn, bc, sA, sn, sc, s, jA, jn, jc, ja, jk, jo, jf, jx, je, jd⟩)) Tryz.func34 rfl hX rfl rfl ?_
  obtain ⟨nd, hnd, nt, hnt, ar, har, cm, hcm, mx, hmx, mn, hmn, ar01, ar12, zpl, hzpl, zjn, hzjn, zup, hzup, zmi, hzmi, zdp, hzdp, hT⟩ := t0_all
  repeat' (first
    | refine go1 ?_ | refine go2 (fun h => ?_) (fun h => ?_)
    | ((with_reducible apply go_call_bool (f := 13) (hf := Tryz.call13)); (· (cbv; try rfl)); (· intro wc hbc hxc; exact h1 wc hbc); intro z hz)
    | ((with_reducible apply go_call_bool (f := 14) (hf := Tryz.call14)); (· (cbv; try rfl)); (· intro wc hbc hxc; exact h2 wc hbc); intro z hz)
    | ((with_reducible apply go_call (f := 23) (hf := Tryz.call23)); (· (cbv; try rfl)); (· intro wc hbc hxc; exact h3 wc hbc))
    | fail)
  all_goals
    subst hnt hnd
    subst_vars
    simp_all
theorem fit_ok {F : GFun} (h : fitB F = true) : F.Ok := by
  simp only [fitB, Bool.and_eq_true, decide_eq_true_eq] at h
  exact (rchk_eq F).symm.trans h.2.2

theorem sI_lo {F : GFun} (hO : F.Ok) {b i : Nat} (hb : b < F.bn) : -1 ≤ sI F b i := by
  unfold sI
  split
  · rename_i hi
    have h1 := hO.stIn hb hi
    unfold stS
    split
    · rename_i h3
      have := h1 (⟨(F.s b i).l, false, 0⟩, false) (by unfold stPl; rw [if_pos h3]; simp)
      have := this.1
      simp only at this
      omega
    · rename_i h3
      split
      · rename_i h
        simp only [Bool.and_eq_true, decide_eq_true_eq] at h
        have := h1 ((F.s b i).p, false) (by
          unfold stPl
          rw [if_neg h3, if_neg (by omega), if_pos h.1]
          split
          · simp
          · split <;> simp)
        have := this.1
        simp only at this
        omega
      · omega
  · split
    · rename_i h
      have := hO.jmIn hb (F.jd b, false) (by unfold jmPlB jmPl; rw [if_neg (by omega), if_pos h.1]; simp)
      have := this.1
      simp only at this
      omega
    · omega
theorem um_fresh {F : GFun} {a : Nat} (hi : piN F a < F.sn (pbN F a)) (hk : (F.s (pbN F a) (piN F a)).k = 3) : umN F a = 0 ∧ smN F a = (F.s (pbN F a) (piN F a)).l := by
  unfold umN smN
  refine ⟨?_, ?_⟩
  · have : uB F (pbN F a) (piN F a) = fun _ => false := by
      funext l; rw [uB_is]; unfold usC; rw [if_pos hi]; unfold usS; rw [decide_eq_true hk]; rfl
    rw [this, ← mk_none]
  · unfold sI stS; rw [if_pos hi, if_pos hk]
theorem um_jump {F : GFun} (hO : F.Ok) {a : Nat} (ha : a < stN F.sn F.bn) (hi : ¬ piN F a < F.sn (pbN F a)) (hk : F.jk (pbN F a) = 1 ∨ F.jk (pbN F a) = 3 ∨ F.jk (pbN F a) = 5) : umN F a = (if F.jk (pbN F a) = 3 then 1 else 0) ∧ smN F a = -1 := by
  have hb := (num_pt ha).1
  have hok := hO.okJ hb
  have hl := hO.lpos
  unfold umN smN
  generalize pbN F a = b at hi hk hb hok ⊢
  have hj : F.jn b = 0 ∧ wholeP (F.jd b) = true := by
    simp only [GJump.ok, GJump.bare, GPlace.eqB, GPlace.zero, GFun.jump, Bool.or_eq_true, Bool.and_eq_true, beq_iff_eq, decide_eq_true_eq] at hok
    have hl := argL_len (F.jn b) (F.ja b)
    have hn : (argL (F.jn b) (F.ja b)).isEmpty = true := by grind
    have hd : (F.jd b).d = false ∧ (F.jd b).f = 0 := by grind
    rw [List.isEmpty_iff] at hn
    rw [hn] at hl
    exact ⟨by simpa using hl.symm, by simp [wholeP, hd.1, hd.2]⟩
  have htd : tdS F b = fun _ => false := by
    unfold tdS; rw [if_neg (by omega), hj.1]; rfl
  refine ⟨?_, ?_⟩
  · have : uB F b (piN F a) = fun l => decide (l < 16) && (if F.jk b = 3 then turn (fun _ => false) 0 true else fun _ => false) l := by
      funext l; rw [uB_is]; unfold usC; rw [if_neg hi]; unfold jmS; rw [hj.2, htd]; simp
    rw [this]
    by_cases h3 : F.jk b = 3
    · simp only [if_pos h3]
      have e : (fun l => decide (l < 16) && turn (fun _ => false) 0 true l) = fun l => decide (l = 0) := by
        funext l; unfold turn
        by_cases h : l = 0
        · subst h; rfl
        · rw [if_neg h, decide_eq_false h]; simp
      rw [e, ← mk_one hl]
    · simp only [if_neg h3, Bool.and_false]
      exact mk_none.symm
  · unfold sI; rw [if_neg hi, if_neg (by omega)]


set_option maxRecDepth 100000 in
set_option maxHeartbeats 8000000 in
theorem usesL (F : GFun) (w : World) (hF : F.At w) (hK : F.Ty8) (hD : F.Fd) (at_ : Int) :
    Calls Tryz.prog 12 #[F.val, .int .i64 at_] w (Ret w (.bool true)) := by
  have h1 (wc : World) (hk : KB ⟨w, []⟩ wc) := fit16C F wc (hF.later hk) hK
  by_cases hO : fitB F = true
  case neg =>
    have hq : fitB F = false := by simpa using hO
    rw [hq] at h1
    clear hK hO hq hD
    obtain ⟨pa, un, lA, ln, lc, lk, lt, bA, bn, bc, sA, sn, sc, s, jA, jn, jc, ja, jk, jo, jf, jx, je, jd⟩ := F
    obtain ⟨hX, hl, hb, hs, hj⟩ := hF
    simp only at hl hb hs hj
    refine go_start (args := [.pt (.agg (GFun.dat _)), .pt (.one (.int .i64 at_))]) (c := (funX _)) Tryz.func12 rfl hX rfl rfl ?_
    obtain ⟨nd, hnd, nt, hnt, ar, har, cm, hcm, mx, hmx, mn, hmn, ar01, ar12, zpl, hzpl, zjn, hzjn, zup, hzup, zmi, hzmi, zdp, hzdp, hT⟩ := t0_all
    repeat' (first
      | refine go1 ?_ | refine gobn ?_
      | ((with_reducible apply go_call (f := 33) (hf := Tryz.call33)); (· (cbv; try rfl)); (· intro wc hbc hxc; exact alive16C wc))
      | ((with_reducible apply go_call (f := 34) (hf := Tryz.call34)); (· (cbv; try rfl)); (· intro wc hbc hxc; exact h1 wc hbc))
      | fail)
    all_goals rfl
  rw [hO] at h1
  have hO : F.Ok := fit_ok hO
  have h2 (wc : World) (hk : KB ⟨w, []⟩ wc) := livesC F wc (hF.later hk) hO hD
  have h3 (wc : World) (hk : KB ⟨w, []⟩ wc) := sizeC F wc (hF.later hk) hO.small
  have hN9 := hO.pts
  have hl16 := hO.ln16
  obtain ⟨N, hN⟩ : ∃ N, N = stN F.sn F.bn := ⟨_, rfl⟩
  obtain ⟨z, hz⟩ : ∃ f : Nat → Nat, f = liM F := ⟨_, rfl⟩
  rw [← hN, ← hz] at h2
  rw [← hN] at h3
  by_cases ha : at_ < 0 ∨ (stN F.sn F.bn : Int) ≤ at_
  · have h4 (wc : World) (hk : KB ⟨w, []⟩ wc) := lusesOut F wc (hF.later hk) hO at_ ha
    rw [← hN] at ha
    clear hK hO hD hN hz hN9
    obtain ⟨pa, un, lA, ln, lc, lk, lt, bA, bn, bc, sA, sn, sc, s, jA, jn, jc, ja, jk, jo, jf, jx, je, jd⟩ := F
    obtain ⟨hX, hl, hb, hs, hj⟩ := hF
    simp only at hl hb hs hj
    refine go_start (args := [.pt (.agg (GFun.dat _)), .pt (.one (.int .i64 at_))]) (c := (funX _)) Tryz.func12 rfl hX rfl rfl ?_
    obtain ⟨nd, hnd, nt, hnt, ar, har, cm, hcm, mx, hmx, mn, hmn, ar01, ar12, zpl, hzpl, zjn, hzjn, zup, hzup, zmi, hzmi, zdp, hzdp, hT⟩ := t0_all
    have c1 : cm .lss at_ 0 = true ∨ (cm .lss at_ 0 = false ∧ cm .geq at_ (.ofNat N) = true) := by
      rw [hcm]
      by_cases g : at_ < 0
      · exact .inl (decide_eq_true g)
      · exact .inr ⟨decide_eq_false g, decide_eq_true (by show at_ ≥ (N : Int); omega)⟩
    rcases c1 with c1 | ⟨c1, c2⟩
    all_goals
      repeat' (first
        | refine go1 ?_ | refine gobt ?_ | refine gobn ?_
        | ((with_reducible apply go_call (f := 33) (hf := Tryz.call33)); (· (cbv; try rfl)); (· intro wc hbc hxc; exact alive16C wc))
        | ((with_reducible apply go_call (f := 34) (hf := Tryz.call34)); (· (cbv; try rfl)); (· intro wc hbc hxc; exact h1 wc hbc))
        | ((with_reducible apply go_callR (f := 35) (hf := Tryz.call35)); (· intro S; cbv; try rfl); (· intro wc S hbc hxc hrc; exact h2 wc hbc); (· rfl))
        | ((with_reducible apply go_call (f := 38) (hf := Tryz.call38)); (· (cbv; try rfl)); (· intro wc hbc hxc; exact h4 wc hbc))
        | ((with_reducible apply go_call (f := 24) (hf := Tryz.call24)); (· (cbv; try rfl)); (· intro wc hbc hxc; exact h3 wc hbc))
        | fail)
    all_goals rfl
  · obtain ⟨a, rfl⟩ : ∃ a : Nat, at_ = .ofNat a := ⟨at_.toNat, by simp only [Int.ofNat_eq_natCast]; omega⟩
    have haN : a < stN F.sn F.bn := by simp only [Int.ofNat_eq_natCast] at ha; omega
    have h4 (wc : World) (hk : KB ⟨w, []⟩ wc) := lusesC F wc (hF.later hk) hO hD a haN
    have h5 (wc : World) (hk : KB ⟨w, []⟩ wc) := pointNC F wc (hF.later hk) hO.small a haN
    have hbb := (num_pt haN).1
    obtain ⟨um, hum⟩ : ∃ z, z = umN F a := ⟨_, rfl⟩
    obtain ⟨sm, hsm⟩ : ∃ z, z = smN F a := ⟨_, rfl⟩
    have u1 : -1 ≤ sm ∧ sm < F.ln := by rw [hsm]; exact ⟨sI_lo hO hbb, sI_lt hO hbb⟩
    have u2 : um < 2 ^ F.ln := by rw [hum]; exact mk_lt _ _
    have u3 : ∀ {ar : BinOp → IntKind → Int → Int → Int}, ar = rAr → 0 ≤ sm → ar .and .u32 (ar .shr .u32 (.ofNat um) (ar .quo .u64 sm 0)) 1 = 0 → ar .and .u32 (ar .shr .u32 (.ofNat (z a)) (ar .quo .u64 sm 0)) 1 ≠ 1 := by
      intro ar har h0 hu hz1
      have e := quo_u64L har h0 (by omega)
      have hsl : sm.toNat < F.ln := by omega
      rw [e] at hu hz1
      rw [hum] at hu
      unfold umN at hu
      rw [bit_is har (by omega) hsl] at hu
      rw [hz] at hz1
      unfold liM at hz1
      rw [bit_is har (by omega) hsl] at hz1
      have hub : uB F (pbN F a) (piN F a) sm.toNat = false := by
        cases g : uB F (pbN F a) (piN F a) sm.toNat
        · rfl
        · rw [g] at hu; simp at hu
      have hli : (liveG F).liB sm.toNat a = false := by
        rw [LiveG.li_eq (G := liveG F) (fun n hn q hq => succN_lt hO hn q hq) haN]
        have e1 : (liveG F).st a sm.toNat = true := decide_eq_true (by show Int.ofNat sm.toNat = smN F a; rw [← hsm]; simp only [Int.ofNat_eq_natCast]; omega)
        have e2 : (liveG F).us a sm.toNat = false := hub
        rw [e1, e2]; simp
      rw [hli] at hz1
      simp at hz1
    have u4 : piN F a < F.sn (pbN F a) → (F.s (pbN F a) (piN F a)).k = 3 → um = 0 ∧ sm = (F.s (pbN F a) (piN F a)).l := by rw [hum, hsm]; exact um_fresh
    have u5 : ¬ piN F a < F.sn (pbN F a) → (F.jk (pbN F a) = 1 ∨ F.jk (pbN F a) = 3 ∨ F.jk (pbN F a) = 5) → um = (if F.jk (pbN F a) = 3 then 1 else 0) ∧ sm = -1 := by rw [hum, hsm]; exact um_jump hO haN
    rw [← hum, ← hsm] at h4
    have ha2 : a < N := by rw [hN]; exact haN
    rw [← hN] at hN9
    generalize pbN F a = pb at h5 hbb u4 u5
    generalize piN F a = pi at h5 u4 u5
    clear hK hO hD hN hz ha haN hum hsm
    obtain ⟨pa, un, lA, ln, lc, lk, lt, bA, bn, bc, sA, sn, sc, s, jA, jn, jc, ja, jk, jo, jf, jx, je, jd⟩ := F
    obtain ⟨hX, hl, hb, hs, hj⟩ := hF
    simp only at hl hb hs hj
    simp only at hl16 u1 u2 u4 u5 hbb
    refine go_start (args := [.pt (.agg (GFun.dat ⟨pa, un, lA, ln, lc, lk, lt, bA, bn, bc, sA, sn, sc, s, jA, jn, jc, ja, jk, jo, jf, jx, je, jd⟩)), .pt (.one (.int .i64 (.ofNat a)))]) (c := (funX ⟨pa, un, lA, ln, lc, lk, lt, bA, bn, bc, sA, sn, sc, s, jA, jn, jc, ja, jk, jo, jf, jx, je, jd⟩)) Tryz.func12 rfl hX rfl rfl ?_
    obtain ⟨nd, hnd, nt, hnt, ar, har, cm, hcm, mx, hmx, mn, hmn, ar01, ar12, zpl, hzpl, zjn, hzjn, zup, hzup, zmi, hzmi, zdp, hzdp, hT⟩ := t0_all
    have u3 := u3 har
    have c1 : cm .lss (.ofNat a) 0 = false := by rw [hcm]; exact decide_eq_false (fun g => absurd (Int.natCast_nonneg a) (Int.not_le.2 g))
    have c2 : cm .geq (.ofNat a) (.ofNat N) = false := by rw [hcm]; exact decide_eq_false (fun g => absurd (Int.ofNat_le.1 g) (Nat.not_le.2 ha2))
    have c3 : cm .lss sm (-1) = false := by rw [hcm]; exact decide_eq_false (fun g => absurd u1.1 (Int.not_le.2 g))
    have c4 : cm .geq sm (.ofNat ln) = false := by rw [hcm]; exact decide_eq_false (fun g => absurd u1.2 (Int.not_lt.2 g))
    have qz : ar .quo .u64 (.ofNat ln) 0 = .ofNat ln := quo_u64L har (x := Int.ofNat ln) (Int.natCast_nonneg ln) (by simp only [Int.ofNat_eq_natCast]; omega)
    have c5 : decide (ar .shr .u32 (.ofNat um) (ar .quo .u64 (.ofNat ln) 0) = 0) = true := decide_eq_true (by rw [qz, u32_shr har (by omega), Nat.div_eq_of_lt u2]; rfl)
    have hgq : cm .geq sm 0 = true → 0 ≤ sm := fun h => by rw [hcm] at h; exact of_decide_eq_true h
    have hnn : ∀ X : Int, 0 ≤ X → X < X.toNat + 1 := fun X h => by omega
    have n1 : 0 ≤ ar .quo .u64 (.ofNat ln) 0 := by rw [qz]; exact Int.natCast_nonneg _
    have n2 : cm .geq sm 0 = true → 0 ≤ ar .quo .u64 sm 0 := fun h => by rw [quo_u64L har (hgq h) (by omega)]; exact Int.natCast_nonneg _
    repeat' (first
      | refine go1 ?_ | refine gobt ?_ | refine gobn ?_ | refine go3 (fun hlt => ?_) (fun hge => ?_) | refine go2 (fun h => ?_) (fun h => ?_) | refine gof ?_
      | ((with_reducible apply go_call (f := 33) (hf := Tryz.call33)); (· (cbv; try rfl)); (· intro wc hbc hxc; exact alive16C wc))
      | ((with_reducible apply go_call (f := 34) (hf := Tryz.call34)); (· (cbv; try rfl)); (· intro wc hbc hxc; exact h1 wc hbc))
      | ((with_reducible apply go_callR (f := 35) (hf := Tryz.call35)); (· intro S; cbv; try rfl); (· intro wc S hbc hxc hrc; exact h2 wc hbc); (· rfl))
      | ((with_reducible apply go_call (f := 38) (hf := Tryz.call38)); (· (cbv; try rfl)); (· intro wc hbc hxc; exact h4 wc hbc))
      | ((with_reducible apply go_call (f := 24) (hf := Tryz.call24)); (· (cbv; try rfl)); (· intro wc hbc hxc; exact h3 wc hbc))
      | ((with_reducible apply go_call (f := 28) (hf := Tryz.call28)); (· (cbv; try rfl)); (· intro wc hbc hxc; exact h5 wc hbc))
      | (((with_reducible apply go_need); (· exact n1); (· exact hnn _ n1)))
      | (((with_reducible apply go_need); (· exact n2 (by assumption)); (· exact hnn _ (n2 (by assumption)))))
      | fail)
    all_goals
      first
        | rfl
        | (exfalso; exact u3 (hgq (by assumption)) (of_decide_eq_true (by assumption)) (of_decide_eq_true (by assumption)))
        | (have q := u4 (by assumption) (of_decide_eq_true (by assumption)); clear hT hX u3 u5 h1 h2 h3 h4 h5; simp_all; done)
        | (have hn : ¬ pi < sn pb := Nat.not_lt.2 (by assumption); have q := u5 hn (.inl (of_decide_eq_true (by assumption))); clear hT hX u3 u4 h1 h2 h3 h4 h5; simp_all; done)
        | (have hn : ¬ pi < sn pb := Nat.not_lt.2 (by assumption); have q := u5 hn (.inr (.inl (of_decide_eq_true (by assumption)))); clear hT hX u3 u4 h1 h2 h3 h4 h5; simp_all; done)
        | (have hn : ¬ pi < sn pb := Nat.not_lt.2 (by assumption); have q := u5 hn (.inr (.inr (of_decide_eq_true (by assumption)))); clear hT hX u3 u4 h1 h2 h3 h4 h5; simp_all; done)
        | trace_state

end Go.Proofs.YtbljhhkjjlgnmaaGreat
