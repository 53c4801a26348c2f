/- InitsFirst, the walk. No condition. -/
import Derived.Test.YtbljhhkjjlgnmaaGreatFlC
namespace Go.Proofs.YtbljhhkjjlgnmaaGreat
open Go.RowKit
set_option linter.unusedVariables false
set_option linter.unusedSimpArgs false

theorem mvS_mono {g : Nat → GOper} {l : Nat} {k : Nat} (h : mvS g k l = true) : ∀ {m}, k ≤ m → mvS g m l = true
  | 0, hk => by obtain rfl : k = 0 := by omega
                exact h
  | m + 1, hk => by
    by_cases e : k = m + 1
    · rw [← e]; exact h
    · simp only [mvS, mvS_mono h (show k ≤ m by omega), Bool.true_or]

theorem fstI_is {p : Int → Bool} : ∀ {L : List Int}, fstI p L = -1 ∨ (p (fstI p L) = true ∧ fstI p L ∈ L)
  | [] => .inl rfl
  | x :: L => by
    simp only [fstI]
    split
    · rename_i h; exact .inr ⟨h, by simp⟩
    · rcases fstI_is (p := p) (L := L) with h | ⟨h1, h2⟩
      · exact .inl h
      · exact .inr ⟨h1, by simp [h2]⟩

/-- A fault has its reason: the local is not set there, or it is moved by the point; and it is one of the function's. -/
theorem bad_why {F : GFun} (hO : F.Ok) {n : Nat} (hn : n < stN F.sn F.bn) {S : Nat → Bool} (h : 0 ≤ badI (ptD F (pbN F n) (piN F n)) S) :
    badI (ptD F (pbN F n) (piN F n)) S < F.ln ∧ (S (badI (ptD F (pbN F n) (piN F n)) S).toNat = false ∨ mvS (opG F n) (opN F n) (badI (ptD F (pbN F n) (piN F n)) S).toNat = true) := by
  by_cases hk : okOps (opG F n) S (opN F n)
  · rw [bad_tail hO hn hk] at h ⊢
    rcases fstI_is (p := tlP (opG F n) (opN F n) S) (L := rdT F n) with h1 | ⟨h1, h2⟩
    · rw [h1] at h; omega
    · refine ⟨(rdT_in hO hn _ h2).2, ?_⟩
      generalize fstI (tlP (opG F n) (opN F n) S) (rdT F n) = x at h1
      simp only [tlP, Bool.not_eq_true', Bool.and_eq_false_iff, Bool.not_eq_false'] at h1
      exact h1
  · have : ∃ k, k < opN F n ∧ okOps (opG F n) S k ∧ ¬ ((opG F n k).k = 1 ∨ (S (opG F n k).p.l.toNat = true ∧ mvS (opG F n) k (opG F n k).p.l.toNat = false)) := by
      have key : ∀ m, ¬ okOps (opG F n) S m → ∃ k, k < m ∧ okOps (opG F n) S k ∧ ¬ ((opG F n k).k = 1 ∨ (S (opG F n k).p.l.toNat = true ∧ mvS (opG F n) k (opG F n k).p.l.toNat = false)) := fun m => by
        induction m with
        | zero => intro h; exact absurd (fun i hi => by omega) h
        | succ m ih =>
          intro h
          by_cases hm : okOps (opG F n) S m
          · refine ⟨m, by omega, hm, fun g => h fun i hi => ?_⟩
            rcases Nat.lt_or_eq_of_le (Nat.le_of_lt_succ hi) with h' | rfl
            · exact hm i h'
            · exact g
          · obtain ⟨k, a, b⟩ := ih hm
            exact ⟨k, by omega, b⟩
      exact key _ hk
    obtain ⟨k, h1, h2, h3⟩ := this
    have hin := opG_in hO hn k h1
    have h4 : (opG F n k).k ≠ 1 := fun g => h3 (.inl g)
    have h5 : S (opG F n k).p.l.toNat = false ∨ mvS (opG F n) k (opG F n k).p.l.toNat = true := by
      cases a : S (opG F n k).p.l.toNat <;> cases b : mvS (opG F n) k (opG F n k).p.l.toNat <;> simp_all
    have h6 := hin.resolve_left h4
    have e : badI (ptD F (pbN F n) (piN F n)) S = (opG F n k).p.l := by
      rw [ptD_split hO hn]
      exact okOps_hit h2 h1 h4 h5 h6.2.1
    rw [e]
    refine ⟨h6.2.2, h5.imp id fun g => mvS_mono g (by omega)⟩

/-- A bit of a mask, as Go asks for it. -/
theorem bit_ask {ar : BinOp → IntKind → Int → Int → Int} (har : ar = rAr) {S : Nat → Bool} {n l : Nat} (hn : n ≤ 32) (hl : l < n) : ar .and .u32 (ar .shr .u32 (.ofNat (mk S n)) (.ofNat l)) 1 = if S l = true then 1 else 0 := by
  rw [u32_shr har (by omega)]
  have h1 : mk S n / 2 ^ l < 2 ^ 32 := Nat.lt_of_le_of_lt (Nat.div_le_self _ _) (mk_32 hn)
  have := u32_and har (a := mk S n / 2 ^ l) (b := 1) h1 (by decide)
  refine this.trans ?_
  rw [Nat.and_one_is_mod, mk_odd, decide_eq_true hl]
  cases S l <;> rfl

set_option maxRecDepth 100000 in
set_option maxHeartbeats 8000000 in
theorem firstL (F : GFun) (w : World) (hF : F.At w) (hK : F.Ty8) :
    Calls Tryz.prog 5 #[F.val] w (Ret w (.bool true)) := by
  have h1 (wc : World) (hk : KB ⟨w, []⟩ wc) := greatC F wc (hF.later hk)
  have h2 (wc : World) (hk : KB ⟨w, []⟩ wc) := gfC F wc (hF.later hk)
  have h3 (wc : World) (hk : KB ⟨w, []⟩ wc) := rFnChk F wc (hF.later hk) hK
  generalize greatB F = q1 at h1
  generalize gfB F = q2 at h2
  by_cases hO : rchkV F = 0
  case neg =>
    generalize rchkV F = z at h3 hO
    have hq : decide (z = 0) = false := decide_eq_false hO
    clear hK hO
    obtain ⟨pa, un, lA, ln, lc, lk, lt, bA, bn, bc, sA, sn, sc, s, jA, jn, jc, ja, jk, jo, jf, jx, je, jd⟩ := F
    obtain ⟨hX, hl, hb, hs, hj⟩ := hF
    simp only at hl hb hs hj
    refine go_start (args := [.pt (.agg (GFun.dat _))]) (c := (funX _)) Tryz.func5 rfl hX rfl rfl ?_
    obtain ⟨nd, hnd⟩ : ∃ f : Bool → Bool → Bool, f = and := ⟨_, rfl⟩
    obtain ⟨nt, hnt⟩ : ∃ f : Bool → Bool, f = not := ⟨_, rfl⟩
    obtain ⟨ar, har⟩ : ∃ f : BinOp → IntKind → Int → Int → Int, f = rAr := ⟨_, rfl⟩
    obtain ⟨cm, hcm⟩ : ∃ f : BinOp → Int → Int → Bool, f = rCm := ⟨_, rfl⟩
    obtain ⟨mx, hmx⟩ : ∃ f : Int → Int → Int, f = rMx := ⟨_, rfl⟩
    obtain ⟨mn, hmn⟩ : ∃ f : Int → Int → Int, f = rMn := ⟨_, rfl⟩
    have ar01 : ar .add .i64 0 1 = 1 := by rw [har]; decide
    have ar12 : ar .add .i64 1 1 = 2 := by rw [har]; decide
    obtain ⟨zpl, hzpl⟩ : ∃ f : Nat → Nat → Nat, f = fun x y => x + y := ⟨_, rfl⟩
    obtain ⟨zjn, hzjn⟩ : ∃ f : Nat → (Nat → List SC) → (Nat → List SC) → Nat → List SC, f = rJn := ⟨_, rfl⟩
    obtain ⟨zup, hzup⟩ : ∃ f : (Nat → List SC) → Nat → Nat → List SC → Nat → List SC, f = rUp := ⟨_, rfl⟩
    obtain ⟨zmi, hzmi⟩ : ∃ f : Nat → Nat → Nat, f = fun x y => x - y := ⟨_, rfl⟩
    obtain ⟨zdp, hzdp⟩ : ∃ f : Nat → (Nat → List SC) → Nat → List SC, f = rDp := ⟨_, rfl⟩
    have hT := T0_ok hnd hnt har hcm hmx hmn hzpl hzjn hzup hzmi hzdp
    repeat' (first
      | ((with_reducible apply go_ev hT 400); (· (cbv; try rfl)); (fail_if_success with_reducible apply stuck_id))
      | ((with_reducible refine go_brt ?_ ?_); (· first | rfl | assumption | (rw [hcm]; decide)))
      | ((with_reducible refine go_brf ?_ ?_); (· first | rfl | assumption | (rw [hcm]; decide)))
      | ((with_reducible refine go_brnt hnt ?_ ?_); (· first | rfl | assumption))
      | ((with_reducible refine go_brnf hnt ?_ ?_); (· first | rfl | assumption))
      | (with_reducible refine go_brn hnt (fun h => ?_) (fun h => ?_))
      | (with_reducible refine go_brl hcm (fun hlt => ?_) (fun hge => ?_))
      | (with_reducible refine go_br (fun h => ?_) (fun h => ?_))
      | ((with_reducible apply go_ret_val hT); (· (cbv; try rfl)); (· (cbv; try rfl)))
      | ((with_reducible apply go_fin_val hT); (· (cbv; try rfl)); (· (cbv; try rfl)))
      | ((with_reducible apply go_draw); (· rfl); (· kernel_rfl); (· kernel_rfl))
      | ((with_reducible apply go_drawE); (· kernel_rfl))
      | (with_reducible refine go_fork ?_)
      | (with_reducible refine fork_cons ?_ ?_)
      | (with_reducible exact fork_nil)
      | ((with_reducible refine go_need ?_ ?_ ?_); (· first | omega | (simp only [Int.ofNat_eq_natCast]; omega)); (· first | omega | (simp only [Int.ofNat_eq_natCast]; omega)))
      | ((with_reducible refine go_ob ?_ ?_); (· first | trivial | (refine ⟨trivial, ?_⟩; omega) | (rw [hzpl]; refine ⟨trivial, ?_⟩; show _ + _ ≤ 1073741824; omega) | (rw [hzpl]; show _ + _ ≤ 1073741824; omega)))
      | ((with_reducible apply go_ret_rows hT); (· (cbv; try rfl)); (· (cbv; try rfl)); (· (cbv; (try simp only [true_and, and_true]); (try ((repeat' apply And.intro) <;> (first | trivial | rfl | decide ))))); (· (cbv; (try simp only [true_and, and_true]); (try ((repeat' apply And.intro) <;> (first | trivial | rfl | exact RowLe.rfl' _ ))))); (· rfl))
      | ((with_reducible apply go_fin_rows hT); (· (cbv; try rfl)); (· (cbv; try rfl)); (· (cbv; (try simp only [true_and, and_true]); (try ((repeat' apply And.intro) <;> (first | trivial | rfl | decide ))))); (· (cbv; (try simp only [true_and, and_true]); (try ((repeat' apply And.intro) <;> (first | trivial | rfl | exact RowLe.rfl' _ ))))); (· rfl))
      | ((with_reducible apply go_call (f := 22) (hf := Tryz.call22)); (· (cbv; try rfl)); (· intro wc hbc hxc; exact alive15C wc))
      | ((with_reducible apply go_callq (f := 22) (hf := Tryz.call22)); (· (cbv; try rfl)); (· intro wc hbc hxc; exact alive15C wc))
      | ((with_reducible apply go_call_bool (f := 13) (hf := Tryz.call13)); (· (cbv; try rfl)); (· intro wc hbc hxc; exact h1 wc hbc); intro z hz)
      | ((with_reducible apply go_callq_bool (f := 13) (hf := Tryz.call13)); (· (cbv; try rfl)); (· intro wc hbc hxc; exact h1 wc hbc); intro z hz)
      | ((with_reducible apply go_call_bool (f := 14) (hf := Tryz.call14)); (· (cbv; try rfl)); (· intro wc hbc hxc; exact h2 wc hbc); intro z hz)
      | ((with_reducible apply go_callq_bool (f := 14) (hf := Tryz.call14)); (· (cbv; try rfl)); (· intro wc hbc hxc; exact h2 wc hbc); intro z hz)
      | ((with_reducible apply go_call (f := 23) (hf := Tryz.call23)); (· (cbv; try rfl)); (· intro wc hbc hxc; exact h3 wc hbc))
      | ((with_reducible apply go_callq (f := 23) (hf := Tryz.call23)); (· (cbv; try rfl)); (· intro wc hbc hxc; exact h3 wc hbc))
      )
    all_goals rfl
  rw [hO] at h3
  have hO : F.Ok := (rchk_eq F).symm.trans hO
  have h4 (wc : World) (hk : KB ⟨w, []⟩ wc) := setC F wc (hF.later hk) hO
  have h5 (wc : World) (hk : KB ⟨w, []⟩ wc) := firstC F wc (hF.later hk) hO
  have h6 (wc : World) (hk : KB ⟨w, []⟩ wc) := initsC F wc (hF.later hk) hO
  have h7 (wc : World) (hk : KB ⟨w, []⟩ wc) := sizeC F wc (hF.later hk) hO.small
  have h80 (wc : World) (hk : KB ⟨w, []⟩ wc) (a : Nat) (ha : a < stN F.sn F.bn) := rBadC F wc (hF.later hk) hO a ha (setM F a)
  have h90 (wc : World) (hk : KB ⟨w, []⟩ wc) (a : Nat) (ha : a < stN F.sn F.bn) (l : Nat) := rMovesC F wc (hF.later hk) hO a ha (.ofNat l)
  have hN9 := hO.pts
  have hl16 := hO.ln16
  obtain ⟨N, hN⟩ : ∃ N, N = stN F.sn F.bn := ⟨_, rfl⟩
  obtain ⟨ba, hba⟩ : ∃ f : Nat → Int, f = badAt F := ⟨_, rfl⟩
  obtain ⟨rm, hrm⟩ : ∃ f : Nat → Nat, f = fun j => mk (setM F j) F.ln := ⟨_, rfl⟩
  have hRM : (⟨stN F.sn F.bn, 1, fun j => [SC.int .u32 (.ofNat (mk (setM F j) F.ln))]⟩ : ORow) = ⟨N, 1, fun j => [SC.int .u32 (.ofNat (rm j))]⟩ := by rw [hrm, hN]
  rw [hRM] at h4
  have h8 (wc : World) (hk : KB ⟨w, []⟩ wc) (a : Nat) (ha : a < N) : Calls Tryz.prog 25 #[F.val, .int .i64 (.ofNat a), .int .u32 (.ofNat (rm a))] wc (Ret wc (.int .i64 (ba a))) := by
    rw [hrm, hba]; exact h80 wc hk a (hN ▸ ha)
  have hi0 : initI F = if (firstI F).2.2 = 6 then 0 else 44 := rfl
  rcases firstI_is F with ⟨k, e1, e2, e3, e4⟩ | ⟨e1, e2⟩
  · have hw := bad_why hO e2 e3
    obtain ⟨lz, hlz⟩ : ∃ l : Nat, ba k = .ofNat l := ⟨(badAt F k).toNat, by rw [hba]; simp only [Int.ofNat_eq_natCast]; omega⟩
    have hlz' : badAt F k = .ofNat lz := by rw [← hlz, hba]
    obtain ⟨mv, hmv⟩ : ∃ m, m = mvN (opG F k) (.ofNat lz) (opN F k) := ⟨_, rfl⟩
    obtain ⟨sb, hsb⟩ : ∃ b, b = setM F k lz := ⟨_, rfl⟩
    have hll : lz < F.ln := by
      have h := hw.1
      rw [show badI (ptD F (pbN F k) (piN F k)) (setM F k) = .ofNat lz from hlz'] at h
      exact Int.ofNat_lt.1 h
    have hww : sb = false ∨ 0 < mv := by
      have h := hw.2
      rw [show badI (ptD F (pbN F k) (piN F k)) (setM F k) = .ofNat lz from hlz'] at h
      rw [hsb, hmv]
      refine h.imp id fun g => ?_
      exact (mvN_iff (opG_in hO e2)).2 g
    have h9 (wc : World) (hk : KB ⟨w, []⟩ wc) : Calls Tryz.prog 30 #[F.val, .int .i64 (.ofNat k), .int .i64 (.ofNat lz)] wc (Ret wc (.int .i64 (.ofNat mv))) := by
      rw [hmv]; exact h90 wc hk k e2 lz
    have hi1 : initI F = 44 := by rw [hi0, e1]; rfl
    rw [e1] at h5
    rw [hi1] at h6
    rw [hlz'] at h5
    have hrk : ∀ {ar : BinOp → IntKind → Int → Int → Int} (har : ar = rAr), ar .and .u32 (ar .shr .u32 (.ofNat (rm k)) (.ofNat lz)) 1 = if sb = true then 1 else 0 := fun {ar} har => by
      rw [hrm, hsb]; exact bit_ask har (by omega) hll
    have e4N : ∀ j, j < k → ba j < 0 := by rw [hba]; exact e4
    have hkN : k < N := by rw [hN]; exact e2
    rw [← hN] at h7 hN9
    clear hw hlz' hmv hsb hi0 hi1 e1 hRM hrm hba h80 h90 hN hO hK e3 e2 e4
    obtain ⟨pa, un, lA, ln, lc, lk, lt, bA, bn, bc, sA, sn, sc, s, jA, jn, jc, ja, jk, jo, jf, jx, je, jd⟩ := F
    obtain ⟨hX, hl, hb, hs, hj⟩ := hF
    simp only at hl hb hs hj
    try simp only at h4 h5 h6 h7 h8 h9 hl16 hll
    refine go_start (args := [.pt (.agg (GFun.dat _))]) (c := (funX _)) Tryz.func5 rfl hX rfl rfl ?_
    obtain ⟨nd, hnd⟩ : ∃ f : Bool → Bool → Bool, f = and := ⟨_, rfl⟩
    obtain ⟨nt, hnt⟩ : ∃ f : Bool → Bool, f = not := ⟨_, rfl⟩
    obtain ⟨ar, har⟩ : ∃ f : BinOp → IntKind → Int → Int → Int, f = rAr := ⟨_, rfl⟩
    obtain ⟨cm, hcm⟩ : ∃ f : BinOp → Int → Int → Bool, f = rCm := ⟨_, rfl⟩
    obtain ⟨mx, hmx⟩ : ∃ f : Int → Int → Int, f = rMx := ⟨_, rfl⟩
    obtain ⟨mn, hmn⟩ : ∃ f : Int → Int → Int, f = rMn := ⟨_, rfl⟩
    have ar01 : ar .add .i64 0 1 = 1 := by rw [har]; decide
    have ar12 : ar .add .i64 1 1 = 2 := by rw [har]; decide
    obtain ⟨zpl, hzpl⟩ : ∃ f : Nat → Nat → Nat, f = fun x y => x + y := ⟨_, rfl⟩
    obtain ⟨zjn, hzjn⟩ : ∃ f : Nat → (Nat → List SC) → (Nat → List SC) → Nat → List SC, f = rJn := ⟨_, rfl⟩
    obtain ⟨zup, hzup⟩ : ∃ f : (Nat → List SC) → Nat → Nat → List SC → Nat → List SC, f = rUp := ⟨_, rfl⟩
    obtain ⟨zmi, hzmi⟩ : ∃ f : Nat → Nat → Nat, f = fun x y => x - y := ⟨_, rfl⟩
    obtain ⟨zdp, hzdp⟩ : ∃ f : Nat → (Nat → List SC) → Nat → List SC, f = rDp := ⟨_, rfl⟩
    have hT := T0_ok hnd hnt har hcm hmx hmn hzpl hzjn hzup hzmi hzdp
    have hrk := hrk har
    have hlo : ∀ {a}, a < k → cm .geq (ba a) 0 = false := fun {a} h => by
      rw [hcm]
      exact decide_eq_false (by have := e4N a h; omega)
    have c1 : cm .lss (.ofNat k) 0 = false := by rw [hcm]; exact decide_eq_false (Int.not_lt.2 (Int.natCast_nonneg k))
    have c2 : cm .gtr (.ofNat k) (.ofNat N) = false := by rw [hcm]; exact decide_eq_false (show ¬ ((N : Int) < (k : Int)) by omega)
    have c3 : decide (Int.ofNat k = Int.ofNat N) = false := decide_eq_false (fun h => by have := Int.ofNat.inj h; omega)
    have c4 : cm .lss (.ofNat lz) 0 = false := by rw [hcm]; exact decide_eq_false (Int.not_lt.2 (Int.natCast_nonneg lz))
    have c5 : cm .geq (.ofNat lz) (.ofNat ln) = false := by rw [hcm]; exact decide_eq_false (show ¬ ((ln : Int) ≤ (lz : Int)) by omega)
    have c6 : decide (ba k = Int.ofNat lz) = true := decide_eq_true hlz
    have qz : ar .quo .u64 (.ofNat lz) 0 = .ofNat lz := quo_u64 har (x := Int.ofNat lz) (Int.natCast_nonneg lz) (by simp only [Int.ofNat_eq_natCast]; omega)
    have hmv : cm .gtr (.ofNat mv) 0 = decide (0 < mv) := by
      rw [hcm]
      show decide ((0 : Int) < (mv : Int)) = _
      rw [Bool.eq_iff_iff]; simp
    have nq : ∀ a, a < k → a < N := fun a h => by omega
    repeat' (first
      | ((with_reducible apply go_ev hT 400); (· (cbv; try rfl)); (fail_if_success with_reducible apply stuck_id))
      | ((with_reducible refine go_brt ?_ ?_); (· first | rfl | assumption | (rw [hcm]; decide)))
      | ((with_reducible refine go_brf ?_ ?_); (· first | rfl | assumption | (rw [hcm]; decide)))
      | ((with_reducible refine go_brnt hnt ?_ ?_); (· first | rfl | assumption))
      | ((with_reducible refine go_brnf hnt ?_ ?_); (· first | rfl | assumption))
      | (with_reducible refine go_brn hnt (fun h => ?_) (fun h => ?_))
      | (with_reducible refine go_brl hcm (fun hlt => ?_) (fun hge => ?_))
      | (with_reducible refine go_br (fun h => ?_) (fun h => ?_))
      | ((with_reducible apply go_ret_val hT); (· (cbv; try rfl)); (· (cbv; try rfl)))
      | ((with_reducible apply go_fin_val hT); (· (cbv; try rfl)); (· (cbv; try rfl)))
      | ((with_reducible apply go_draw); (· rfl); (· kernel_rfl); (· kernel_rfl))
      | ((with_reducible apply go_drawE); (· kernel_rfl))
      | (with_reducible refine go_fork ?_)
      | (with_reducible refine fork_cons ?_ ?_)
      | (with_reducible exact fork_nil)
      | ((with_reducible refine go_need ?_ ?_ ?_); (· first | omega | (simp only [Int.ofNat_eq_natCast]; omega)); (· first | omega | (simp only [Int.ofNat_eq_natCast]; omega)))
      | ((with_reducible refine go_ob ?_ ?_); (· first | trivial | (refine ⟨trivial, ?_⟩; omega) | (rw [hzpl]; refine ⟨trivial, ?_⟩; show _ + _ ≤ 1073741824; omega) | (rw [hzpl]; show _ + _ ≤ 1073741824; omega)))
      | ((with_reducible apply go_ret_rows hT); (· (cbv; try rfl)); (· (cbv; try rfl)); (· (cbv; (try simp only [true_and, and_true]); (try ((repeat' apply And.intro) <;> (first | trivial | rfl | decide ))))); (· (cbv; (try simp only [true_and, and_true]); (try ((repeat' apply And.intro) <;> (first | trivial | rfl | exact RowLe.rfl' _ ))))); (· rfl))
      | ((with_reducible apply go_fin_rows hT); (· (cbv; try rfl)); (· (cbv; try rfl)); (· (cbv; (try simp only [true_and, and_true]); (try ((repeat' apply And.intro) <;> (first | trivial | rfl | decide ))))); (· (cbv; (try simp only [true_and, and_true]); (try ((repeat' apply And.intro) <;> (first | trivial | rfl | exact RowLe.rfl' _ ))))); (· rfl))
      | ((with_reducible apply go_call (f := 22) (hf := Tryz.call22)); (· (cbv; try rfl)); (· intro wc hbc hxc; exact alive15C wc))
      | ((with_reducible apply go_callq (f := 22) (hf := Tryz.call22)); (· (cbv; try rfl)); (· intro wc hbc hxc; exact alive15C wc))
      | ((with_reducible apply go_call_bool (f := 13) (hf := Tryz.call13)); (· (cbv; try rfl)); (· intro wc hbc hxc; exact h1 wc hbc); intro z hz)
      | ((with_reducible apply go_callq_bool (f := 13) (hf := Tryz.call13)); (· (cbv; try rfl)); (· intro wc hbc hxc; exact h1 wc hbc); intro z hz)
      | ((with_reducible apply go_call_bool (f := 14) (hf := Tryz.call14)); (· (cbv; try rfl)); (· intro wc hbc hxc; exact h2 wc hbc); intro z hz)
      | ((with_reducible apply go_callq_bool (f := 14) (hf := Tryz.call14)); (· (cbv; try rfl)); (· intro wc hbc hxc; exact h2 wc hbc); intro z hz)
      | ((with_reducible apply go_call (f := 23) (hf := Tryz.call23)); (· (cbv; try rfl)); (· intro wc hbc hxc; exact h3 wc hbc))
      | ((with_reducible apply go_callq (f := 23) (hf := Tryz.call23)); (· (cbv; try rfl)); (· intro wc hbc hxc; exact h3 wc hbc))
      | ((with_reducible apply go_callR (f := 15) (hf := Tryz.call15)); (· intro S; cbv; try rfl); (· intro wc S hbc hxc hrc; exact h4 wc hbc); (· rfl))
      | ((with_reducible apply go_call (f := 17) (hf := Tryz.call17)); (· (cbv; try rfl)); (· intro wc hbc hxc; exact h5 wc hbc))
      | ((with_reducible apply go_callq (f := 17) (hf := Tryz.call17)); (· (cbv; try rfl)); (· intro wc hbc hxc; exact h5 wc hbc))
      | ((with_reducible apply go_call (f := 20) (hf := Tryz.call20)); (· (cbv; try rfl)); (· intro wc hbc hxc; exact h6 wc hbc))
      | ((with_reducible apply go_callq (f := 20) (hf := Tryz.call20)); (· (cbv; try rfl)); (· intro wc hbc hxc; exact h6 wc hbc))
      | ((with_reducible apply go_call (f := 24) (hf := Tryz.call24)); (· (cbv; try rfl)); (· intro wc hbc hxc; exact h7 wc hbc))
      | ((with_reducible apply go_callq (f := 24) (hf := Tryz.call24)); (· (cbv; try rfl)); (· intro wc hbc hxc; exact h7 wc hbc))
      | ((with_reducible apply go_call (f := 25) (hf := Tryz.call25)); (· (cbv; try rfl)); (· intro wc hbc hxc; exact h8 wc hbc _ (by first | assumption | exact nq _ (by assumption))))
      | ((with_reducible apply go_callq (f := 25) (hf := Tryz.call25)); (· (cbv; try rfl)); (· intro wc hbc hxc; exact h8 wc hbc _ (by first | assumption | exact nq _ (by assumption))))
      | ((with_reducible apply go_call (f := 30) (hf := Tryz.call30)); (· (cbv; try rfl)); (· intro wc hbc hxc; exact h9 wc hbc))
      | ((with_reducible apply go_callq (f := 30) (hf := Tryz.call30)); (· (cbv; try rfl)); (· intro wc hbc hxc; exact h9 wc hbc))
      | ((with_reducible refine go_loopk (σ := {a : Nat // a ≤ k}) [68, 69, 70, 71, 72, 73, 74, 75, 76, 77, 78, 79, 80] (fun x => [(10, .pt (.one (.int .i64 (.ofNat x.1))))]) (fun x => []) (fun x => []) (fun x => k - x.1) ⟨0, by omega⟩ ?_ ?_ ?_ ?_); (· (refine le_mk ?_ ?_ ?_ ?_ <;> (cbv; (try simp only [true_and, and_true]); (try ((repeat' apply And.intro) <;> (first | trivial | rfl | exact RowLe.rfl' _ | (rw [wrap_nat har _ (by omega)]))))))); (· (cbv; try rfl)); (· simp); (rintro ⟨a, ha⟩ mm hmm))
      | ((with_reducible refine go_stop (⟨a + 1, by omega⟩ : {a : Nat // a ≤ k}) ?_ ?_ ?_ ?_); (· exact Nat.lt_of_lt_of_eq (show k - (a + 1) < k - a from by omega) (Eq.symm (by assumption))); (· (refine le_mk ?_ ?_ ?_ ?_ <;> (cbv; (try simp only [true_and, and_true]); (try ((repeat' apply And.intro) <;> (first | trivial | rfl | exact RowLe.rfl' _ | (rw [wrap_nat har _ (by omega)]))))))); (· (cbv; try rfl)); (· simp))
      | (((with_reducible apply go_need); (· exact Int.natCast_nonneg _); (· exact Int.ofNat_lt.2 (by first | assumption | exact nq _ (by assumption)))))
      | (((with_reducible apply go_need); (· rw [qz]; exact Int.natCast_nonneg _); (· rw [qz]; exact (show ((lz : Nat) : Int) < ((lz + 1 : Nat) : Int) by omega))))
      | ((rw [qz, hrk]))
      | ((rw [hmv]))
      )
    all_goals first | rfl | exact absurd ((hlo (a := a) (by assumption)).symm.trans (by assumption)) (by decide) | (rw [qz, hrk] at h; rcases hww with g | g; exact absurd h (by rw [g]; decide); rw [decide_eq_true g])
  · have hi1 : initI F = 0 := by rw [hi0, e1]; rfl
    rw [e1] at h5
    rw [hi1] at h6
    have e2N : ∀ j, j < N → ba j < 0 := by rw [hba, hN]; exact e2
    rw [← hN] at h7 hN9
    clear e2 hi0 hi1 e1 hRM hrm hba h80 h90 hN hO hK
    obtain ⟨pa, un, lA, ln, lc, lk, lt, bA, bn, bc, sA, sn, sc, s, jA, jn, jc, ja, jk, jo, jf, jx, je, jd⟩ := F
    obtain ⟨hX, hl, hb, hs, hj⟩ := hF
    simp only at hl hb hs hj
    try simp only at h4 h5 h6 h7 h8 hl16
    refine go_start (args := [.pt (.agg (GFun.dat _))]) (c := (funX _)) Tryz.func5 rfl hX rfl rfl ?_
    obtain ⟨nd, hnd⟩ : ∃ f : Bool → Bool → Bool, f = and := ⟨_, rfl⟩
    obtain ⟨nt, hnt⟩ : ∃ f : Bool → Bool, f = not := ⟨_, rfl⟩
    obtain ⟨ar, har⟩ : ∃ f : BinOp → IntKind → Int → Int → Int, f = rAr := ⟨_, rfl⟩
    obtain ⟨cm, hcm⟩ : ∃ f : BinOp → Int → Int → Bool, f = rCm := ⟨_, rfl⟩
    obtain ⟨mx, hmx⟩ : ∃ f : Int → Int → Int, f = rMx := ⟨_, rfl⟩
    obtain ⟨mn, hmn⟩ : ∃ f : Int → Int → Int, f = rMn := ⟨_, rfl⟩
    have ar01 : ar .add .i64 0 1 = 1 := by rw [har]; decide
    have ar12 : ar .add .i64 1 1 = 2 := by rw [har]; decide
    obtain ⟨zpl, hzpl⟩ : ∃ f : Nat → Nat → Nat, f = fun x y => x + y := ⟨_, rfl⟩
    obtain ⟨zjn, hzjn⟩ : ∃ f : Nat → (Nat → List SC) → (Nat → List SC) → Nat → List SC, f = rJn := ⟨_, rfl⟩
    obtain ⟨zup, hzup⟩ : ∃ f : (Nat → List SC) → Nat → Nat → List SC → Nat → List SC, f = rUp := ⟨_, rfl⟩
    obtain ⟨zmi, hzmi⟩ : ∃ f : Nat → Nat → Nat, f = fun x y => x - y := ⟨_, rfl⟩
    obtain ⟨zdp, hzdp⟩ : ∃ f : Nat → (Nat → List SC) → Nat → List SC, f = rDp := ⟨_, rfl⟩
    have hT := T0_ok hnd hnt har hcm hmx hmn hzpl hzjn hzup hzmi hzdp
    have hlo : ∀ {a}, a < N → cm .geq (ba a) 0 = false := fun {a} h => by
      rw [hcm]
      exact decide_eq_false (by have := e2N a h; omega)
    have c1 : cm .lss (.ofNat N) 0 = false := by rw [hcm]; exact decide_eq_false (Int.not_lt.2 (Int.natCast_nonneg N))
    have c2 : cm .gtr (.ofNat N) (.ofNat N) = false := by rw [hcm]; exact decide_eq_false (Int.lt_irrefl _)
    repeat' (first
      | ((with_reducible apply go_ev hT 400); (· (cbv; try rfl)); (fail_if_success with_reducible apply stuck_id))
      | ((with_reducible refine go_brt ?_ ?_); (· first | rfl | assumption | (rw [hcm]; decide)))
      | ((with_reducible refine go_brf ?_ ?_); (· first | rfl | assumption | (rw [hcm]; decide)))
      | ((with_reducible refine go_brnt hnt ?_ ?_); (· first | rfl | assumption))
      | ((with_reducible refine go_brnf hnt ?_ ?_); (· first | rfl | assumption))
      | (with_reducible refine go_brn hnt (fun h => ?_) (fun h => ?_))
      | (with_reducible refine go_brl hcm (fun hlt => ?_) (fun hge => ?_))
      | (with_reducible refine go_br (fun h => ?_) (fun h => ?_))
      | ((with_reducible apply go_ret_val hT); (· (cbv; try rfl)); (· (cbv; try rfl)))
      | ((with_reducible apply go_fin_val hT); (· (cbv; try rfl)); (· (cbv; try rfl)))
      | ((with_reducible apply go_draw); (· rfl); (· kernel_rfl); (· kernel_rfl))
      | ((with_reducible apply go_drawE); (· kernel_rfl))
      | (with_reducible refine go_fork ?_)
      | (with_reducible refine fork_cons ?_ ?_)
      | (with_reducible exact fork_nil)
      | ((with_reducible refine go_need ?_ ?_ ?_); (· first | omega | (simp only [Int.ofNat_eq_natCast]; omega)); (· first | omega | (simp only [Int.ofNat_eq_natCast]; omega)))
      | ((with_reducible refine go_ob ?_ ?_); (· first | trivial | (refine ⟨trivial, ?_⟩; omega) | (rw [hzpl]; refine ⟨trivial, ?_⟩; show _ + _ ≤ 1073741824; omega) | (rw [hzpl]; show _ + _ ≤ 1073741824; omega)))
      | ((with_reducible apply go_ret_rows hT); (· (cbv; try rfl)); (· (cbv; try rfl)); (· (cbv; (try simp only [true_and, and_true]); (try ((repeat' apply And.intro) <;> (first | trivial | rfl | decide ))))); (· (cbv; (try simp only [true_and, and_true]); (try ((repeat' apply And.intro) <;> (first | trivial | rfl | exact RowLe.rfl' _ ))))); (· rfl))
      | ((with_reducible apply go_fin_rows hT); (· (cbv; try rfl)); (· (cbv; try rfl)); (· (cbv; (try simp only [true_and, and_true]); (try ((repeat' apply And.intro) <;> (first | trivial | rfl | decide ))))); (· (cbv; (try simp only [true_and, and_true]); (try ((repeat' apply And.intro) <;> (first | trivial | rfl | exact RowLe.rfl' _ ))))); (· rfl))
      | ((with_reducible apply go_call (f := 22) (hf := Tryz.call22)); (· (cbv; try rfl)); (· intro wc hbc hxc; exact alive15C wc))
      | ((with_reducible apply go_callq (f := 22) (hf := Tryz.call22)); (· (cbv; try rfl)); (· intro wc hbc hxc; exact alive15C wc))
      | ((with_reducible apply go_call_bool (f := 13) (hf := Tryz.call13)); (· (cbv; try rfl)); (· intro wc hbc hxc; exact h1 wc hbc); intro z hz)
      | ((with_reducible apply go_callq_bool (f := 13) (hf := Tryz.call13)); (· (cbv; try rfl)); (· intro wc hbc hxc; exact h1 wc hbc); intro z hz)
      | ((with_reducible apply go_call_bool (f := 14) (hf := Tryz.call14)); (· (cbv; try rfl)); (· intro wc hbc hxc; exact h2 wc hbc); intro z hz)
      | ((with_reducible apply go_callq_bool (f := 14) (hf := Tryz.call14)); (· (cbv; try rfl)); (· intro wc hbc hxc; exact h2 wc hbc); intro z hz)
      | ((with_reducible apply go_call (f := 23) (hf := Tryz.call23)); (· (cbv; try rfl)); (· intro wc hbc hxc; exact h3 wc hbc))
      | ((with_reducible apply go_callq (f := 23) (hf := Tryz.call23)); (· (cbv; try rfl)); (· intro wc hbc hxc; exact h3 wc hbc))
      | ((with_reducible apply go_callR (f := 15) (hf := Tryz.call15)); (· intro S; cbv; try rfl); (· intro wc S hbc hxc hrc; exact h4 wc hbc); (· rfl))
      | ((with_reducible apply go_call (f := 17) (hf := Tryz.call17)); (· (cbv; try rfl)); (· intro wc hbc hxc; exact h5 wc hbc))
      | ((with_reducible apply go_callq (f := 17) (hf := Tryz.call17)); (· (cbv; try rfl)); (· intro wc hbc hxc; exact h5 wc hbc))
      | ((with_reducible apply go_call (f := 20) (hf := Tryz.call20)); (· (cbv; try rfl)); (· intro wc hbc hxc; exact h6 wc hbc))
      | ((with_reducible apply go_callq (f := 20) (hf := Tryz.call20)); (· (cbv; try rfl)); (· intro wc hbc hxc; exact h6 wc hbc))
      | ((with_reducible apply go_call (f := 24) (hf := Tryz.call24)); (· (cbv; try rfl)); (· intro wc hbc hxc; exact h7 wc hbc))
      | ((with_reducible apply go_callq (f := 24) (hf := Tryz.call24)); (· (cbv; try rfl)); (· intro wc hbc hxc; exact h7 wc hbc))
      | ((with_reducible apply go_call (f := 25) (hf := Tryz.call25)); (· (cbv; try rfl)); (· intro wc hbc hxc; exact h8 wc hbc _ (by assumption)))
      | ((with_reducible apply go_callq (f := 25) (hf := Tryz.call25)); (· (cbv; try rfl)); (· intro wc hbc hxc; exact h8 wc hbc _ (by assumption)))
      | ((with_reducible refine go_loopk (σ := {a : Nat // a ≤ N}) [68, 69, 70, 71, 72, 73, 74, 75, 76, 77, 78, 79, 80] (fun x => [(10, .pt (.one (.int .i64 (.ofNat x.1))))]) (fun x => []) (fun x => []) (fun x => N - x.1) ⟨0, by omega⟩ ?_ ?_ ?_ ?_); (· (refine le_mk ?_ ?_ ?_ ?_ <;> (cbv; (try simp only [true_and, and_true]); (try ((repeat' apply And.intro) <;> (first | trivial | rfl | exact RowLe.rfl' _ | (rw [wrap_nat har _ (by omega)]))))))); (· (cbv; try rfl)); (· simp); (rintro ⟨a, ha⟩ mm hmm))
      | ((with_reducible refine go_stop (⟨a + 1, by omega⟩ : {a : Nat // a ≤ N}) ?_ ?_ ?_ ?_); (· exact Nat.lt_of_lt_of_eq (show N - (a + 1) < N - a from by omega) (Eq.symm (by assumption))); (· (refine le_mk ?_ ?_ ?_ ?_ <;> (cbv; (try simp only [true_and, and_true]); (try ((repeat' apply And.intro) <;> (first | trivial | rfl | exact RowLe.rfl' _ | (rw [wrap_nat har _ (by omega)]))))))); (· (cbv; try rfl)); (· simp))
      | (((with_reducible apply go_need); (· exact Int.natCast_nonneg _); (· exact Int.ofNat_lt.2 (by assumption))))
      )
    all_goals first | rfl | exact absurd ((hlo (a := a) (by assumption)).symm.trans (by assumption)) (by decide)

end Go.Proofs.YtbljhhkjjlgnmaaGreat
