/- GraphWays, the walk. No condition. -/
import Derived.Test.YtanocepbagbbkaaGrK
import Derived.Test.YtanocepbagbbkaaSxQ
namespace Go.Proofs.Ytanocepbagbbkaa
open Go.RowKit
set_option linter.unusedVariables false
set_option linter.unusedSimpArgs false

/-- What 'in' says of a row of points. -/
structure InOk (R : ORow) (x y : Nat) (z : Bool) : Prop where
  ex : ∃ L : List (Nat × Nat), R = ptR L ∧ L.length ≤ 1000000 ∧ z = decide ((x, y) ∈ L)
theorem inK {R : ORow} {x y : Nat} {z : Bool} {c : Nat → Nat → Row} {w : World} {v : Value} (h : InOk R x y z) (hR : RowIs c w R v) :
    Calls Try.prog 15 #[v, .agg #[.int .i64 (.ofNat x), .int .i64 (.ofNat y)]] w (Ret w (.bool z)) := by
  obtain ⟨L, rfl, hl, rfl⟩ := h.ex
  exact inC L x y hl c w v hR
theorem mem_befP {F : GFun} {p q : Nat × Nat} : ∀ {n}, p ∈ befP F q n ↔ ∃ m, m < n ∧ (pbN F m, piN F m) = p ∧ q ∈ nextP F (pbN F m) (piN F m)
  | 0 => by simp [befP]
  | n + 1 => by
    have ih := mem_befP (F := F) (p := p) (q := q) (n := n)
    rw [befP, List.mem_append, ih]
    refine ⟨fun h => ?_, fun h => ?_⟩
    · rcases h with ⟨m, h1, h2, h3⟩ | h
      · exact ⟨m, by omega, h2, h3⟩
      · split at h
        · rename_i g
          exact ⟨n, by omega, (List.mem_singleton.1 h).symm, of_decide_eq_true g⟩
        · simp at h
    · obtain ⟨m, h1, h2, h3⟩ := h
      rcases Nat.lt_or_ge m n with g | g
      · exact .inl ⟨m, g, h2, h3⟩
      · obtain rfl : m = n := by omega
        refine .inr ?_
        rw [if_pos (decide_eq_true h3), ← h2]
        exact List.mem_singleton_self _
theorem bef_next {F : GFun} {a : Nat} {q : Nat × Nat} (ha : a < stN F.sn F.bn) : ((pbN F a, piN F a) ∈ befP F q (stN F.sn F.bn)) ↔ q ∈ nextP F (pbN F a) (piN F a) := by
  rw [mem_befP]
  refine ⟨fun ⟨m, h1, h2, h3⟩ => ?_, fun h => ⟨a, ha, rfl, h⟩⟩
  have e1 : pbN F m = pbN F a := congrArg Prod.fst h2
  have e2 : piN F m = piN F a := congrArg Prod.snd h2
  rw [e1, e2] at h3; exact h3
theorem mem_all {F : GFun} {p : Nat × Nat} (h1 : p.1 < F.bn) (h2 : p.2 ≤ F.sn p.1) : p ∈ allPts F.sn F.bn := by
  have e := at_num h1 h2
  refine mem_of_getD (j := stN F.sn p.1 + p.2) (by rw [allPts_len]; exact stN_lt h1 h2) ?_
  exact Prod.ext e.1 e.2
theorem next_in {F : GFun} {a : Nat} (h : piN F a < F.sn (pbN F a)) : nextP F (pbN F a) (piN F a) = [(pbN F a, piN F a + 1)] := by
  unfold nextP; rw [if_pos h]
theorem next_out {F : GFun} {a : Nat} (h : ¬ piN F a < F.sn (pbN F a)) : nextP F (pbN F a) (piN F a) = (sort2 (F.jump (pbN F a)).leads).map fun n => (n.toNat, 0) := by
  unfold nextP; rw [if_neg h]
theorem sort2_len (l : List Int) : (sort2 l).length = l.length := by
  unfold sort2
  split
  · split <;> rfl
  · rfl

theorem funX_qbM (F : GFun) : ∀ q i j, q < 4 → j < (funX F q i).n → qbL 4 ((funX F q i).el j) = true := fun q i j hq hj => by
  match q, hq with
  | 0, _ => rfl
  | 1, _ => rfl
  | 2, _ => rfl
  | 3, _ => rfl
set_option maxRecDepth 100000 in
set_option maxHeartbeats 8000000 in
theorem waysC (F : GFun) (w : World) (hF : F.At w) (hK : F.Ty8) (i k : Int) :
    Calls Try.prog 3 #[F.val, .int .i64 i, .int .i64 k] w (Ret w (.bool true)) := by
  have h1 (wc : World) (hk : KB ⟨w, []⟩ wc) := great7C F wc (hF.later hk)
  have h2 (wc : World) (hk : KB ⟨w, []⟩ wc) := rFnChk F wc (hF.later hk) hK
  by_cases hO : fit7 F = true
  case neg =>
    unfold fit7 at hO
    obtain ⟨q1, hq1⟩ : ∃ b, b = gfB F := ⟨_, rfl⟩
    obtain ⟨q2, hq2⟩ : ∃ b, b = rchkV F := ⟨_, rfl⟩
    rw [← hq1] at h1 hO
    rw [← hq2] at h2 hO
    clear hK hq1 hq2
    obtain ⟨pa, un, lA, ln, lc, lk, lt, bA, bn, bc, sA, sn, sc, s, jA, jn, jc, ja, jk, jo, jf, jx, je, jd⟩ := F
    obtain ⟨hX, hl, hb, hs, hj⟩ := hF
    simp only at hl hb hs hj
    refine go_start (args := [.pt (.agg (GFun.dat _)), .pt (.one (.int .i64 i)), .pt (.one (.int .i64 k))]) (c := (funX _)) Try.func3 rfl hX rfl rfl ?_
    obtain ⟨nd, hnd⟩ : ∃ f : Bool → Bool → Bool, f = and := ⟨_, rfl⟩
    obtain ⟨nt, hnt⟩ : ∃ f : Bool → Bool, f = not := ⟨_, rfl⟩
    obtain ⟨ar, har⟩ : ∃ f : BinOp → IntKind → Int → Int → Int, f = rAr := ⟨_, rfl⟩
    obtain ⟨cm, hcm⟩ : ∃ f : BinOp → Int → Int → Bool, f = rCm := ⟨_, rfl⟩
    obtain ⟨mx, hmx⟩ : ∃ f : Int → Int → Int, f = rMx := ⟨_, rfl⟩
    obtain ⟨mn, hmn⟩ : ∃ f : Int → Int → Int, f = rMn := ⟨_, rfl⟩
    have ar01 : ar .add .i64 0 1 = 1 := by rw [har]; decide
    have ar12 : ar .add .i64 1 1 = 2 := by rw [har]; decide
    obtain ⟨zpl, hzpl⟩ : ∃ f : Nat → Nat → Nat, f = fun x y => x + y := ⟨_, rfl⟩
    obtain ⟨zjn, hzjn⟩ : ∃ f : Nat → (Nat → List SC) → (Nat → List SC) → Nat → List SC, f = rJn := ⟨_, rfl⟩
    obtain ⟨zup, hzup⟩ : ∃ f : (Nat → List SC) → Nat → Nat → List SC → Nat → List SC, f = rUp := ⟨_, rfl⟩
    obtain ⟨zmi, hzmi⟩ : ∃ f : Nat → Nat → Nat, f = fun x y => x - y := ⟨_, rfl⟩
    obtain ⟨zdp, hzdp⟩ : ∃ f : Nat → (Nat → List SC) → Nat → List SC, f = rDp := ⟨_, rfl⟩
    have hT := T0_ok hnd hnt har hcm hmx hmn hzpl hzjn hzup hzmi hzdp
    repeat' (first
      | ((with_reducible apply go_ev hT 400); (· (cbv; try rfl)); (fail_if_success with_reducible apply stuck_id))
      | ((with_reducible refine go_brt ?_ ?_); (· first | rfl | assumption | (rw [hcm]; decide)))
      | ((with_reducible refine go_brf ?_ ?_); (· first | rfl | assumption | (rw [hcm]; decide)))
      | ((with_reducible refine go_brnt hnt ?_ ?_); (· first | rfl | assumption))
      | ((with_reducible refine go_brnf hnt ?_ ?_); (· first | rfl | assumption))
      | (with_reducible refine go_brn hnt (fun h => ?_) (fun h => ?_))
      | (with_reducible refine go_brl hcm (fun hlt => ?_) (fun hge => ?_))
      | (with_reducible refine go_br (fun h => ?_) (fun h => ?_))
      | ((with_reducible apply go_ret_val hT); (· (cbv; try rfl)); (· (cbv; try rfl)))
      | ((with_reducible apply go_fin_val hT); (· (cbv; try rfl)); (· (cbv; try rfl)))
      | ((with_reducible apply go_draw); (· rfl); (· kernel_rfl); (· kernel_rfl))
      | ((with_reducible apply go_drawE); (· kernel_rfl))
      | (with_reducible refine go_fork ?_)
      | (with_reducible refine fork_cons ?_ ?_)
      | (with_reducible exact fork_nil)
      | ((with_reducible refine go_need ?_ ?_ ?_); (· first | omega | (simp only [Int.ofNat_eq_natCast]; omega)); (· first | omega | (simp only [Int.ofNat_eq_natCast]; omega)))
      | ((with_reducible refine go_ob ?_ ?_); (· first | trivial | (refine ⟨trivial, ?_⟩; omega) | (rw [hzpl]; refine ⟨trivial, ?_⟩; show _ + _ ≤ 1073741824; omega) | (rw [hzpl]; show _ + _ ≤ 1073741824; omega)))
      | ((with_reducible apply go_ret_rows hT); (· (cbv; try rfl)); (· (cbv; try rfl)); (· (cbv; (try simp only [true_and, and_true]); (try ((repeat' apply And.intro) <;> (first | trivial | rfl | decide ))))); (· (cbv; (try simp only [true_and, and_true]); (try ((repeat' apply And.intro) <;> (first | trivial | rfl | exact RowLe.rfl' _ ))))); (· rfl))
      | ((with_reducible apply go_fin_rows hT); (· (cbv; try rfl)); (· (cbv; try rfl)); (· (cbv; (try simp only [true_and, and_true]); (try ((repeat' apply And.intro) <;> (first | trivial | rfl | decide ))))); (· (cbv; (try simp only [true_and, and_true]); (try ((repeat' apply And.intro) <;> (first | trivial | rfl | exact RowLe.rfl' _ ))))); (· rfl))
      | ((with_reducible apply go_call_bool (f := 9) (hf := Try.call9)); (· (cbv; try rfl)); (· intro wc hbc hxc; exact h1 wc hbc); intro z hz)
      | ((with_reducible apply go_callq_bool (f := 9) (hf := Try.call9)); (· (cbv; try rfl)); (· intro wc hbc hxc; exact h1 wc hbc); intro z hz)
      | ((with_reducible apply go_call_int (f := 10) (hf := Try.call10)); (· (cbv; try rfl)); (· intro wc hbc hxc; exact h2 wc hbc); intro z hz)
      | ((with_reducible apply go_callq_int (f := 10) (hf := Try.call10)); (· (cbv; try rfl)); (· intro wc hbc hxc; exact h2 wc hbc); intro z hz)
      | ((with_reducible apply go_call (f := 11) (hf := Try.call11)); (· (cbv; try rfl)); (· intro wc hbc hxc; exact alive11C wc))
      | ((with_reducible apply go_callq (f := 11) (hf := Try.call11)); (· (cbv; try rfl)); (· intro wc hbc hxc; exact alive11C wc))
      )
    all_goals (try rfl)
    all_goals (exfalso; clear hX hT h1 h2; subst_vars; simp_all)
  obtain ⟨e1, e2⟩ := fit7_two hO
  rw [e1] at h1
  rw [e2] at h2
  have hO := fit7_ok hO
  have h3 (wc : World) (hk : KB ⟨w, []⟩ wc) := pointsN F wc (hF.later hk) hO
  have hN9 := hO.pts
  obtain ⟨N, hN⟩ : ∃ N, N = stN F.sn F.bn := ⟨_, rfl⟩
  obtain ⟨pb, hpb⟩ : ∃ f : Nat → Nat, f = pbN F := ⟨_, rfl⟩
  obtain ⟨pi, hpi⟩ : ∃ f : Nat → Nat, f = piN F := ⟨_, rfl⟩
  have hR : ptR (allPts F.sn F.bn) = ⟨N, 2, fun j => [.int .i64 (.ofNat (pb j)), .int .i64 (.ofNat (pi j))]⟩ := by rw [ptR, allPts_len, hN, hpb, hpi]; rfl
  rw [hR] at h3
  have h40 (wc : World) (hk : KB ⟨w, []⟩ wc) (a : Nat) (ha : a < stN F.sn F.bn) := nextPC F wc (hF.later hk) hO (pbN F a) (piN F a) (num_pt ha).1 (num_pt ha).2.1
  have h50 (wc : World) (hk : KB ⟨w, []⟩ wc) (a : Nat) (ha : a < stN F.sn F.bn) := beforeC F wc (hF.later hk) hO (pbN F a) (piN F a) (num_pt ha).1 (num_pt ha).2.1
  have h60 (wc : World) (hk : KB ⟨w, []⟩ wc) (b : Nat) (hb : b < F.bn) := targetsC F wc (hF.later hk) b (hO.okJ hb)
  have hN0 : 0 < N := by rw [hN]; exact pts_pos hO
  by_cases hin : (0 ≤ i ∧ 0 ≤ k) ∧ i < N ∧ k < N
  case neg =>
    clear hR hN hpb hpi hO h40 h50 h60 hK e1 e2
    obtain ⟨pa, un, lA, ln, lc, lk, lt, bA, bn, bc, sA, sn, sc, s, jA, jn, jc, ja, jk, jo, jf, jx, je, jd⟩ := F
    obtain ⟨hX, hl, hb, hs, hj⟩ := hF
    simp only at hl hb hs hj
    refine go_start (args := [.pt (.agg (GFun.dat ⟨pa, un, lA, ln, lc, lk, lt, bA, bn, bc, sA, sn, sc, s, jA, jn, jc, ja, jk, jo, jf, jx, je, jd⟩)), .pt (.one (.int .i64 i)), .pt (.one (.int .i64 k))]) (c := (funX ⟨pa, un, lA, ln, lc, lk, lt, bA, bn, bc, sA, sn, sc, s, jA, jn, jc, ja, jk, jo, jf, jx, je, jd⟩)) Try.func3 rfl hX rfl rfl ?_
    obtain ⟨nd, hnd⟩ : ∃ f : Bool → Bool → Bool, f = and := ⟨_, rfl⟩
    obtain ⟨nt, hnt⟩ : ∃ f : Bool → Bool, f = not := ⟨_, rfl⟩
    obtain ⟨ar, har⟩ : ∃ f : BinOp → IntKind → Int → Int → Int, f = rAr := ⟨_, rfl⟩
    obtain ⟨cm, hcm⟩ : ∃ f : BinOp → Int → Int → Bool, f = rCm := ⟨_, rfl⟩
    obtain ⟨mx, hmx⟩ : ∃ f : Int → Int → Int, f = rMx := ⟨_, rfl⟩
    obtain ⟨mn, hmn⟩ : ∃ f : Int → Int → Int, f = rMn := ⟨_, rfl⟩
    have ar01 : ar .add .i64 0 1 = 1 := by rw [har]; decide
    have ar12 : ar .add .i64 1 1 = 2 := by rw [har]; decide
    obtain ⟨zpl, hzpl⟩ : ∃ f : Nat → Nat → Nat, f = fun x y => x + y := ⟨_, rfl⟩
    obtain ⟨zjn, hzjn⟩ : ∃ f : Nat → (Nat → List SC) → (Nat → List SC) → Nat → List SC, f = rJn := ⟨_, rfl⟩
    obtain ⟨zup, hzup⟩ : ∃ f : (Nat → List SC) → Nat → Nat → List SC → Nat → List SC, f = rUp := ⟨_, rfl⟩
    obtain ⟨zmi, hzmi⟩ : ∃ f : Nat → Nat → Nat, f = fun x y => x - y := ⟨_, rfl⟩
    obtain ⟨zdp, hzdp⟩ : ∃ f : Nat → (Nat → List SC) → Nat → List SC, f = rDp := ⟨_, rfl⟩
    have hT := T0_ok hnd hnt har hcm hmx hmn hzpl hzjn hzup hzmi hzdp
    repeat' (first
      | ((with_reducible apply go_ev hT 400); (· (cbv; try rfl)); (fail_if_success with_reducible apply stuck_id))
      | ((with_reducible refine go_brt ?_ ?_); (· first | rfl | assumption | (rw [hcm]; decide)))
      | ((with_reducible refine go_brf ?_ ?_); (· first | rfl | assumption | (rw [hcm]; decide)))
      | ((with_reducible refine go_brnt hnt ?_ ?_); (· first | rfl | assumption))
      | ((with_reducible refine go_brnf hnt ?_ ?_); (· first | rfl | assumption))
      | (with_reducible refine go_brn hnt (fun h => ?_) (fun h => ?_))
      | (with_reducible refine go_brl hcm (fun hlt => ?_) (fun hge => ?_))
      | (with_reducible refine go_br (fun h => ?_) (fun h => ?_))
      | ((with_reducible apply go_ret_val hT); (· (cbv; try rfl)); (· (cbv; try rfl)))
      | ((with_reducible apply go_fin_val hT); (· (cbv; try rfl)); (· (cbv; try rfl)))
      | ((with_reducible apply go_draw); (· rfl); (· kernel_rfl); (· kernel_rfl))
      | ((with_reducible apply go_drawE); (· kernel_rfl))
      | (with_reducible refine go_fork ?_)
      | (with_reducible refine fork_cons ?_ ?_)
      | (with_reducible exact fork_nil)
      | ((with_reducible refine go_need ?_ ?_ ?_); (· first | omega | (simp only [Int.ofNat_eq_natCast]; omega)); (· first | omega | (simp only [Int.ofNat_eq_natCast]; omega)))
      | ((with_reducible refine go_ob ?_ ?_); (· first | trivial | (refine ⟨trivial, ?_⟩; omega) | (rw [hzpl]; refine ⟨trivial, ?_⟩; show _ + _ ≤ 1073741824; omega) | (rw [hzpl]; show _ + _ ≤ 1073741824; omega)))
      | ((with_reducible apply go_ret_rows hT); (· (cbv; try rfl)); (· (cbv; try rfl)); (· (cbv; (try simp only [true_and, and_true]); (try ((repeat' apply And.intro) <;> (first | trivial | rfl | decide ))))); (· (cbv; (try simp only [true_and, and_true]); (try ((repeat' apply And.intro) <;> (first | trivial | rfl | exact RowLe.rfl' _ ))))); (· rfl))
      | ((with_reducible apply go_fin_rows hT); (· (cbv; try rfl)); (· (cbv; try rfl)); (· (cbv; (try simp only [true_and, and_true]); (try ((repeat' apply And.intro) <;> (first | trivial | rfl | decide ))))); (· (cbv; (try simp only [true_and, and_true]); (try ((repeat' apply And.intro) <;> (first | trivial | rfl | exact RowLe.rfl' _ ))))); (· rfl))
      | ((with_reducible apply go_call_bool (f := 9) (hf := Try.call9)); (· (cbv; try rfl)); (· intro wc hbc hxc; exact h1 wc hbc); intro z hz)
      | ((with_reducible apply go_callq_bool (f := 9) (hf := Try.call9)); (· (cbv; try rfl)); (· intro wc hbc hxc; exact h1 wc hbc); intro z hz)
      | ((with_reducible apply go_call (f := 10) (hf := Try.call10)); (· (cbv; try rfl)); (· intro wc hbc hxc; exact h2 wc hbc))
      | ((with_reducible apply go_callq (f := 10) (hf := Try.call10)); (· (cbv; try rfl)); (· intro wc hbc hxc; exact h2 wc hbc))
      | ((with_reducible apply go_callR (f := 12) (hf := Try.call12)); (· intro S; cbv; try rfl); (· intro wc S hbc hxc hrc; exact h3 wc hbc); (· rfl))
      | ((with_reducible apply go_call (f := 11) (hf := Try.call11)); (· (cbv; try rfl)); (· intro wc hbc hxc; exact alive11C wc))
      | ((with_reducible apply go_callq (f := 11) (hf := Try.call11)); (· (cbv; try rfl)); (· intro wc hbc hxc; exact alive11C wc))
      )
    all_goals (try rfl)
    all_goals (exfalso; clear hX hT h1 h2 h3; subst hcm; simp only [rCm, decide_eq_true_eq, decide_eq_false_iff_not, Int.ofNat_eq_natCast] at *; omega)
  obtain ⟨⟨i0, k0⟩, i1, k1⟩ := hin
  obtain ⟨a, rfl⟩ := Int.eq_ofNat_of_zero_le i0
  obtain ⟨b, rfl⟩ := Int.eq_ofNat_of_zero_le k0
  have ha : a < N := by omega
  have hb : b < N := by omega
  have hbN := hb
  have h41 (wc : World) (hk : KB ⟨w, []⟩ wc) := h40 wc hk a (hN ▸ ha)
  have h51 (wc : World) (hk : KB ⟨w, []⟩ wc) := h50 wc hk b (hN ▸ hb)
  have hpa := num_pt (F := F) (n := a) (hN ▸ ha)
  have h61 (wc : World) (hk : KB ⟨w, []⟩ wc) := h60 wc hk (pbN F a) hpa.1
  have hsn24 := hO.sn24 hpa.1
  have hbe := bef_next (F := F) (a := a) (q := (pbN F b, piN F b)) (hN ▸ ha)
  have hnx := fun p hp => next_mem hO hpa.1 (i := piN F a) (p := p) hp
  obtain ⟨NL, hNL⟩ : ∃ L, L = nextP F (pbN F a) (piN F a) := ⟨_, rfl⟩
  obtain ⟨nl, hnl⟩ : ∃ n, n = NL.length := ⟨_, rfl⟩
  obtain ⟨q1, hq1⟩ : ∃ f : Nat → Nat, f = fun k => (NL.getD k (0, 0)).1 := ⟨_, rfl⟩
  obtain ⟨q2, hq2⟩ : ∃ f : Nat → Nat, f = fun k => (NL.getD k (0, 0)).2 := ⟨_, rfl⟩
  obtain ⟨NB, hNB⟩ : ∃ R, R = ptR (befP F (pbN F b, piN F b) (stN F.sn F.bn)) := ⟨_, rfl⟩
  have hpNB : plainR [NB] := by rw [hNB]; exact ptPlain _
  obtain ⟨ld, hld⟩ : ∃ f : Nat → Nat, f = fun j => (leadsN F (pbN F a)).getD j 0 := ⟨_, rfl⟩
  obtain ⟨z, hz⟩ : ∃ z, z = decide ((pbN F b, piN F b) ∈ NL) := ⟨_, rfl⟩
  have hRN : ptR NL = ⟨nl, 2, fun j => [.int .i64 (.ofNat (q1 j)), .int .i64 (.ofNat (q2 j))]⟩ := by rw [ptR, hnl, hq1, hq2]
  have hl2 : nl ≤ 2 := by rw [hnl, hNL]; exact nextP_len
  have o1 : InOk ⟨nl, 2, fun j => [.int .i64 (.ofNat (q1 j)), .int .i64 (.ofNat (q2 j))]⟩ (pb b) (pi b) z := ⟨NL, hRN.symm, by omega, by rw [hz, hpb, hpi]⟩
  have o2 : InOk NB (pb a) (pi a) z := ⟨befP F (pbN F b, piN F b) (stN F.sn F.bn), hNB, by have := befP_len F (pbN F b, piN F b) (stN F.sn F.bn); have := hO.pts; omega, by
    rw [hz, hpb, hpi, hNL]; exact decide_eq_decide.2 hbe.symm⟩
  have o3 : ∀ j, j < nl → InOk ⟨N, 2, fun j => [.int .i64 (.ofNat (pb j)), .int .i64 (.ofNat (pi j))]⟩ (q1 j) (q2 j) true := fun j hj => by
    refine ⟨allPts F.sn F.bn, hR.symm, by rw [allPts_len]; have := hO.pts; omega, ?_⟩
    have hm : NL.getD j (0, 0) ∈ NL := mem_of_getD (by rw [hnl] at hj; exact hj) rfl
    have q := hnx (NL.getD j (0, 0)) (by rw [← hNL]; exact hm)
    have := mem_all q.1 q.2.1
    rw [hq1, hq2]
    exact (decide_eq_true this).symm
  have h4 (wc : World) (hk : KB ⟨w, []⟩ wc) : Calls Try.prog 13 #[F.val, .agg #[.int .i64 (.ofNat (pb a)), .int .i64 (.ofNat (pi a))]] wc (RetR wc (funX F) (.tup [.one (.rs 0), .one (.int .i64 0)]) [⟨nl, 2, fun j => [.int .i64 (.ofNat (q1 j)), .int .i64 (.ofNat (q2 j))]⟩]) := by
    rw [← hRN, hNL, hpb, hpi]; exact h41 wc hk
  have h5 (wc : World) (hk : KB ⟨w, []⟩ wc) : Calls Try.prog 14 #[F.val, .agg #[.int .i64 (.ofNat (pb b)), .int .i64 (.ofNat (pi b))]] wc (RetR wc (funX F) (.tup [.one (.rs 0), .one (.int .i64 0)]) [NB]) := by
    rw [hNB, hpb, hpi]; exact h51 wc hk
  have pbb : pb a < F.bn := by rw [hpb]; exact hpa.1
  have h62 (wc : World) (hk : KB ⟨w, []⟩ wc) : Calls Try.prog 16 #[jmpV F (pb a)] wc (RetR wc (funX F) (.tup [.one (.rs 0), .one (.int .i64 0)]) [⟨(leadsN F (pbN F a)).length, 1, fun j => [.int .i64 (.ofNat (ld j))]⟩]) := by
    have := h61 wc hk
    rw [intR_leads hO hpa.1] at this
    rw [hld, hpb]; exact this
  by_cases hs : piN F a < F.sn (pbN F a)
  · have e := next_in hs
    rw [← hNL] at e
    have n1 : nl = 1 := by rw [hnl, e]; rfl
    have c1' : q1 0 = pb a := by rw [hq1, e, hpb]; rfl
    have c2' : q2 0 = pi a + 1 := by rw [hq2, e, hpi]; rfl
    have hs2 : pi a < F.sn (pb a) := by rw [hpb, hpi]; exact hs
    have hsn24 : F.sn (pb a) ≤ 24 := by rw [hpb]; exact hsn24
    clear hR hN hpb hpi hO h40 h50 h60 hK e1 e2 h41 h51 h61 h62 hnx hbe hNL hNB hld hz hRN hnl hq1 hq2 e hs hpa hN9
    have g3 (wc : World) (hk : KB ⟨w, []⟩ wc) {c' : Nat → Nat → Row} := Calls.to (c' := c') (r := [⟨N, 2, fun j => [.int .i64 (.ofNat (pb j)), .int .i64 (.ofNat (pi j))]⟩]) ⟨fun _ _ => rfl, trivial⟩ rfl (h3 wc hk)
    have g4 (wc : World) (hk : KB ⟨w, []⟩ wc) {c' : Nat → Nat → Row} := Calls.to (c' := c') (r := [⟨nl, 2, fun j => [.int .i64 (.ofNat (q1 j)), .int .i64 (.ofNat (q2 j))]⟩]) ⟨fun _ _ => rfl, trivial⟩ rfl (h4 wc hk)
    have g5 (wc : World) (hk : KB ⟨w, []⟩ wc) {c' : Nat → Nat → Row} := Calls.to (c' := c') (r := [NB]) hpNB rfl (h5 wc hk)
    obtain ⟨pa, un, lA, ln, lc, lk, lt, bA, bn, bc, sA, sn, sc, s, jA, jn, jc, ja, jk, jo, jf, jx, je, jd⟩ := F
    obtain ⟨hX, hl, hb, hs, hj⟩ := hF
    simp only at hl hb hs hj
    simp only at hs2 hsn24 pbb
    refine go_start (args := [.pt (.agg (GFun.dat ⟨pa, un, lA, ln, lc, lk, lt, bA, bn, bc, sA, sn, sc, s, jA, jn, jc, ja, jk, jo, jf, jx, je, jd⟩)), .pt (.one (.int .i64 (.ofNat a))), .pt (.one (.int .i64 (.ofNat b)))]) (c := (funX ⟨pa, un, lA, ln, lc, lk, lt, bA, bn, bc, sA, sn, sc, s, jA, jn, jc, ja, jk, jo, jf, jx, je, jd⟩)) Try.func3 rfl hX rfl rfl ?_
    obtain ⟨nd, hnd⟩ : ∃ f : Bool → Bool → Bool, f = and := ⟨_, rfl⟩
    obtain ⟨nt, hnt⟩ : ∃ f : Bool → Bool, f = not := ⟨_, rfl⟩
    obtain ⟨ar, har⟩ : ∃ f : BinOp → IntKind → Int → Int → Int, f = rAr := ⟨_, rfl⟩
    obtain ⟨cm, hcm⟩ : ∃ f : BinOp → Int → Int → Bool, f = rCm := ⟨_, rfl⟩
    obtain ⟨mx, hmx⟩ : ∃ f : Int → Int → Int, f = rMx := ⟨_, rfl⟩
    obtain ⟨mn, hmn⟩ : ∃ f : Int → Int → Int, f = rMn := ⟨_, rfl⟩
    have ar01 : ar .add .i64 0 1 = 1 := by rw [har]; decide
    have ar12 : ar .add .i64 1 1 = 2 := by rw [har]; decide
    obtain ⟨zpl, hzpl⟩ : ∃ f : Nat → Nat → Nat, f = fun x y => x + y := ⟨_, rfl⟩
    obtain ⟨zjn, hzjn⟩ : ∃ f : Nat → (Nat → List SC) → (Nat → List SC) → Nat → List SC, f = rJn := ⟨_, rfl⟩
    obtain ⟨zup, hzup⟩ : ∃ f : (Nat → List SC) → Nat → Nat → List SC → Nat → List SC, f = rUp := ⟨_, rfl⟩
    obtain ⟨zmi, hzmi⟩ : ∃ f : Nat → Nat → Nat, f = fun x y => x - y := ⟨_, rfl⟩
    obtain ⟨zdp, hzdp⟩ : ∃ f : Nat → (Nat → List SC) → Nat → List SC, f = rDp := ⟨_, rfl⟩
    have hT := T0_ok hnd hnt har hcm hmx hmn hzpl hzjn hzup hzmi hzdp
    have d7 : decide (Int.ofNat nl = 1) = true := decide_eq_true (by simp only [Int.ofNat_eq_natCast]; omega)
    have hadd : ar .add .i64 (.ofNat (pi a)) 1 = .ofNat (pi a + 1) := wrap_nat har _ (by omega)
    have d8 : nd (decide (Int.ofNat (q1 0) = Int.ofNat (pb a))) (decide (Int.ofNat (q2 0) = ar .add .i64 (.ofNat (pi a)) 1)) = true := by rw [hadd, hnd, c1', c2']; simp
    have c0 : decide (Int.ofNat N = 0) = false := decide_eq_false (fun h => by simp only [Int.ofNat_eq_natCast] at h; omega)
    have c1 : ∀ m : Nat, cm .lss (.ofNat m) 0 = false := fun m => by rw [hcm]; exact decide_eq_false (Int.not_lt.2 (Int.natCast_nonneg m))
    have c2 : ∀ {m n : Nat}, m < n → cm .geq (.ofNat m) (.ofNat n) = false := fun {m n} h => by rw [hcm]; exact decide_eq_false (fun g => absurd (Int.ofNat_le.1 g) (by omega))
    have d1 := c1 a
    have d2 := c1 b
    have d3 := c2 ha
    have d4 := c2 hbN
    have d5 := c1 (pb a)
    have d6 := c2 pbb
    have hq : cm .lss (.ofNat (pi a)) (.ofNat (sn (pb a))) = true := by rw [hcm]; exact decide_eq_true (Int.ofNat_lt.2 hs2)
    refine go_fam 4 rfl rfl trivial (funX_qbM _) ?_
    repeat' (first
      | ((with_reducible apply go_ev hT 400); (· (cbv; try rfl)); (fail_if_success with_reducible apply stuck_id))
      | ((with_reducible refine go_brt ?_ ?_); (· first | rfl | assumption | (rw [hcm]; decide)))
      | ((with_reducible refine go_brf ?_ ?_); (· first | rfl | assumption | (rw [hcm]; decide)))
      | ((with_reducible refine go_brnt hnt ?_ ?_); (· first | rfl | assumption))
      | ((with_reducible refine go_brnf hnt ?_ ?_); (· first | rfl | assumption))
      | (with_reducible refine go_brn hnt (fun h => ?_) (fun h => ?_))
      | (with_reducible refine go_brl hcm (fun hlt => ?_) (fun hge => ?_))
      | (with_reducible refine go_br (fun h => ?_) (fun h => ?_))
      | ((with_reducible apply go_ret_val hT); (· (cbv; try rfl)); (· (cbv; try rfl)))
      | ((with_reducible apply go_fin_val hT); (· (cbv; try rfl)); (· (cbv; try rfl)))
      | (with_reducible refine go_fork ?_)
      | (with_reducible refine fork_cons ?_ ?_)
      | (with_reducible exact fork_nil)
      | ((with_reducible refine go_need ?_ ?_ ?_); (· first | omega | (simp only [Int.ofNat_eq_natCast]; omega)); (· first | omega | (simp only [Int.ofNat_eq_natCast]; omega)))
      | ((with_reducible refine go_ob ?_ ?_); (· first | trivial | (refine ⟨trivial, ?_⟩; omega) | (rw [hzpl]; refine ⟨trivial, ?_⟩; show _ + _ ≤ 1073741824; omega) | (rw [hzpl]; show _ + _ ≤ 1073741824; omega)))
      | ((with_reducible apply go_ret_rows hT); (· (cbv; try rfl)); (· (cbv; try rfl)); (· (cbv; (try simp only [true_and, and_true]); (try ((repeat' apply And.intro) <;> (first | trivial | rfl | decide ))))); (· (cbv; (try simp only [true_and, and_true]); (try ((repeat' apply And.intro) <;> (first | trivial | rfl | exact RowLe.rfl' _ ))))); (· rfl))
      | ((with_reducible apply go_fin_rows hT); (· (cbv; try rfl)); (· (cbv; try rfl)); (· (cbv; (try simp only [true_and, and_true]); (try ((repeat' apply And.intro) <;> (first | trivial | rfl | decide ))))); (· (cbv; (try simp only [true_and, and_true]); (try ((repeat' apply And.intro) <;> (first | trivial | rfl | exact RowLe.rfl' _ ))))); (· rfl))
      | ((with_reducible apply go_call_bool (f := 9) (hf := Try.call9)); (· (cbv; try rfl)); (· intro wc hbc hxc; exact h1 wc hbc); intro z hz)
      | ((with_reducible apply go_callq_bool (f := 9) (hf := Try.call9)); (· (cbv; try rfl)); (· intro wc hbc hxc; exact h1 wc hbc); intro z hz)
      | ((with_reducible apply go_call (f := 10) (hf := Try.call10)); (· (cbv; try rfl)); (· intro wc hbc hxc; exact h2 wc hbc))
      | ((with_reducible apply go_callq (f := 10) (hf := Try.call10)); (· (cbv; try rfl)); (· intro wc hbc hxc; exact h2 wc hbc))
      | ((with_reducible apply go_callR (f := 12) (hf := Try.call12)); (· intro S; cbv; try rfl); (· intro wc S hbc hxc hrc; exact g3 wc hbc); (· rfl))
      | (fail)
      )
    with_reducible refine go_drawE (by kernel_rfl) ?_
    refine go_boxT 3 4 rfl rfl rfl rfl rfl ⟨fun _ _ => rfl, trivial⟩ rfl (fam_qb (funX_qbM _)) fam_n (fun a0 _ => ?_)
    refine go_cutL (σ := Option Addr × Option Addr) (fun y => chiG (chiG (chiG (chiG (funX ⟨pa, un, lA, ln, lc, lk, lt, bA, bn, bc, sA, sn, sc, s, jA, jn, jc, ja, jk, jo, jf, jx, je, jd⟩) 4 NoFam) 4 (boxG a0 [.int .i64 pa, .bool un, .xs 0 0, .xs 1 0])) 5 (boxG y.1 [.int .i64 (.ofNat (pb a)), .int .i64 (.ofNat (pi a))])) 6 (boxG y.2 [.int .i64 (.ofNat (pb b)), .int .i64 (.ofNat (pi b))])) [58, 59, 60, 61, 62, 63, 64, 65] (fun y => [(9, .pt (.one (.xp 5 0 0 0))), (10, .pt (.one (.xp 6 0 0 0)))]) (fun y => []) (fun y => []) rfl ?_ (fun y => ?_)
    · skip
      repeat' (first
        | ((with_reducible apply go_ev hT 400); (· (cbv; try rfl)); (fail_if_success with_reducible apply stuck_id))
        | ((with_reducible refine go_brt ?_ ?_); (· first | rfl | assumption | (rw [hcm]; decide)))
        | ((with_reducible refine go_brf ?_ ?_); (· first | rfl | assumption | (rw [hcm]; decide)))
        | ((with_reducible refine go_brnt hnt ?_ ?_); (· first | rfl | assumption))
        | ((with_reducible refine go_brnf hnt ?_ ?_); (· first | rfl | assumption))
        | (with_reducible refine go_brn hnt (fun h => ?_) (fun h => ?_))
        | (with_reducible refine go_brl hcm (fun hlt => ?_) (fun hge => ?_))
        | (with_reducible refine go_br (fun h => ?_) (fun h => ?_))
        | ((with_reducible apply go_ret_val hT); (· (cbv; try rfl)); (· (cbv; try rfl)))
        | ((with_reducible apply go_fin_val hT); (· (cbv; try rfl)); (· (cbv; try rfl)))
        | ((with_reducible apply go_draw); (· rfl); (· kernel_rfl); (· kernel_rfl))
        | ((with_reducible apply go_drawE); (· kernel_rfl))
        | (with_reducible refine go_fork ?_)
        | (with_reducible refine fork_cons ?_ ?_)
        | (with_reducible exact fork_nil)
        | ((with_reducible refine go_need ?_ ?_ ?_); (· first | omega | (simp only [Int.ofNat_eq_natCast]; omega)); (· first | omega | (simp only [Int.ofNat_eq_natCast]; omega)))
        | ((with_reducible refine go_ob ?_ ?_); (· first | trivial | (refine ⟨trivial, ?_⟩; omega) | (rw [hzpl]; refine ⟨trivial, ?_⟩; show _ + _ ≤ 1073741824; omega) | (rw [hzpl]; show _ + _ ≤ 1073741824; omega)))
        | ((with_reducible apply go_ret_rows hT); (· (cbv; try rfl)); (· (cbv; try rfl)); (· (cbv; (try simp only [true_and, and_true]); (try ((repeat' apply And.intro) <;> (first | trivial | rfl | decide ))))); (· (cbv; (try simp only [true_and, and_true]); (try ((repeat' apply And.intro) <;> (first | trivial | rfl | exact RowLe.rfl' _ ))))); (· rfl))
        | ((with_reducible apply go_fin_rows hT); (· (cbv; try rfl)); (· (cbv; try rfl)); (· (cbv; (try simp only [true_and, and_true]); (try ((repeat' apply And.intro) <;> (first | trivial | rfl | decide ))))); (· (cbv; (try simp only [true_and, and_true]); (try ((repeat' apply And.intro) <;> (first | trivial | rfl | exact RowLe.rfl' _ ))))); (· rfl))
        | (((with_reducible apply go_need); (· exact Int.natCast_nonneg _); (· first | exact Int.ofNat_lt.2 pbb | exact Int.ofNat_lt.2 ha | exact Int.ofNat_lt.2 hbN)))
        | (((refine go_boxS 9 5 rfl rfl rfl rfl rfl ⟨fun _ _ => rfl, trivial⟩ (box_qb (fam_qb (funX_qbM _)) rfl qbL_up) (fun a1 _ => ?_)); (refine go_boxS 10 6 rfl rfl rfl rfl rfl ⟨fun _ _ => rfl, trivial⟩ (box_qb (box_qb (fam_qb (funX_qbM _)) rfl qbL_up) rfl qbL_up) (fun a2 _ => ?_)); (refine go_stopC (a1, a2) rfl ?_ ?_ ?_); (· (refine le_mk ?_ ?_ ?_ ?_ <;> (cbv; (try simp only [true_and, and_true]); (try ((repeat' apply And.intro) <;> (first | trivial | rfl | exact RowLe.rfl' _)))))); (· (cbv; try rfl)); (· simp)))
        | (fail)
        )
      all_goals trace_state
    obtain ⟨a1, a2⟩ := y
    simp only
    repeat' (first
      | ((with_reducible apply go_ev hT 400); (· (cbv; try rfl)); (fail_if_success with_reducible apply stuck_id))
      | ((with_reducible refine go_brt ?_ ?_); (· first | rfl | assumption | (rw [hcm]; decide)))
      | ((with_reducible refine go_brf ?_ ?_); (· first | rfl | assumption | (rw [hcm]; decide)))
      | ((with_reducible refine go_brnt hnt ?_ ?_); (· first | rfl | assumption))
      | ((with_reducible refine go_brnf hnt ?_ ?_); (· first | rfl | assumption))
      | (with_reducible refine go_brn hnt (fun h => ?_) (fun h => ?_))
      | (with_reducible refine go_brl hcm (fun hlt => ?_) (fun hge => ?_))
      | (with_reducible refine go_br (fun h => ?_) (fun h => ?_))
      | ((with_reducible apply go_ret_val hT); (· (cbv; try rfl)); (· (cbv; try rfl)))
      | ((with_reducible apply go_fin_val hT); (· (cbv; try rfl)); (· (cbv; try rfl)))
      | ((with_reducible apply go_drawQ [13]); (· rfl); (· rfl); (· kernel_rfl); (· kernel_rfl))
      | ((with_reducible apply go_drawE); (· kernel_rfl))
      | (with_reducible refine go_fork ?_)
      | (with_reducible refine fork_cons ?_ ?_)
      | (with_reducible exact fork_nil)
      | ((with_reducible refine go_need ?_ ?_ ?_); (· first | omega | (simp only [Int.ofNat_eq_natCast]; omega)); (· first | omega | (simp only [Int.ofNat_eq_natCast]; omega)))
      | ((with_reducible refine go_ob ?_ ?_); (· first | trivial | (refine ⟨trivial, ?_⟩; omega) | (rw [hzpl]; refine ⟨trivial, ?_⟩; show _ + _ ≤ 1073741824; omega) | (rw [hzpl]; show _ + _ ≤ 1073741824; omega)))
      | ((with_reducible apply go_ret_rows hT); (· (cbv; try rfl)); (· (cbv; try rfl)); (· (cbv; (try simp only [true_and, and_true]); (try ((repeat' apply And.intro) <;> (first | trivial | rfl | decide ))))); (· (cbv; (try simp only [true_and, and_true]); (try ((repeat' apply And.intro) <;> (first | trivial | rfl | exact RowLe.rfl' _ ))))); (· rfl))
      | ((with_reducible apply go_fin_rows hT); (· (cbv; try rfl)); (· (cbv; try rfl)); (· (cbv; (try simp only [true_and, and_true]); (try ((repeat' apply And.intro) <;> (first | trivial | rfl | decide ))))); (· (cbv; (try simp only [true_and, and_true]); (try ((repeat' apply And.intro) <;> (first | trivial | rfl | exact RowLe.rfl' _ ))))); (· rfl))
      | ((with_reducible apply go_callR (f := 13) (hf := Try.call13)); (· intro S; cbv; try rfl); (· intro wc S hbc hxc hrc; exact g4 wc hbc); (· rfl))
      | ((with_reducible apply go_callR (f := 14) (hf := Try.call14)); (· intro S; cbv; try rfl); (· intro wc S hbc hxc hrc; exact g5 wc hbc); (· rfl))
      | ((with_reducible apply go_callRv (f := 15) (hf := Try.call15)); (· intro S; cbv; try rfl); (· intro wc S hbc hxc hrc; exact inK (by first | exact o1 | exact o2 | exact o3 _ (by assumption)) (hrc _ _ rfl)))
      | ((with_reducible apply go_callqRv (f := 15) (hf := Try.call15)); (· intro S; cbv; try rfl); (· intro wc S hbc hxc hrc; exact inK (by first | exact o1 | exact o2 | exact o3 _ (by assumption)) (hrc _ _ rfl)))
      | ((with_reducible apply go_call (f := 11) (hf := Try.call11)); (· (cbv; try rfl)); (· intro wc hbc hxc; exact alive11C wc))
      | ((with_reducible apply go_callq (f := 11) (hf := Try.call11)); (· (cbv; try rfl)); (· intro wc hbc hxc; exact alive11C wc))
      | (((with_reducible apply go_need); (· exact Int.natCast_nonneg _); (· first | exact Int.ofNat_lt.2 pbb | exact Int.ofNat_lt.2 ha | exact Int.ofNat_lt.2 hbN)))
      | ((with_reducible refine go_loopk (σ := {j : Nat // j ≤ nl}) [6, 106, 107, 108, 109, 110, 111, 112, 113, 114, 115, 116, 117, 118] (fun x => [(15, .pt (.one (.int .i64 (.ofNat x.1))))]) (fun x => []) (fun x => []) (fun x => nl - x.1) ⟨0, by omega⟩ ?_ ?_ ?_ ?_); (· (refine le_mk ?_ ?_ ?_ ?_ <;> (cbv; (try simp only [true_and, and_true]); (try ((repeat' apply And.intro) <;> (first | trivial | rfl | exact RowLe.rfl' _ | (rw [wrap_nat har _ (by omega)]))))))); (· (cbv; try rfl)); (· simp); (rintro ⟨j, hj⟩ mm hmm))
      | ((with_reducible refine go_stop (⟨j + 1, by omega⟩ : {j : Nat // j ≤ nl}) ?_ ?_ ?_ ?_); (· exact Nat.lt_of_lt_of_eq (show nl - (j + 1) < nl - j from by omega) (Eq.symm (by assumption))); (· (refine le_mk ?_ ?_ ?_ ?_ <;> (cbv; (try simp only [true_and, and_true]); (try ((repeat' apply And.intro) <;> (first | trivial | rfl | exact RowLe.rfl' _ | (rw [wrap_nat har _ (by omega)]))))))); (· (cbv; try rfl)); (· simp))
      | (fail)
      )
    all_goals (try rfl)
    all_goals trace_state
  · have e := next_out hs
    rw [← hNL] at e
    have n1 : (leadsN F (pbN F a)).length = nl := by rw [hnl, e, List.length_map, sort2_len, leadsN, List.length_map]
    have o4 : ∀ j, j < nl → InOk ⟨nl, 2, fun j => [.int .i64 (.ofNat (q1 j)), .int .i64 (.ofNat (q2 j))]⟩ (ld j) 0 true := fun j hj => by
      refine ⟨NL, hRN.symm, by omega, (decide_eq_true ?_).symm⟩
      have hj2 : j < (F.jump (pbN F a)).leads.length := by rw [leadsN, List.length_map] at n1; omega
      rw [e]
      refine List.mem_map.2 ⟨(F.jump (pbN F a)).leads[j], mem_sort2.2 (List.getElem_mem hj2), ?_⟩
      rw [hld]
      simp only [leadsN, List.getD, List.getElem?_map, List.getElem?_eq_getElem hj2, Option.map_some, Option.getD_some]
    have h6 (wc : World) (hk : KB ⟨w, []⟩ wc) : Calls Try.prog 16 #[jmpV F (pb a)] wc (RetR wc (funX F) (.tup [.one (.rs 0), .one (.int .i64 0)]) [⟨nl, 1, fun j => [.int .i64 (.ofNat (ld j))]⟩]) := by
      have := h62 wc hk
      rw [n1] at this; exact this
    have hs2 : F.sn (pb a) ≤ pi a := by rw [hpb, hpi]; omega
    clear hR hN hpb hpi hO h40 h50 h60 hK e1 e2 h41 h51 h61 h62 hnx hbe hNL hNB hld hz hRN hnl hq1 hq2 e hs hpa hN9 n1 hsn24
    have g3 (wc : World) (hk : KB ⟨w, []⟩ wc) {c' : Nat → Nat → Row} := Calls.to (c' := c') (r := [⟨N, 2, fun j => [.int .i64 (.ofNat (pb j)), .int .i64 (.ofNat (pi j))]⟩]) ⟨fun _ _ => rfl, trivial⟩ rfl (h3 wc hk)
    have g4 (wc : World) (hk : KB ⟨w, []⟩ wc) {c' : Nat → Nat → Row} := Calls.to (c' := c') (r := [⟨nl, 2, fun j => [.int .i64 (.ofNat (q1 j)), .int .i64 (.ofNat (q2 j))]⟩]) ⟨fun _ _ => rfl, trivial⟩ rfl (h4 wc hk)
    have g5 (wc : World) (hk : KB ⟨w, []⟩ wc) {c' : Nat → Nat → Row} := Calls.to (c' := c') (r := [NB]) hpNB rfl (h5 wc hk)
    have g6 (wc : World) (hk : KB ⟨w, []⟩ wc) {c' : Nat → Nat → Row} := Calls.to (c' := c') (r := [⟨nl, 1, fun j => [.int .i64 (.ofNat (ld j))]⟩]) ⟨fun _ _ => rfl, trivial⟩ rfl (h6 wc hk)
    obtain ⟨pa, un, lA, ln, lc, lk, lt, bA, bn, bc, sA, sn, sc, s, jA, jn, jc, ja, jk, jo, jf, jx, je, jd⟩ := F
    obtain ⟨hX, hl, hb, hs, hj⟩ := hF
    simp only at hl hb hs hj
    simp only at hs2 pbb
    refine go_start (args := [.pt (.agg (GFun.dat ⟨pa, un, lA, ln, lc, lk, lt, bA, bn, bc, sA, sn, sc, s, jA, jn, jc, ja, jk, jo, jf, jx, je, jd⟩)), .pt (.one (.int .i64 (.ofNat a))), .pt (.one (.int .i64 (.ofNat b)))]) (c := (funX ⟨pa, un, lA, ln, lc, lk, lt, bA, bn, bc, sA, sn, sc, s, jA, jn, jc, ja, jk, jo, jf, jx, je, jd⟩)) Try.func3 rfl hX rfl rfl ?_
    obtain ⟨nd, hnd⟩ : ∃ f : Bool → Bool → Bool, f = and := ⟨_, rfl⟩
    obtain ⟨nt, hnt⟩ : ∃ f : Bool → Bool, f = not := ⟨_, rfl⟩
    obtain ⟨ar, har⟩ : ∃ f : BinOp → IntKind → Int → Int → Int, f = rAr := ⟨_, rfl⟩
    obtain ⟨cm, hcm⟩ : ∃ f : BinOp → Int → Int → Bool, f = rCm := ⟨_, rfl⟩
    obtain ⟨mx, hmx⟩ : ∃ f : Int → Int → Int, f = rMx := ⟨_, rfl⟩
    obtain ⟨mn, hmn⟩ : ∃ f : Int → Int → Int, f = rMn := ⟨_, rfl⟩
    have ar01 : ar .add .i64 0 1 = 1 := by rw [har]; decide
    have ar12 : ar .add .i64 1 1 = 2 := by rw [har]; decide
    obtain ⟨zpl, hzpl⟩ : ∃ f : Nat → Nat → Nat, f = fun x y => x + y := ⟨_, rfl⟩
    obtain ⟨zjn, hzjn⟩ : ∃ f : Nat → (Nat → List SC) → (Nat → List SC) → Nat → List SC, f = rJn := ⟨_, rfl⟩
    obtain ⟨zup, hzup⟩ : ∃ f : (Nat → List SC) → Nat → Nat → List SC → Nat → List SC, f = rUp := ⟨_, rfl⟩
    obtain ⟨zmi, hzmi⟩ : ∃ f : Nat → Nat → Nat, f = fun x y => x - y := ⟨_, rfl⟩
    obtain ⟨zdp, hzdp⟩ : ∃ f : Nat → (Nat → List SC) → Nat → List SC, f = rDp := ⟨_, rfl⟩
    have hT := T0_ok hnd hnt har hcm hmx hmn hzpl hzjn hzup hzmi hzdp
    have c0 : decide (Int.ofNat N = 0) = false := decide_eq_false (fun h => by simp only [Int.ofNat_eq_natCast] at h; omega)
    have c1 : ∀ m : Nat, cm .lss (.ofNat m) 0 = false := fun m => by rw [hcm]; exact decide_eq_false (Int.not_lt.2 (Int.natCast_nonneg m))
    have c2 : ∀ {m n : Nat}, m < n → cm .geq (.ofNat m) (.ofNat n) = false := fun {m n} h => by rw [hcm]; exact decide_eq_false (fun g => absurd (Int.ofNat_le.1 g) (by omega))
    have d1 := c1 a
    have d2 := c1 b
    have d3 := c2 ha
    have d4 := c2 hbN
    have d5 := c1 (pb a)
    have d6 := c2 pbb
    have hq : cm .lss (.ofNat (pi a)) (.ofNat (sn (pb a))) = false := by rw [hcm]; exact decide_eq_false (Int.not_lt.2 (Int.ofNat_le.2 hs2))
    refine go_fam 4 rfl rfl trivial (funX_qbM _) ?_
    repeat' (first
      | ((with_reducible apply go_ev hT 400); (· (cbv; try rfl)); (fail_if_success with_reducible apply stuck_id))
      | ((with_reducible refine go_brt ?_ ?_); (· first | rfl | assumption | (rw [hcm]; decide)))
      | ((with_reducible refine go_brf ?_ ?_); (· first | rfl | assumption | (rw [hcm]; decide)))
      | ((with_reducible refine go_brnt hnt ?_ ?_); (· first | rfl | assumption))
      | ((with_reducible refine go_brnf hnt ?_ ?_); (· first | rfl | assumption))
      | (with_reducible refine go_brn hnt (fun h => ?_) (fun h => ?_))
      | (with_reducible refine go_brl hcm (fun hlt => ?_) (fun hge => ?_))
      | (with_reducible refine go_br (fun h => ?_) (fun h => ?_))
      | ((with_reducible apply go_ret_val hT); (· (cbv; try rfl)); (· (cbv; try rfl)))
      | ((with_reducible apply go_fin_val hT); (· (cbv; try rfl)); (· (cbv; try rfl)))
      | (with_reducible refine go_fork ?_)
      | (with_reducible refine fork_cons ?_ ?_)
      | (with_reducible exact fork_nil)
      | ((with_reducible refine go_need ?_ ?_ ?_); (· first | omega | (simp only [Int.ofNat_eq_natCast]; omega)); (· first | omega | (simp only [Int.ofNat_eq_natCast]; omega)))
      | ((with_reducible refine go_ob ?_ ?_); (· first | trivial | (refine ⟨trivial, ?_⟩; omega) | (rw [hzpl]; refine ⟨trivial, ?_⟩; show _ + _ ≤ 1073741824; omega) | (rw [hzpl]; show _ + _ ≤ 1073741824; omega)))
      | ((with_reducible apply go_ret_rows hT); (· (cbv; try rfl)); (· (cbv; try rfl)); (· (cbv; (try simp only [true_and, and_true]); (try ((repeat' apply And.intro) <;> (first | trivial | rfl | decide ))))); (· (cbv; (try simp only [true_and, and_true]); (try ((repeat' apply And.intro) <;> (first | trivial | rfl | exact RowLe.rfl' _ ))))); (· rfl))
      | ((with_reducible apply go_fin_rows hT); (· (cbv; try rfl)); (· (cbv; try rfl)); (· (cbv; (try simp only [true_and, and_true]); (try ((repeat' apply And.intro) <;> (first | trivial | rfl | decide ))))); (· (cbv; (try simp only [true_and, and_true]); (try ((repeat' apply And.intro) <;> (first | trivial | rfl | exact RowLe.rfl' _ ))))); (· rfl))
      | ((with_reducible apply go_call_bool (f := 9) (hf := Try.call9)); (· (cbv; try rfl)); (· intro wc hbc hxc; exact h1 wc hbc); intro z hz)
      | ((with_reducible apply go_callq_bool (f := 9) (hf := Try.call9)); (· (cbv; try rfl)); (· intro wc hbc hxc; exact h1 wc hbc); intro z hz)
      | ((with_reducible apply go_call (f := 10) (hf := Try.call10)); (· (cbv; try rfl)); (· intro wc hbc hxc; exact h2 wc hbc))
      | ((with_reducible apply go_callq (f := 10) (hf := Try.call10)); (· (cbv; try rfl)); (· intro wc hbc hxc; exact h2 wc hbc))
      | ((with_reducible apply go_callR (f := 12) (hf := Try.call12)); (· intro S; cbv; try rfl); (· intro wc S hbc hxc hrc; exact g3 wc hbc); (· rfl))
      | (fail)
      )
    with_reducible refine go_drawE (by kernel_rfl) ?_
    refine go_boxT 3 4 rfl rfl rfl rfl rfl ⟨fun _ _ => rfl, trivial⟩ rfl (fam_qb (funX_qbM _)) fam_n (fun a0 _ => ?_)
    refine go_cutL (σ := Option Addr × Option Addr) (fun y => chiG (chiG (chiG (chiG (funX ⟨pa, un, lA, ln, lc, lk, lt, bA, bn, bc, sA, sn, sc, s, jA, jn, jc, ja, jk, jo, jf, jx, je, jd⟩) 4 NoFam) 4 (boxG a0 [.int .i64 pa, .bool un, .xs 0 0, .xs 1 0])) 5 (boxG y.1 [.int .i64 (.ofNat (pb a)), .int .i64 (.ofNat (pi a))])) 6 (boxG y.2 [.int .i64 (.ofNat (pb b)), .int .i64 (.ofNat (pi b))])) [58, 59, 60, 61, 62, 63, 64, 65] (fun y => [(9, .pt (.one (.xp 5 0 0 0))), (10, .pt (.one (.xp 6 0 0 0)))]) (fun y => []) (fun y => []) rfl ?_ (fun y => ?_)
    · skip
      repeat' (first
        | ((with_reducible apply go_ev hT 400); (· (cbv; try rfl)); (fail_if_success with_reducible apply stuck_id))
        | ((with_reducible refine go_brt ?_ ?_); (· first | rfl | assumption | (rw [hcm]; decide)))
        | ((with_reducible refine go_brf ?_ ?_); (· first | rfl | assumption | (rw [hcm]; decide)))
        | ((with_reducible refine go_brnt hnt ?_ ?_); (· first | rfl | assumption))
        | ((with_reducible refine go_brnf hnt ?_ ?_); (· first | rfl | assumption))
        | (with_reducible refine go_brn hnt (fun h => ?_) (fun h => ?_))
        | (with_reducible refine go_brl hcm (fun hlt => ?_) (fun hge => ?_))
        | (with_reducible refine go_br (fun h => ?_) (fun h => ?_))
        | ((with_reducible apply go_ret_val hT); (· (cbv; try rfl)); (· (cbv; try rfl)))
        | ((with_reducible apply go_fin_val hT); (· (cbv; try rfl)); (· (cbv; try rfl)))
        | ((with_reducible apply go_draw); (· rfl); (· kernel_rfl); (· kernel_rfl))
        | ((with_reducible apply go_drawE); (· kernel_rfl))
        | (with_reducible refine go_fork ?_)
        | (with_reducible refine fork_cons ?_ ?_)
        | (with_reducible exact fork_nil)
        | ((with_reducible refine go_need ?_ ?_ ?_); (· first | omega | (simp only [Int.ofNat_eq_natCast]; omega)); (· first | omega | (simp only [Int.ofNat_eq_natCast]; omega)))
        | ((with_reducible refine go_ob ?_ ?_); (· first | trivial | (refine ⟨trivial, ?_⟩; omega) | (rw [hzpl]; refine ⟨trivial, ?_⟩; show _ + _ ≤ 1073741824; omega) | (rw [hzpl]; show _ + _ ≤ 1073741824; omega)))
        | ((with_reducible apply go_ret_rows hT); (· (cbv; try rfl)); (· (cbv; try rfl)); (· (cbv; (try simp only [true_and, and_true]); (try ((repeat' apply And.intro) <;> (first | trivial | rfl | decide ))))); (· (cbv; (try simp only [true_and, and_true]); (try ((repeat' apply And.intro) <;> (first | trivial | rfl | exact RowLe.rfl' _ ))))); (· rfl))
        | ((with_reducible apply go_fin_rows hT); (· (cbv; try rfl)); (· (cbv; try rfl)); (· (cbv; (try simp only [true_and, and_true]); (try ((repeat' apply And.intro) <;> (first | trivial | rfl | decide ))))); (· (cbv; (try simp only [true_and, and_true]); (try ((repeat' apply And.intro) <;> (first | trivial | rfl | exact RowLe.rfl' _ ))))); (· rfl))
        | (((with_reducible apply go_need); (· exact Int.natCast_nonneg _); (· first | exact Int.ofNat_lt.2 pbb | exact Int.ofNat_lt.2 ha | exact Int.ofNat_lt.2 hbN)))
        | (((refine go_boxS 9 5 rfl rfl rfl rfl rfl ⟨fun _ _ => rfl, trivial⟩ (box_qb (fam_qb (funX_qbM _)) rfl qbL_up) (fun a1 _ => ?_)); (refine go_boxS 10 6 rfl rfl rfl rfl rfl ⟨fun _ _ => rfl, trivial⟩ (box_qb (box_qb (fam_qb (funX_qbM _)) rfl qbL_up) rfl qbL_up) (fun a2 _ => ?_)); (refine go_stopC (a1, a2) rfl ?_ ?_ ?_); (· (refine le_mk ?_ ?_ ?_ ?_ <;> (cbv; (try simp only [true_and, and_true]); (try ((repeat' apply And.intro) <;> (first | trivial | rfl | exact RowLe.rfl' _)))))); (· (cbv; try rfl)); (· simp)))
        | (fail)
        )
      all_goals trace_state
    obtain ⟨a1, a2⟩ := y
    simp only
    repeat' (first
      | ((with_reducible apply go_ev hT 400); (· (cbv; try rfl)); (fail_if_success with_reducible apply stuck_id))
      | ((with_reducible refine go_brt ?_ ?_); (· first | rfl | assumption | (rw [hcm]; decide)))
      | ((with_reducible refine go_brf ?_ ?_); (· first | rfl | assumption | (rw [hcm]; decide)))
      | ((with_reducible refine go_brnt hnt ?_ ?_); (· first | rfl | assumption))
      | ((with_reducible refine go_brnf hnt ?_ ?_); (· first | rfl | assumption))
      | (with_reducible refine go_brn hnt (fun h => ?_) (fun h => ?_))
      | (with_reducible refine go_brl hcm (fun hlt => ?_) (fun hge => ?_))
      | (with_reducible refine go_br (fun h => ?_) (fun h => ?_))
      | ((with_reducible apply go_ret_val hT); (· (cbv; try rfl)); (· (cbv; try rfl)))
      | ((with_reducible apply go_fin_val hT); (· (cbv; try rfl)); (· (cbv; try rfl)))
      | ((with_reducible apply go_drawQ [13]); (· rfl); (· rfl); (· kernel_rfl); (· kernel_rfl))
      | ((with_reducible apply go_drawE); (· kernel_rfl))
      | (with_reducible refine go_fork ?_)
      | (with_reducible refine fork_cons ?_ ?_)
      | (with_reducible exact fork_nil)
      | ((with_reducible refine go_need ?_ ?_ ?_); (· first | omega | (simp only [Int.ofNat_eq_natCast]; omega)); (· first | omega | (simp only [Int.ofNat_eq_natCast]; omega)))
      | ((with_reducible refine go_ob ?_ ?_); (· first | trivial | (refine ⟨trivial, ?_⟩; omega) | (rw [hzpl]; refine ⟨trivial, ?_⟩; show _ + _ ≤ 1073741824; omega) | (rw [hzpl]; show _ + _ ≤ 1073741824; omega)))
      | ((with_reducible apply go_ret_rows hT); (· (cbv; try rfl)); (· (cbv; try rfl)); (· (cbv; (try simp only [true_and, and_true]); (try ((repeat' apply And.intro) <;> (first | trivial | rfl | decide ))))); (· (cbv; (try simp only [true_and, and_true]); (try ((repeat' apply And.intro) <;> (first | trivial | rfl | exact RowLe.rfl' _ ))))); (· rfl))
      | ((with_reducible apply go_fin_rows hT); (· (cbv; try rfl)); (· (cbv; try rfl)); (· (cbv; (try simp only [true_and, and_true]); (try ((repeat' apply And.intro) <;> (first | trivial | rfl | decide ))))); (· (cbv; (try simp only [true_and, and_true]); (try ((repeat' apply And.intro) <;> (first | trivial | rfl | exact RowLe.rfl' _ ))))); (· rfl))
      | ((with_reducible apply go_callR (f := 13) (hf := Try.call13)); (· intro S; cbv; try rfl); (· intro wc S hbc hxc hrc; exact g4 wc hbc); (· rfl))
      | ((with_reducible apply go_callR (f := 14) (hf := Try.call14)); (· intro S; cbv; try rfl); (· intro wc S hbc hxc hrc; exact g5 wc hbc); (· rfl))
      | ((with_reducible apply go_callR (f := 16) (hf := Try.call16)); (· intro S; cbv; try rfl); (· intro wc S hbc hxc hrc; exact g6 wc hbc); (· rfl))
      | ((with_reducible apply go_callRv (f := 15) (hf := Try.call15)); (· intro S; cbv; try rfl); (· intro wc S hbc hxc hrc; exact inK (by first | exact o1 | exact o2 | exact o3 _ (by assumption) | exact o4 _ (by assumption)) (hrc _ _ rfl)))
      | ((with_reducible apply go_callqRv (f := 15) (hf := Try.call15)); (· intro S; cbv; try rfl); (· intro wc S hbc hxc hrc; exact inK (by first | exact o1 | exact o2 | exact o3 _ (by assumption) | exact o4 _ (by assumption)) (hrc _ _ rfl)))
      | ((with_reducible apply go_call (f := 11) (hf := Try.call11)); (· (cbv; try rfl)); (· intro wc hbc hxc; exact alive11C wc))
      | ((with_reducible apply go_callq (f := 11) (hf := Try.call11)); (· (cbv; try rfl)); (· intro wc hbc hxc; exact alive11C wc))
      | (((with_reducible apply go_need); (· exact Int.natCast_nonneg _); (· first | exact Int.ofNat_lt.2 pbb | exact Int.ofNat_lt.2 ha | exact Int.ofNat_lt.2 hbN)))
      | ((with_reducible refine go_loopk (σ := {j : Nat // j ≤ nl}) [6, 106, 107, 108, 109, 110, 111, 112, 113, 114, 115, 116, 117, 118] (fun x => [(15, .pt (.one (.int .i64 (.ofNat x.1))))]) (fun x => []) (fun x => []) (fun x => nl - x.1) ⟨0, by omega⟩ ?_ ?_ ?_ ?_); (· (refine le_mk ?_ ?_ ?_ ?_ <;> (cbv; (try simp only [true_and, and_true]); (try ((repeat' apply And.intro) <;> (first | trivial | rfl | exact RowLe.rfl' _ | (rw [wrap_nat har _ (by omega)]))))))); (· (cbv; try rfl)); (· simp); (rintro ⟨j, hj⟩ mm hmm))
      | ((with_reducible refine go_loopk (σ := {m : Nat // m ≤ nl}) [6, 168, 169, 170, 171, 172, 173, 174, 175, 176, 177, 178, 179, 180, 181] (fun x => [(18, .pt (.one (.int .i64 (.ofNat x.1))))]) (fun x => []) (fun x => []) (fun x => nl - x.1) ⟨0, by omega⟩ ?_ ?_ ?_ ?_); (· (refine le_mk ?_ ?_ ?_ ?_ <;> (cbv; (try simp only [true_and, and_true]); (try ((repeat' apply And.intro) <;> (first | trivial | rfl | exact RowLe.rfl' _ | (rw [wrap_nat har _ (by omega)]))))))); (· (cbv; try rfl)); (· simp); (rintro ⟨m, hm⟩ mm hmm))
      | ((with_reducible refine go_stop (⟨j + 1, by omega⟩ : {j : Nat // j ≤ nl}) ?_ ?_ ?_ ?_); (· exact Nat.lt_of_lt_of_eq (show nl - (j + 1) < nl - j from by omega) (Eq.symm (by assumption))); (· (refine le_mk ?_ ?_ ?_ ?_ <;> (cbv; (try simp only [true_and, and_true]); (try ((repeat' apply And.intro) <;> (first | trivial | rfl | exact RowLe.rfl' _ | (rw [wrap_nat har _ (by omega)]))))))); (· (cbv; try rfl)); (· simp))
      | ((with_reducible refine go_stop (⟨m + 1, by omega⟩ : {m : Nat // m ≤ nl}) ?_ ?_ ?_ ?_); (· exact Nat.lt_of_lt_of_eq (show nl - (m + 1) < nl - m from by omega) (Eq.symm (by assumption))); (· (refine le_mk ?_ ?_ ?_ ?_ <;> (cbv; (try simp only [true_and, and_true]); (try ((repeat' apply And.intro) <;> (first | trivial | rfl | exact RowLe.rfl' _ | (rw [wrap_nat har _ (by omega)]))))))); (· (cbv; try rfl)); (· simp))
      | (fail)
      )
    all_goals (try rfl)
    all_goals trace_state

end Go.Proofs.Ytanocepbagbbkaa
