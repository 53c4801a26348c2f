/- ClashTouches, the walk. No condition. -/
import Derived.Test.YtgoeinkmndicfaaClJ
import Derived.Test.YtgoeinkmndicfaaN6
namespace Go.Proofs.Ytgoeinkmndicfaa
open Go.RowKit
set_option linter.unusedVariables false
set_option linter.unusedSimpArgs false

theorem rvT_len (F : GFun) (r : GRv) : (rvT F r).length ≤ 2 := by
  have h : ∀ o, (opT F o).length ≤ 1 := fun o => by
    unfold opT; split
    · simp
    · split <;> simp
  have h1 := h r.a
  have h2 := h r.b
  unfold rvT
  split
  · omega
  · split
    · simp only [List.length_append]; omega
    · simp
theorem ptT_len {F : GFun} (hO : F.Ok) {b i : Nat} (hb : b < F.bn) : (ptT F b i).length ≤ 1000000 := by
  have h : ∀ o, (opT F o).length ≤ 1 := fun o => by
    unfold opT; split
    · simp
    · split <;> simp
  unfold ptT
  split
  · unfold stT
    split
    · simp
    · split
      · have := rvT_len F (F.s b i).r
        simp only [List.length_append, List.length_singleton]; omega
      · have := h (F.s b i).a; omega
  · unfold jmT
    have h1 := h (F.jo b)
    have h2 := opsT_len F (F.ja b) (F.jn b)
    have h3 := hO.jn8 hb
    repeat' split
    all_goals try simp only [List.length_append, List.length_singleton, List.length_nil]
    all_goals omega
theorem ask_two (t : GTouch) (x : GLoan) (u : Bool) : ∃ (z : Bool) (e : Int), (bif askB t x then Value.tuple #[.bool (conB t x u), .int .i64 0] else Value.tuple #[.bool false, .int .i64 8]) = .tuple #[.bool z, .int .i64 e] := by
  cases askB t x
  · exact ⟨false, 8, rfl⟩
  · exact ⟨conB t x u, 0, rfl⟩

set_option maxRecDepth 100000 in
set_option maxHeartbeats 8000000 in
theorem clashTouchesC (F : GFun) (w : World) (hF : F.At w) (hK : F.Ty8) (at_ : Int) (t : GTouch) (x : GLoan) (u : Bool) (t0 : 0 ≤ t.p.f) (x0 : 0 ≤ x.p.f) (b0 : 0 ≤ x.bo) :
    Calls Try.prog 3 #[F.val, .int .i64 at_, t.val, x.val, .bool u] w (Ret w (.bool true)) := by
  have h1 (wc : World) (hk : KB ⟨w, []⟩ wc) := greatC F wc (hF.later hk)
  have h2 (wc : World) (hk : KB ⟨w, []⟩ wc) := gfC F wc (hF.later hk)
  obtain ⟨q1, hq1⟩ : ∃ b, b = greatB F := ⟨_, rfl⟩
  obtain ⟨q2, hq2⟩ : ∃ b, b = gfB F := ⟨_, rfl⟩
  rw [← hq1] at h1
  rw [← hq2] at h2
  have h30 (wc : World) := clashesC t x u t0 x0 wc
  have h40 (wc : World) := rClashesC t x u t0 x0 b0 wc
  obtain ⟨z, e, hze⟩ := ask_two t x u
  rw [hze] at h30 h40
  have h3 (wc : World) : Calls Try.prog 9 #[t.val, x.val, .bool u] wc (Ret wc (.tuple #[.bool z, .int .i64 e])) := h30 wc
  have h4 (wc : World) : Calls Try.prog 10 #[t.val, x.val, .bool u] wc (Ret wc (.tuple #[.bool z, .int .i64 e])) := h40 wc
  clear h30 h40 hze t0 x0 b0 hq1 hq2
  by_cases hO : fchkV F = 0
  case neg =>
    have h5 (wc : World) (hk : KB ⟨w, []⟩ wc) := touchesBad F wc (hF.later hk) hO at_
    have h6 (wc : World) (hk : KB ⟨w, []⟩ wc) := rTouchesBad F wc (hF.later hk) hK hO at_
    obtain ⟨ec, hec⟩ : ∃ n, n = fchkV F := ⟨_, rfl⟩
    rw [← hec] at h5 h6
    clear hO hK hec
    obtain ⟨⟨tl, td, tf⟩, tw, te⟩ := t
    obtain ⟨xa, ⟨xl, xd, xf⟩, xb, xc⟩ := x
    obtain ⟨pa, un, lA, ln, lc, lk, lt, bA, bn, bc, sA, sn, sc, s, jA, jn, jc, ja, jk, jo, jf, jx, je, jd⟩ := F
    obtain ⟨hX, hl, hb, hs, hj⟩ := hF
    simp only at hl hb hs hj
    refine go_start (args := [.pt (.agg (GFun.dat ⟨pa, un, lA, ln, lc, lk, lt, bA, bn, bc, sA, sn, sc, s, jA, jn, jc, ja, jk, jo, jf, jx, je, jd⟩)), .pt (.one (.int .i64 at_)), .pt (.agg (GTouch.sc _)), .pt (.agg (GLoan.sc _)), .pt (.one (.bool u))]) (c := (funX ⟨pa, un, lA, ln, lc, lk, lt, bA, bn, bc, sA, sn, sc, s, jA, jn, jc, ja, jk, jo, jf, jx, je, jd⟩)) Try.func3 rfl hX rfl rfl ?_
    obtain ⟨nd, hnd⟩ : ∃ f : Bool → Bool → Bool, f = and := ⟨_, rfl⟩
    obtain ⟨nt, hnt⟩ : ∃ f : Bool → Bool, f = not := ⟨_, rfl⟩
    obtain ⟨ar, har⟩ : ∃ f : BinOp → IntKind → Int → Int → Int, f = rAr := ⟨_, rfl⟩
    obtain ⟨cm, hcm⟩ : ∃ f : BinOp → Int → Int → Bool, f = rCm := ⟨_, rfl⟩
    obtain ⟨mx, hmx⟩ : ∃ f : Int → Int → Int, f = rMx := ⟨_, rfl⟩
    obtain ⟨mn, hmn⟩ : ∃ f : Int → Int → Int, f = rMn := ⟨_, rfl⟩
    have ar01 : ar .add .i64 0 1 = 1 := by rw [har]; decide
    have ar12 : ar .add .i64 1 1 = 2 := by rw [har]; decide
    obtain ⟨zpl, hzpl⟩ : ∃ f : Nat → Nat → Nat, f = fun x y => x + y := ⟨_, rfl⟩
    obtain ⟨zjn, hzjn⟩ : ∃ f : Nat → (Nat → List SC) → (Nat → List SC) → Nat → List SC, f = rJn := ⟨_, rfl⟩
    obtain ⟨zup, hzup⟩ : ∃ f : (Nat → List SC) → Nat → Nat → List SC → Nat → List SC, f = rUp := ⟨_, rfl⟩
    obtain ⟨zmi, hzmi⟩ : ∃ f : Nat → Nat → Nat, f = fun x y => x - y := ⟨_, rfl⟩
    obtain ⟨zdp, hzdp⟩ : ∃ f : Nat → (Nat → List SC) → Nat → List SC, f = rDp := ⟨_, rfl⟩
    have hT := T0_ok hnd hnt har hcm hmx hmn hzpl hzjn hzup hzmi hzdp
    repeat' (first
      | ((with_reducible apply go_ev hT 400); (· (cbv; try rfl)); (fail_if_success with_reducible apply stuck_id); (try simp only [ar01, ar12]))
      | ((with_reducible refine go_brt ?_ ?_); (· first | rfl | assumption | (rw [hcm]; decide)))
      | ((with_reducible refine go_brf ?_ ?_); (· first | rfl | assumption | (rw [hcm]; decide)))
      | ((with_reducible refine go_brnt hnt ?_ ?_); (· first | rfl | assumption))
      | ((with_reducible refine go_brnf hnt ?_ ?_); (· first | rfl | assumption))
      | (with_reducible refine go_brn hnt (fun h => ?_) (fun h => ?_))
      | (with_reducible refine go_brl hcm (fun hlt => ?_) (fun hge => ?_))
      | (with_reducible refine go_br (fun h => ?_) (fun h => ?_))
      | ((with_reducible apply go_ret_val hT); (· (cbv; try rfl)); (· (cbv; try rfl)))
      | ((with_reducible apply go_fin_val hT); (· (cbv; try rfl)); (· (cbv; try rfl)))
      | ((with_reducible apply go_draw); (· rfl); (· kernel_rfl); (· kernel_rfl))
      | ((with_reducible apply go_drawE); (· kernel_rfl))
      | (with_reducible refine go_fork ?_)
      | (with_reducible refine fork_cons ?_ ?_)
      | (with_reducible exact fork_nil)
      | ((with_reducible refine go_need ?_ ?_ ?_); (· first | omega | (simp only [Int.ofNat_eq_natCast]; omega)); (· first | omega | (simp only [Int.ofNat_eq_natCast]; omega)))
      | ((with_reducible refine go_ob ?_ ?_); (· first | trivial | (refine ⟨trivial, ?_⟩; omega) | (rw [hzpl]; refine ⟨trivial, ?_⟩; show _ + _ ≤ 1073741824; omega) | (rw [hzpl]; show _ + _ ≤ 1073741824; omega)))
      | ((with_reducible apply go_ret_rows hT); (· (cbv; try rfl)); (· (cbv; try rfl)); (· (cbv; (try simp only [true_and, and_true]); (try ((repeat' apply And.intro) <;> (first | trivial | rfl | decide ))))); (· (cbv; (try simp only [true_and, and_true]); (try ((repeat' apply And.intro) <;> (first | trivial | rfl | exact RowLe.rfl' _ ))))); (· rfl))
      | ((with_reducible apply go_fin_rows hT); (· (cbv; try rfl)); (· (cbv; try rfl)); (· (cbv; (try simp only [true_and, and_true]); (try ((repeat' apply And.intro) <;> (first | trivial | rfl | decide ))))); (· (cbv; (try simp only [true_and, and_true]); (try ((repeat' apply And.intro) <;> (first | trivial | rfl | exact RowLe.rfl' _ ))))); (· rfl))
      | ((with_reducible apply go_call (f := 5) (hf := Try.call5)); (· (cbv; try rfl)); (· intro wc hbc hxc; exact h1 wc hbc))
      | ((with_reducible apply go_callq (f := 5) (hf := Try.call5)); (· (cbv; try rfl)); (· intro wc hbc hxc; exact h1 wc hbc))
      | ((with_reducible apply go_call (f := 6) (hf := Try.call6)); (· (cbv; try rfl)); (· intro wc hbc hxc; exact h2 wc hbc))
      | ((with_reducible apply go_callq (f := 6) (hf := Try.call6)); (· (cbv; try rfl)); (· intro wc hbc hxc; exact h2 wc hbc))
      | ((with_reducible apply go_call (f := 7) (hf := Try.call7)); (· (cbv; try rfl)); (· intro wc hbc hxc; exact h5 wc hbc))
      | ((with_reducible apply go_callq (f := 7) (hf := Try.call7)); (· (cbv; try rfl)); (· intro wc hbc hxc; exact h5 wc hbc))
      | ((with_reducible apply go_call (f := 8) (hf := Try.call8)); (· (cbv; try rfl)); (· intro wc hbc hxc; exact h6 wc hbc))
      | ((with_reducible apply go_callq (f := 8) (hf := Try.call8)); (· (cbv; try rfl)); (· intro wc hbc hxc; exact h6 wc hbc))
      | ((with_reducible apply go_call (f := 9) (hf := Try.call9)); (· (cbv; try rfl)); (· intro wc hbc hxc; exact h3 wc))
      | ((with_reducible apply go_callq (f := 9) (hf := Try.call9)); (· (cbv; try rfl)); (· intro wc hbc hxc; exact h3 wc))
      | ((with_reducible apply go_call (f := 10) (hf := Try.call10)); (· (cbv; try rfl)); (· intro wc hbc hxc; exact h4 wc))
      | ((with_reducible apply go_callq (f := 10) (hf := Try.call10)); (· (cbv; try rfl)); (· intro wc hbc hxc; exact h4 wc))
      | ((with_reducible apply go_inline (f := 11) (hf := Try.func11) (hr := Try.results11) (hcall := Try.call11)); (· rfl); (· (cbv; try rfl)))
      | (with_reducible apply go_rounds 2)
      )
    all_goals (try rfl)
    all_goals (first | (exfalso; simp_all; done) | simp)
  by_cases ha : at_ < 0 ∨ (stN F.sn F.bn : Int) ≤ at_
  · have h5 (wc : World) (hk : KB ⟨w, []⟩ wc) := touchesOut F wc (hF.later hk) hO at_ ha
    have h6 (wc : World) (hk : KB ⟨w, []⟩ wc) := rTouchesOut F wc (hF.later hk) hK hO at_ ha
    clear hO hK ha
    obtain ⟨⟨tl, td, tf⟩, tw, te⟩ := t
    obtain ⟨xa, ⟨xl, xd, xf⟩, xb, xc⟩ := x
    obtain ⟨pa, un, lA, ln, lc, lk, lt, bA, bn, bc, sA, sn, sc, s, jA, jn, jc, ja, jk, jo, jf, jx, je, jd⟩ := F
    obtain ⟨hX, hl, hb, hs, hj⟩ := hF
    simp only at hl hb hs hj
    refine go_start (args := [.pt (.agg (GFun.dat ⟨pa, un, lA, ln, lc, lk, lt, bA, bn, bc, sA, sn, sc, s, jA, jn, jc, ja, jk, jo, jf, jx, je, jd⟩)), .pt (.one (.int .i64 at_)), .pt (.agg (GTouch.sc _)), .pt (.agg (GLoan.sc _)), .pt (.one (.bool u))]) (c := (funX ⟨pa, un, lA, ln, lc, lk, lt, bA, bn, bc, sA, sn, sc, s, jA, jn, jc, ja, jk, jo, jf, jx, je, jd⟩)) Try.func3 rfl hX rfl rfl ?_
    obtain ⟨nd, hnd⟩ : ∃ f : Bool → Bool → Bool, f = and := ⟨_, rfl⟩
    obtain ⟨nt, hnt⟩ : ∃ f : Bool → Bool, f = not := ⟨_, rfl⟩
    obtain ⟨ar, har⟩ : ∃ f : BinOp → IntKind → Int → Int → Int, f = rAr := ⟨_, rfl⟩
    obtain ⟨cm, hcm⟩ : ∃ f : BinOp → Int → Int → Bool, f = rCm := ⟨_, rfl⟩
    obtain ⟨mx, hmx⟩ : ∃ f : Int → Int → Int, f = rMx := ⟨_, rfl⟩
    obtain ⟨mn, hmn⟩ : ∃ f : Int → Int → Int, f = rMn := ⟨_, rfl⟩
    have ar01 : ar .add .i64 0 1 = 1 := by rw [har]; decide
    have ar12 : ar .add .i64 1 1 = 2 := by rw [har]; decide
    obtain ⟨zpl, hzpl⟩ : ∃ f : Nat → Nat → Nat, f = fun x y => x + y := ⟨_, rfl⟩
    obtain ⟨zjn, hzjn⟩ : ∃ f : Nat → (Nat → List SC) → (Nat → List SC) → Nat → List SC, f = rJn := ⟨_, rfl⟩
    obtain ⟨zup, hzup⟩ : ∃ f : (Nat → List SC) → Nat → Nat → List SC → Nat → List SC, f = rUp := ⟨_, rfl⟩
    obtain ⟨zmi, hzmi⟩ : ∃ f : Nat → Nat → Nat, f = fun x y => x - y := ⟨_, rfl⟩
    obtain ⟨zdp, hzdp⟩ : ∃ f : Nat → (Nat → List SC) → Nat → List SC, f = rDp := ⟨_, rfl⟩
    have hT := T0_ok hnd hnt har hcm hmx hmn hzpl hzjn hzup hzmi hzdp
    repeat' (first
      | ((with_reducible apply go_ev hT 400); (· (cbv; try rfl)); (fail_if_success with_reducible apply stuck_id); (try simp only [ar01, ar12]))
      | ((with_reducible refine go_brt ?_ ?_); (· first | rfl | assumption | (rw [hcm]; decide)))
      | ((with_reducible refine go_brf ?_ ?_); (· first | rfl | assumption | (rw [hcm]; decide)))
      | ((with_reducible refine go_brnt hnt ?_ ?_); (· first | rfl | assumption))
      | ((with_reducible refine go_brnf hnt ?_ ?_); (· first | rfl | assumption))
      | (with_reducible refine go_brn hnt (fun h => ?_) (fun h => ?_))
      | (with_reducible refine go_brl hcm (fun hlt => ?_) (fun hge => ?_))
      | (with_reducible refine go_br (fun h => ?_) (fun h => ?_))
      | ((with_reducible apply go_ret_val hT); (· (cbv; try rfl)); (· (cbv; try rfl)))
      | ((with_reducible apply go_fin_val hT); (· (cbv; try rfl)); (· (cbv; try rfl)))
      | ((with_reducible apply go_draw); (· rfl); (· kernel_rfl); (· kernel_rfl))
      | ((with_reducible apply go_drawE); (· kernel_rfl))
      | (with_reducible refine go_fork ?_)
      | (with_reducible refine fork_cons ?_ ?_)
      | (with_reducible exact fork_nil)
      | ((with_reducible refine go_need ?_ ?_ ?_); (· first | omega | (simp only [Int.ofNat_eq_natCast]; omega)); (· first | omega | (simp only [Int.ofNat_eq_natCast]; omega)))
      | ((with_reducible refine go_ob ?_ ?_); (· first | trivial | (refine ⟨trivial, ?_⟩; omega) | (rw [hzpl]; refine ⟨trivial, ?_⟩; show _ + _ ≤ 1073741824; omega) | (rw [hzpl]; show _ + _ ≤ 1073741824; omega)))
      | ((with_reducible apply go_ret_rows hT); (· (cbv; try rfl)); (· (cbv; try rfl)); (· (cbv; (try simp only [true_and, and_true]); (try ((repeat' apply And.intro) <;> (first | trivial | rfl | decide ))))); (· (cbv; (try simp only [true_and, and_true]); (try ((repeat' apply And.intro) <;> (first | trivial | rfl | exact RowLe.rfl' _ ))))); (· rfl))
      | ((with_reducible apply go_fin_rows hT); (· (cbv; try rfl)); (· (cbv; try rfl)); (· (cbv; (try simp only [true_and, and_true]); (try ((repeat' apply And.intro) <;> (first | trivial | rfl | decide ))))); (· (cbv; (try simp only [true_and, and_true]); (try ((repeat' apply And.intro) <;> (first | trivial | rfl | exact RowLe.rfl' _ ))))); (· rfl))
      | ((with_reducible apply go_call (f := 5) (hf := Try.call5)); (· (cbv; try rfl)); (· intro wc hbc hxc; exact h1 wc hbc))
      | ((with_reducible apply go_callq (f := 5) (hf := Try.call5)); (· (cbv; try rfl)); (· intro wc hbc hxc; exact h1 wc hbc))
      | ((with_reducible apply go_call (f := 6) (hf := Try.call6)); (· (cbv; try rfl)); (· intro wc hbc hxc; exact h2 wc hbc))
      | ((with_reducible apply go_callq (f := 6) (hf := Try.call6)); (· (cbv; try rfl)); (· intro wc hbc hxc; exact h2 wc hbc))
      | ((with_reducible apply go_call (f := 7) (hf := Try.call7)); (· (cbv; try rfl)); (· intro wc hbc hxc; exact h5 wc hbc))
      | ((with_reducible apply go_callq (f := 7) (hf := Try.call7)); (· (cbv; try rfl)); (· intro wc hbc hxc; exact h5 wc hbc))
      | ((with_reducible apply go_call (f := 8) (hf := Try.call8)); (· (cbv; try rfl)); (· intro wc hbc hxc; exact h6 wc hbc))
      | ((with_reducible apply go_callq (f := 8) (hf := Try.call8)); (· (cbv; try rfl)); (· intro wc hbc hxc; exact h6 wc hbc))
      | ((with_reducible apply go_call (f := 9) (hf := Try.call9)); (· (cbv; try rfl)); (· intro wc hbc hxc; exact h3 wc))
      | ((with_reducible apply go_callq (f := 9) (hf := Try.call9)); (· (cbv; try rfl)); (· intro wc hbc hxc; exact h3 wc))
      | ((with_reducible apply go_call (f := 10) (hf := Try.call10)); (· (cbv; try rfl)); (· intro wc hbc hxc; exact h4 wc))
      | ((with_reducible apply go_callq (f := 10) (hf := Try.call10)); (· (cbv; try rfl)); (· intro wc hbc hxc; exact h4 wc))
      | ((with_reducible apply go_inline (f := 11) (hf := Try.func11) (hr := Try.results11) (hcall := Try.call11)); (· rfl); (· (cbv; try rfl)))
      | (with_reducible apply go_rounds 2)
      )
    all_goals (try rfl)
    all_goals (first | (exfalso; simp_all; done) | simp)
  obtain ⟨n, rfl⟩ : ∃ n : Nat, at_ = .ofNat n := ⟨at_.toNat, by simp only [Int.ofNat_eq_natCast]; omega⟩
  have hn : n < stN F.sn F.bn := by simp only [Int.ofNat_eq_natCast] at ha; omega
  have h5 (wc : World) (hk : KB ⟨w, []⟩ wc) := touchesAt F wc (hF.later hk) hO n hn
  have h6 (wc : World) (hk : KB ⟨w, []⟩ wc) := rTouchesAt F wc (hF.later hk) hK hO n hn
  have hlen := ptT_len hO (i := piN F n) (num_pt hn).1
  obtain ⟨L, hL⟩ : ∃ L, L = ptT F (pbN F n) (piN F n) := ⟨_, rfl⟩
  rw [← hL] at h5 h6 hlen
  obtain ⟨R, hR⟩ : ∃ R, R = touR L := ⟨_, rfl⟩
  rw [← hR] at h5 h6
  have h7 (wc : World) (v v' : Value) (c : Nat → Nat → Row) (h : RowIs c wc R v) (h' : RowIs c wc R v') : Calls Try.prog 11 #[v, v'] wc (Ret wc (.bool true)) := by
    rw [hR] at h h'; exact sameTouchesC L hlen c wc v v' h h'
  clear hO hK ha hn hL hlen hR
  obtain ⟨⟨tl, td, tf⟩, tw, te⟩ := t
  obtain ⟨xa, ⟨xl, xd, xf⟩, xb, xc⟩ := x
  obtain ⟨pa, un, lA, ln, lc, lk, lt, bA, bn, bc, sA, sn, sc, s, jA, jn, jc, ja, jk, jo, jf, jx, je, jd⟩ := F
  obtain ⟨hX, hl, hb, hs, hj⟩ := hF
  simp only at hl hb hs hj
  refine go_start (args := [.pt (.agg (GFun.dat ⟨pa, un, lA, ln, lc, lk, lt, bA, bn, bc, sA, sn, sc, s, jA, jn, jc, ja, jk, jo, jf, jx, je, jd⟩)), .pt (.one (.int .i64 (.ofNat n))), .pt (.agg (GTouch.sc _)), .pt (.agg (GLoan.sc _)), .pt (.one (.bool u))]) (c := (funX ⟨pa, un, lA, ln, lc, lk, lt, bA, bn, bc, sA, sn, sc, s, jA, jn, jc, ja, jk, jo, jf, jx, je, jd⟩)) Try.func3 rfl hX rfl rfl ?_
  obtain ⟨nd, hnd⟩ : ∃ f : Bool → Bool → Bool, f = and := ⟨_, rfl⟩
  obtain ⟨nt, hnt⟩ : ∃ f : Bool → Bool, f = not := ⟨_, rfl⟩
  obtain ⟨ar, har⟩ : ∃ f : BinOp → IntKind → Int → Int → Int, f = rAr := ⟨_, rfl⟩
  obtain ⟨cm, hcm⟩ : ∃ f : BinOp → Int → Int → Bool, f = rCm := ⟨_, rfl⟩
  obtain ⟨mx, hmx⟩ : ∃ f : Int → Int → Int, f = rMx := ⟨_, rfl⟩
  obtain ⟨mn, hmn⟩ : ∃ f : Int → Int → Int, f = rMn := ⟨_, rfl⟩
  have ar01 : ar .add .i64 0 1 = 1 := by rw [har]; decide
  have ar12 : ar .add .i64 1 1 = 2 := by rw [har]; decide
  obtain ⟨zpl, hzpl⟩ : ∃ f : Nat → Nat → Nat, f = fun x y => x + y := ⟨_, rfl⟩
  obtain ⟨zjn, hzjn⟩ : ∃ f : Nat → (Nat → List SC) → (Nat → List SC) → Nat → List SC, f = rJn := ⟨_, rfl⟩
  obtain ⟨zup, hzup⟩ : ∃ f : (Nat → List SC) → Nat → Nat → List SC → Nat → List SC, f = rUp := ⟨_, rfl⟩
  obtain ⟨zmi, hzmi⟩ : ∃ f : Nat → Nat → Nat, f = fun x y => x - y := ⟨_, rfl⟩
  obtain ⟨zdp, hzdp⟩ : ∃ f : Nat → (Nat → List SC) → Nat → List SC, f = rDp := ⟨_, rfl⟩
  have hT := T0_ok hnd hnt har hcm hmx hmn hzpl hzjn hzup hzmi hzdp
  repeat' (first
    | ((with_reducible apply go_ev hT 400); (· (cbv; try rfl)); (fail_if_success with_reducible apply stuck_id))
    | ((with_reducible refine go_brt ?_ ?_); (· first | rfl | assumption | (rw [hcm]; decide)))
    | ((with_reducible refine go_brf ?_ ?_); (· first | rfl | assumption | (rw [hcm]; decide)))
    | ((with_reducible refine go_brnt hnt ?_ ?_); (· first | rfl | assumption))
    | ((with_reducible refine go_brnf hnt ?_ ?_); (· first | rfl | assumption))
    | (with_reducible refine go_brn hnt (fun h => ?_) (fun h => ?_))
    | (with_reducible refine go_brl hcm (fun hlt => ?_) (fun hge => ?_))
    | (with_reducible refine go_br (fun h => ?_) (fun h => ?_))
    | ((with_reducible apply go_ret_val hT); (· (cbv; try rfl)); (· (cbv; try rfl)))
    | ((with_reducible apply go_fin_val hT); (· (cbv; try rfl)); (· (cbv; try rfl)))
    | ((with_reducible apply go_draw); (· rfl); (· kernel_rfl); (· kernel_rfl))
    | ((with_reducible apply go_drawE); (· kernel_rfl))
    | (with_reducible refine go_fork ?_)
    | (with_reducible refine fork_cons ?_ ?_)
    | (with_reducible exact fork_nil)
    | ((with_reducible refine go_need ?_ ?_ ?_); (· first | omega | (simp only [Int.ofNat_eq_natCast]; omega)); (· first | omega | (simp only [Int.ofNat_eq_natCast]; omega)))
    | ((with_reducible refine go_ob ?_ ?_); (· first | trivial | (refine ⟨trivial, ?_⟩; omega) | (rw [hzpl]; refine ⟨trivial, ?_⟩; show _ + _ ≤ 1073741824; omega) | (rw [hzpl]; show _ + _ ≤ 1073741824; omega)))
    | ((with_reducible apply go_ret_rows hT); (· (cbv; try rfl)); (· (cbv; try rfl)); (· (cbv; (try simp only [true_and, and_true]); (try ((repeat' apply And.intro) <;> (first | trivial | rfl | decide ))))); (· (cbv; (try simp only [true_and, and_true]); (try ((repeat' apply And.intro) <;> (first | trivial | rfl | exact RowLe.rfl' _ ))))); (· rfl))
    | ((with_reducible apply go_fin_rows hT); (· (cbv; try rfl)); (· (cbv; try rfl)); (· (cbv; (try simp only [true_and, and_true]); (try ((repeat' apply And.intro) <;> (first | trivial | rfl | decide ))))); (· (cbv; (try simp only [true_and, and_true]); (try ((repeat' apply And.intro) <;> (first | trivial | rfl | exact RowLe.rfl' _ ))))); (· rfl))
    | ((with_reducible apply go_call (f := 5) (hf := Try.call5)); (· (cbv; try rfl)); (· intro wc hbc hxc; exact h1 wc hbc))
    | ((with_reducible apply go_callq (f := 5) (hf := Try.call5)); (· (cbv; try rfl)); (· intro wc hbc hxc; exact h1 wc hbc))
    | ((with_reducible apply go_call (f := 6) (hf := Try.call6)); (· (cbv; try rfl)); (· intro wc hbc hxc; exact h2 wc hbc))
    | ((with_reducible apply go_callq (f := 6) (hf := Try.call6)); (· (cbv; try rfl)); (· intro wc hbc hxc; exact h2 wc hbc))
    | ((with_reducible apply go_callR (f := 7) (hf := Try.call7)); (· intro S; cbv; try rfl); (· intro wc S hbc hxc hrc; exact h5 wc hbc); (· rfl))
    | ((with_reducible apply go_callR (f := 8) (hf := Try.call8)); (· intro S; cbv; try rfl); (· intro wc S hbc hxc hrc; exact h6 wc hbc); (· rfl))
    | ((with_reducible apply go_call (f := 9) (hf := Try.call9)); (· (cbv; try rfl)); (· intro wc hbc hxc; exact h3 wc))
    | ((with_reducible apply go_callq (f := 9) (hf := Try.call9)); (· (cbv; try rfl)); (· intro wc hbc hxc; exact h3 wc))
    | ((with_reducible apply go_call (f := 10) (hf := Try.call10)); (· (cbv; try rfl)); (· intro wc hbc hxc; exact h4 wc))
    | ((with_reducible apply go_callq (f := 10) (hf := Try.call10)); (· (cbv; try rfl)); (· intro wc hbc hxc; exact h4 wc))
    | ((with_reducible apply go_callRv (f := 11) (hf := Try.call11)); (· intro S; cbv; try rfl); (· intro wc S hbc hxc hrc; exact h7 wc _ _ _ (hrc _ _ rfl) (hrc _ _ rfl)))
    | ((with_reducible apply go_callqRv (f := 11) (hf := Try.call11)); (· intro S; cbv; try rfl); (· intro wc S hbc hxc hrc; exact h7 wc _ _ _ (hrc _ _ rfl) (hrc _ _ rfl)))
    )
  all_goals (try rfl)
  all_goals (first | (exfalso; simp_all; done) | simp)

end Go.Proofs.Ytgoeinkmndicfaa
