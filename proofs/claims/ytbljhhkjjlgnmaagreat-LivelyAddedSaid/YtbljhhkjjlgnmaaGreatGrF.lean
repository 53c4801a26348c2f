/- Layer 11 of the program: the points next to a point and before it, points that are reached. No condition. -/
import Derived.Test.YtbljhhkjjlgnmaaGreatGrC
import Derived.Test.YtbljhhkjjlgnmaaGreatGrD
import Derived.Test.YtbljhhkjjlgnmaaGreatGrE
namespace Go.Proofs.YtbljhhkjjlgnmaaGreat
open Go.RowKit
set_option linter.unusedVariables false
set_option linter.unusedSimpArgs false

set_option maxRecDepth 100000 in
set_option maxHeartbeats 4000000 in
theorem nextPC (F : GFun) (w : World) (hF : F.At w) (hO : F.Ok) (b i : Nat) (hbb : b < F.bn) (hii : i ≤ F.sn b) :
    Calls Tryz.prog 27 #[F.val, .agg #[.int .i64 (.ofNat b), .int .i64 (.ofNat i)]] w (RetR w (funX F) (.tup [.one (.rs 0), .one (.int .i64 0)]) [ptR (nextP F b i)]) := by
  have h1 (wc : World) (hk : KB ⟨w, []⟩ wc) := checkC F wc (hF.later hk) hO b i
  have e := there_in hbb hii
  simp only [Int.ofNat_eq_natCast] at *
  rw [e] at h1
  have h2 (wc : World) (hk : KB ⟨w, []⟩ wc) := nextC F wc (hF.later hk) hO b i hbb hii
  obtain ⟨R, hR⟩ : ∃ R, R = ptR (nextP F b i) := ⟨_, rfl⟩
  rw [← hR] at h2 ⊢
  clear e hO hR
  obtain ⟨pa, un, lA, ln, lc, lk, lt, bA, bn, bc, sA, sn, sc, s, jA, jn, jc, ja, jk, jo, jf, jx, je, jd⟩ := F
  obtain ⟨hX, hl, hb, hs, hj⟩ := hF
  simp only at hl hb hs hj
  simp only at h1 h2
  refine go_start (args := [.pt (.agg (GFun.dat ⟨pa, un, lA, ln, lc, lk, lt, bA, bn, bc, sA, sn, sc, s, jA, jn, jc, ja, jk, jo, jf, jx, je, jd⟩)), .pt (.agg [.int .i64 (.ofNat b), .int .i64 (.ofNat i)])]) (c := (funX ⟨pa, un, lA, ln, lc, lk, lt, bA, bn, bc, sA, sn, sc, s, jA, jn, jc, ja, jk, jo, jf, jx, je, jd⟩)) Tryz.func27 rfl hX rfl rfl ?_
  obtain ⟨nd, hnd, nt, hnt, ar, har, cm, hcm, mx, hmx, mn, hmn, ar01, ar12, zpl, hzpl, zjn, hzjn, zup, hzup, zmi, hzmi, zdp, hzdp, hT⟩ := t0_all
  repeat' (first
    | refine go1 ?_ | refine gobn ?_ | exact go0
    | ((with_reducible apply go_call (f := 62) (hf := Tryz.call62)); (· (cbv; try rfl)); (· intro wc hbc hxc; exact h1 wc hbc))
    | ((with_reducible apply go_callR (f := 63) (hf := Tryz.call63)); (· intro S; cbv; try rfl); (· intro wc S hbc hxc hrc; exact h2 wc hbc); (· rfl))
    | fail)

theorem nextP_len {F : GFun} {b i : Nat} : (nextP F b i).length ≤ 2 := by
  unfold nextP
  split
  · simp
  · rw [List.length_map]
    have h1 : (F.jump b).leads.length ≤ 2 := by
      unfold GJump.leads
      split
      · simp
      · split <;> simp
    have h2 : ∀ l : List Int, l.length ≤ 2 → (sort2 l).length ≤ 2 := fun l h => by
      unfold sort2
      split
      · split <;> simp
      · exact h
    exact h2 _ h1
/-- The first n points from which a step leads to one. -/
def befP (F : GFun) (p : Nat × Nat) : Nat → List (Nat × Nat)
  | 0 => []
  | n + 1 => befP F p n ++ if decide (p ∈ nextP F (pbN F n) (piN F n)) = true then [(pbN F n, piN F n)] else []
theorem befP_len (F : GFun) (p : Nat × Nat) : ∀ n, (befP F p n).length ≤ n
  | 0 => Nat.le_refl _
  | n + 1 => by
    have := befP_len F p n
    simp only [befP, List.length_append]
    split <;> simp <;> omega


end Go.Proofs.YtbljhhkjjlgnmaaGreat
