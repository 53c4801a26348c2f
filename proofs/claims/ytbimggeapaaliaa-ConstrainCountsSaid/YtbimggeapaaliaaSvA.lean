/- Functions that are literals of the call's own. No condition. -/
import Derived.Test.YtbimggeapaaliaaSyD
import Derived.Test.YtbimggeapaaliaaSxK
namespace Go.Proofs.Ytbimggeapaaliaa
open Go.RowKit
set_option linter.unusedVariables false
set_option linter.unusedSimpArgs false

def tyP : List CK := [.i .u8, .i .u8]
def opP : List CK := [.i .u8, .i .i64, .i .i64, .b, .i .u8]
def blP : List CK := [.s, .i .u8, .i .u8, .i .i64, .i .i64, .b, .i .u8, .i .i64, .i .i64, .i .i64, .s, .i .i64, .b, .i .u8]
def stP : List CK := [.i .u8, .i .i64, .b, .i .u8, .i .u8, .i .u8, .i .u8, .i .u8, .i .i64, .i .i64, .b, .i .u8, .i .u8, .i .i64, .i .i64, .b, .i .u8, .i .i64, .b, .i .u8, .i .u8, .i .i64, .i .i64, .b, .i .u8, .i .i64]
def decP (cs : List SC) (o : Nat) : GPlace := ⟨numC (nthC cs o), booC (nthC cs (o + 1)), numC (nthC cs (o + 2))⟩
def decO (cs : List SC) (o : Nat) : GOper := ⟨numC (nthC cs o), numC (nthC cs (o + 1)), decP cs (o + 2)⟩
def decR (cs : List SC) (o : Nat) : GRv := ⟨numC (nthC cs o), numC (nthC cs (o + 1)), numC (nthC cs (o + 2)), decO cs (o + 3), decO cs (o + 8), decP cs (o + 13)⟩
def decS (cs : List SC) (o : Nat) : GStmt := ⟨numC (nthC cs o), decP cs (o + 1), decR cs (o + 4), decO cs (o + 20), numC (nthC cs (o + 25))⟩
/-- The function that a literal is: l is the slice of its locals, b that of its blocks. -/
def litF (h : List (Option (List SC))) (B : Nat → Nat) (pa : Int) (un : Bool) (l b : SC) : GFun where
  pa := pa
  un := un
  lA := adrC B l
  ln := lenC l
  lc := capC l
  lk := fun i => numC (nthC (cellsOf h l) (i * 2))
  lt := fun i => numC (nthC (cellsOf h l) (i * 2 + 1))
  bA := adrC B b
  bn := lenC b
  bc := capC b
  sA := fun i => adrC B (nthC (cellsOf h b) (i * 14))
  sn := fun i => lenC (nthC (cellsOf h b) (i * 14))
  sc := fun i => capC (nthC (cellsOf h b) (i * 14))
  s := fun i j => decS (cellsOf h (nthC (cellsOf h b) (i * 14))) (j * 26)
  jA := fun i => adrC B (nthC (cellsOf h b) (i * 14 + 10))
  jn := fun i => lenC (nthC (cellsOf h b) (i * 14 + 10))
  jc := fun i => capC (nthC (cellsOf h b) (i * 14 + 10))
  ja := fun i j => decO (cellsOf h (nthC (cellsOf h b) (i * 14 + 10))) (j * 5)
  jk := fun i => numC (nthC (cellsOf h b) (i * 14 + 1))
  jo := fun i => decO (cellsOf h b) (i * 14 + 2)
  jf := fun i => numC (nthC (cellsOf h b) (i * 14 + 7))
  jx := fun i => numC (nthC (cellsOf h b) (i * 14 + 8))
  je := fun i => numC (nthC (cellsOf h b) (i * 14 + 9))
  jd := fun i => decP (cellsOf h b) (i * 14 + 11)
def litOk (h : List (Option (List SC))) (l b : SC) : Bool :=
  rowOk h tyP l && rowOk h blP b && decide ((cellsOf h b).length ≤ lenC b * 14) && (List.range (lenC b)).all fun i => rowOk h stP (nthC (cellsOf h b) (i * 14)) && rowOk h opP (nthC (cellsOf h b) (i * 14 + 10))
theorem nthC_none {cs : List SC} {i : Nat} (h : cs.length ≤ i) : nthC cs i = .any := by
  unfold nthC
  rw [nth_eq, List.getElem?_eq_none h]
theorem litF_at {c : Nat → Nat → Row} {w : World} {S : Nat → Value} {B : Nat → Nat} {st : St} (hM : MemIs c w S B st) {pa : Int} {un : Bool} {l b : SC} (hok : litOk st.h l b = true) : (litF st.h B pa un l b).At w := by
  simp only [litOk, Bool.and_eq_true, decide_eq_true_eq, List.all_eq_true, List.mem_range] at hok
  obtain ⟨⟨⟨h1, h2⟩, h3⟩, h4⟩ := hok
  have hs : ∀ i, rowOk st.h stP (nthC (cellsOf st.h b) (i * 14)) = true ∨ nthC (cellsOf st.h b) (i * 14) = .any := fun i => by
    by_cases hi : i < lenC b
    · exact .inl (h4 i hi).1
    · exact .inr (nthC_none (by omega))
  have hj : ∀ i, rowOk st.h opP (nthC (cellsOf st.h b) (i * 14 + 10)) = true ∨ nthC (cellsOf st.h b) (i * 14 + 10) = .any := fun i => by
    by_cases hi : i < lenC b
    · exact .inl (h4 i hi).2
    · exact .inr (nthC_none (by omega))
  refine ⟨?_, ?_, ?_, fun i => ?_, fun i => ?_⟩
  · intro q i j hq
    match q with
    | 0 =>
      obtain ⟨g, p, ha, hlt, hcell⟩ := rowOk_at hM h1 (j := j) hq
      exact ⟨g, p, ha, hlt, by simp, valsL B tyP (cellsOf st.h l) (j * tyP.length), (by repeat' (first | exact True.intro | exact rfl | refine And.intro ?_ ?_)), hcell⟩
    | 1 =>
      obtain ⟨g, p, ha, hlt, hcell⟩ := rowOk_at hM h2 (j := j) hq
      exact ⟨g, p, ha, hlt, by simp, valsL B blP (cellsOf st.h b) (j * blP.length), (by repeat' (first | exact True.intro | exact rfl | refine And.intro ?_ ?_)), hcell⟩
    | 2 =>
      rcases hs i with h | h
      · obtain ⟨g, p, ha, hlt, hcell⟩ := rowOk_at hM h (j := j) hq
        exact ⟨g, p, ha, hlt, by simp, valsL B stP (cellsOf st.h (nthC (cellsOf st.h b) (i * 14))) (j * stP.length), (by repeat' (first | exact True.intro | exact rfl | refine And.intro ?_ ?_)), hcell⟩
      · have hq' : j < lenC (nthC (cellsOf st.h b) (i * 14)) := hq
        rw [h] at hq'
        simp [lenC] at hq'
    | q + 3 =>
      rcases hj i with h | h
      · obtain ⟨g, p, ha, hlt, hcell⟩ := rowOk_at hM h (j := j) hq
        exact ⟨g, p, ha, hlt, by simp, valsL B opP (cellsOf st.h (nthC (cellsOf st.h b) (i * 14 + 10))) (j * opP.length), (by repeat' (first | exact True.intro | exact rfl | refine And.intro ?_ ?_)), hcell⟩
      · have hq' : j < lenC (nthC (cellsOf st.h b) (i * 14 + 10)) := hq
        rw [h] at hq'
        simp [lenC] at hq'
  · have := rowOk_n h1; show lenC l ≤ _; omega
  · have := rowOk_n h2; show lenC b ≤ _; omega
  · show lenC (nthC (cellsOf st.h b) (i * 14)) ≤ _
    rcases hs i with h | h
    · have := rowOk_n h; omega
    · rw [h]; simp [lenC]
  · show lenC (nthC (cellsOf st.h b) (i * 14 + 10)) ≤ _
    rcases hj i with h | h
    · have := rowOk_n h; omega
    · rw [h]; simp [lenC]

end Go.Proofs.Ytbimggeapaaliaa
