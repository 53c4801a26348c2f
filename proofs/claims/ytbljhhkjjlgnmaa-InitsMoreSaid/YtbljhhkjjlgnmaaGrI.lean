/- Layer 11, the chapter's examples. No condition. -/
import Derived.Test.YtbljhhkjjlgnmaaGrH
namespace Go.Proofs.Ytbljhhkjjlgnmaa
open Go.RowKit
set_option linter.unusedVariables false
set_option linter.unusedSimpArgs false

theorem ptPlain (L : List (Nat × Nat)) : plainR [ptR L] := ⟨fun _ _ => rfl, trivial⟩

theorem pointsN (F : GFun) (w : World) (hF : F.At w) (hO : F.Ok) :
    Calls Try.prog 17 #[F.val] w (RetR w (funX F) (.tup [.one (.rs 0), .one (.int .i64 0)]) [ptR (allPts F.sn F.bn)]) := by
  have h := pointsC F w hF hO.small hO.chk
  have hR : ptR (allPts F.sn F.bn) = ⟨stN F.sn F.bn, 2, fun j => [.int .i64 (.ofNat ((allPts F.sn F.bn).getD j (0, 0)).1), .int .i64 (.ofNat ((allPts F.sn F.bn).getD j (0, 0)).2)]⟩ := by rw [ptR, allPts_len]
  rw [hR]; exact h
/-- All of a literal. -/
theorem pointsLit {c c' : Nat → Nat → Row} {w : World} {S : Nat → Value} {B : Nat → Nat} {st : St} (hM : MemIs c w S B st) (pa : Int) (un : Bool) (l b : SC) (hok : litOk st.h l b = true) (hO : fchkV (litF st.h B pa un l b) = 0) (L : List (Nat × Nat)) (hL : allPts (litF st.h B pa un l b).sn (litF st.h B pa un l b).bn = L) :
    Calls Try.prog 17 #[(litF st.h B pa un l b).val] w (RetR w c' (.tup [.one (.rs 0), .one (.int .i64 0)]) [ptR L]) := by
  have hO : GFun.Ok (litF st.h B pa un l b) := hO
  subst hL
  exact Calls.to (ptPlain _) rfl (pointsN _ w (litF_at hM hok) hO)

theorem nextLit {c c' : Nat → Nat → Row} {w : World} {S : Nat → Value} {B : Nat → Nat} {st : St} (hM : MemIs c w S B st) (pa : Int) (un : Bool) (l b : SC) (x y : Nat) (hok : litOk st.h l b = true) (hO : fchkV (litF st.h B pa un l b) = 0) (hx : decide (x < (litF st.h B pa un l b).bn) = true) (hy : decide (y ≤ (litF st.h B pa un l b).sn x) = true) (L : List (Nat × Nat)) (hL : nextP (litF st.h B pa un l b) x y = L) :
    Calls Try.prog 20 #[(litF st.h B pa un l b).val, .agg #[.int .i64 (.ofNat x), .int .i64 (.ofNat y)]] w (RetR w c' (.tup [.one (.rs 0), .one (.int .i64 0)]) [ptR L]) := by
  have hO : GFun.Ok (litF st.h B pa un l b) := hO
  subst hL
  exact Calls.to (ptPlain _) rfl (nextPC _ w (litF_at hM hok) hO x y (of_decide_eq_true hx) (of_decide_eq_true hy))



end Go.Proofs.Ytbljhhkjjlgnmaa
