/- Layer 7 of the program: the places of a valid function name locals there may be. No condition. -/
import Derived.Test.YtbimggeapaaliaaSyF
import Derived.Test.YtbimggeapaaliaaSyI
namespace Go.Proofs.Ytbimggeapaaliaa
open Go.RowKit
set_option linter.unusedVariables false
set_option linter.unusedSimpArgs false

theorem oper_in {o : GOper} (h : o.ok = true) (h1 : o.k ≠ 1) : 0 ≤ o.p.l ∧ o.p.l < 16 := by
  simp only [GOper.ok, GPlace.ok, Bool.or_eq_true, Bool.and_eq_true, beq_iff_eq, decide_eq_true_eq] at h
  grind
theorem place_in {p : GPlace} (h : p.ok = true) : 0 ≤ p.l ∧ p.l < 16 := by
  simp only [GPlace.ok, Bool.and_eq_true, decide_eq_true_eq] at h
  exact h.1
theorem ok_stAll {s : GStmt} (h : s.ok = true) : stAll (fun p => 0 ≤ p.l ∧ p.l < 16) s := by
  simp only [GStmt.ok, GRv.ok, Bool.or_eq_true, Bool.and_eq_true, beq_iff_eq, decide_eq_true_eq] at h
  refine ⟨fun hk => ?_, fun hk ha => ?_, fun hk => ⟨?_, fun hr => ?_, fun hr => ⟨fun ha => ?_, fun h1 hb => ?_⟩⟩⟩
  · show 0 ≤ s.l ∧ s.l < 16
    omega
  · refine oper_in ?_ ha
    grind
  · refine place_in ?_
    grind
  · refine place_in ?_
    grind
  · refine oper_in ?_ ha
    grind
  · refine oper_in ?_ hb
    grind

theorem ok_jmAll {k : Int} {a : GOper} {fn nx el : Int} {n : Nat} {g : Nat → GOper} {d : GPlace} (h : (GJump.mk k a fn nx el (argL n g) d).ok = true) : jmAll (fun p => 0 ≤ p.l ∧ p.l < 16) k a d n g := by
  simp only [GJump.ok, Bool.or_eq_true, Bool.and_eq_true, beq_iff_eq, decide_eq_true_eq] at h
  refine ⟨fun hk ha => ?_, fun hk => ⟨?_, fun i hi h1 => ?_⟩⟩
  · refine oper_in ?_ ha
    grind
  · refine place_in ?_
    grind
  · refine oper_in ?_ h1
    have : (argL n g).all GOper.ok = true := by grind
    rw [argL, List.all_map, List.all_eq_true] at this
    exact this i (List.mem_range.2 hi)
theorem valid_in (F : GFun) (h : allN F.bn (validB F) = true) : F.In := by
  refine ⟨fun b i hb hi => ok_stAll ?_, fun b hb => ok_jmAll (fn := F.jf b) (nx := F.jx b) (el := F.je b) ?_⟩
  · have hv := allN_iff.1 h b hb
    simp only [validB, Bool.and_eq_true] at hv
    exact allN_iff.1 hv.1 i hi
  · have hv := allN_iff.1 h b hb
    simp only [validB, Bool.and_eq_true] at hv
    exact hv.2
theorem made_in (F : GFun) (h : madeB F = true) : F.In := by
  simp only [madeB, Bool.and_eq_true] at h
  exact valid_in F h.1

end Go.Proofs.Ytbimggeapaaliaa
