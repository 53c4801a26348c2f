/- What holds of a function without an error. No condition. -/
import Derived.Test.YtbimggeapaaliaaSzJ
import Derived.Test.YtbimggeapaaliaaSwF
import Derived.Test.YtbimggeapaaliaaSvA
namespace Go.Proofs.Ytbimggeapaaliaa
open Go.RowKit
set_option linter.unusedVariables false
set_option linter.unusedSimpArgs false

/-- Without an error. -/
def GFun.Ok (F : GFun) : Prop := fchkV F = 0
namespace GFun.Ok
variable {F : GFun}
theorem large (h : F.Ok) : largeB F = false := by
  unfold GFun.Ok fchkV at h
  split at h
  · omega
  · rename_i g; simpa using g
theorem made (h : F.Ok) : madeB F = true := by
  have hl := h.large
  unfold GFun.Ok fchkV at h
  rw [hl] at h
  cases hm : madeB F with
  | true => rfl
  | false => rw [hm] at h; simp at h
theorem twos (h : F.Ok) : twosB F = true := by
  have hl := h.large
  have hm := h.made
  unfold GFun.Ok fchkV at h
  rw [hl, hm] at h
  cases ht : twosB F with
  | true => rfl
  | false => rw [ht] at h; simp at h
theorem valid (h : F.Ok) : allN F.bn (validB F) = true := by
  have := h.made
  simp only [madeB, Bool.and_eq_true] at this
  exact this.1
theorem okS (h : F.Ok) {b i : Nat} (hb : b < F.bn) (hi : i < F.sn b) : (F.s b i).ok = true := by
  have := allN_iff.1 h.valid b hb
  simp only [validB, Bool.and_eq_true] at this
  exact allN_iff.1 this.1 i hi
theorem okJ (h : F.Ok) {b : Nat} (hb : b < F.bn) : (F.jump b).ok = true := by
  have := allN_iff.1 h.valid b hb
  simp only [validB, Bool.and_eq_true] at this
  exact this.2
theorem head (h : F.Ok) : headB F = true := by
  have := h.made
  rw [madeB, rightB_eq] at this
  simp only [Bool.and_eq_true] at this
  exact this.2.1.1
theorem bpos (h : F.Ok) : 0 < F.bn := by
  have := h.made
  rw [madeB, rightB_eq] at this
  simp only [Bool.and_eq_true, decide_eq_true_eq] at this
  exact this.2.1.2
theorem near (h : F.Ok) {b : Nat} (hb : b < F.bn) : nearB F b = true := by
  have := h.made
  rw [madeB, rightB_eq] at this
  simp only [Bool.and_eq_true] at this
  exact allN_iff.1 this.2.2 b hb
theorem ln16 (h : F.Ok) : F.ln ≤ 16 := large_ln h.large
theorem lpos (h : F.Ok) : 0 < F.ln := by
  have := h.head
  simp only [headB, Bool.and_eq_true, Bool.not_eq_true', beq_eq_false_iff_ne] at this
  omega
theorem bn24 (h : F.Ok) : F.bn ≤ 24 := by
  have := h.large
  simp only [largeB, Bool.or_eq_false_iff, decide_eq_false_iff_not] at this
  omega
theorem sn24 (h : F.Ok) {b : Nat} (hb : b < F.bn) : F.sn b ≤ 24 := by
  have := h.large
  simp only [largeB, Bool.or_eq_false_iff, decide_eq_false_iff_not, Bool.not_eq_false'] at this
  exact of_decide_eq_true (allN_iff.1 this.2 b hb)
theorem jn8 (h : F.Ok) {b : Nat} (hb : b < F.bn) : F.jn b ≤ 8 := jok_n (h.okJ hb)
theorem small (h : F.Ok) : F.Sm := ⟨fun b hb => by have := h.sn24 hb; omega, by have := h.bn24; omega, by have := h.ln16; omega, fun b hb => by have := h.jn8 hb; omega⟩
theorem ins (h : F.Ok) : F.In := valid_in F h.valid
/-- The places of a statement are of locals of the function. -/
theorem stIn (h : F.Ok) {b i : Nat} (hb : b < F.bn) (hi : i < F.sn b) : ∀ q ∈ stPl (F.s b i), 0 ≤ q.1.l ∧ q.1.l < F.ln := fun q hq => by
  have h1 := h.near hb
  simp only [nearB, Bool.and_eq_true] at h1
  have h2 := allN_iff.1 h1.1.1 i hi
  simp only [plOk, List.all_eq_true, decide_eq_true_eq] at h2
  exact ⟨(stPl_in (h.ins.1 b i hb hi) q hq).1, h2 q hq⟩
theorem jmIn (h : F.Ok) {b : Nat} (hb : b < F.bn) : ∀ q ∈ jmPlB F b, 0 ≤ q.1.l ∧ q.1.l < F.ln := fun q hq => by
  have h1 := h.near hb
  simp only [nearB, Bool.and_eq_true] at h1
  have h2 := h1.1.2
  simp only [plOk, List.all_eq_true, decide_eq_true_eq] at h2
  exact ⟨(jmPl_in (h.ins.2 b hb) q hq).1, h2 q hq⟩
theorem lead (h : F.Ok) {b : Nat} (hb : b < F.bn) : ∀ n ∈ (F.jump b).leads, 0 ≤ n ∧ n < F.bn := fun n hn => by
  have h1 := h.near hb
  simp only [nearB, Bool.and_eq_true, List.all_eq_true, decide_eq_true_eq] at h1
  refine ⟨?_, h1.2 n hn⟩
  have hj := h.okJ hb
  simp only [GJump.ok, blk, Bool.or_eq_true, Bool.and_eq_true, beq_iff_eq, decide_eq_true_eq] at hj
  unfold GJump.leads at hn
  split at hn
  · simp at hn
  · split at hn
    · simp only [List.mem_cons, List.not_mem_nil, or_false] at hn
      rename_i g1 g2
      simp only [Bool.or_eq_true, beq_iff_eq, Bool.and_eq_true] at g1 g2
      grind
    · simp only [List.mem_cons, List.not_mem_nil, or_false] at hn
      rename_i g1 g2
      simp only [Bool.or_eq_true, beq_iff_eq] at g1
      grind
/-- A place of a statement that assigns. -/
theorem nearS (h : F.Ok) : F.Near := fun b i hb hi hk => by
  have h1 := h.stIn hb hi
  have hs := h.okS hb hi
  have hl := h.lpos
  have z : (0 : Int) ≤ 0 ∧ (0 : Int) < F.ln := ⟨by omega, by omega⟩
  have hr : (F.s b i).r.ok = true := by
    simp only [GStmt.ok, Bool.or_eq_true, Bool.and_eq_true, beq_iff_eq] at hs
    grind
  have mem : ∀ q, q ∈ stPl (F.s b i) ↔ q ∈ (if (F.s b i).r.k = 4 ∨ (F.s b i).r.k = 5 then [((F.s b i).p, false), ((F.s b i).r.p, false)] else if (F.s b i).r.k = 1 then ((F.s b i).p, false) :: opPl true (F.s b i).r.a else ((F.s b i).p, false) :: (opPl false (F.s b i).r.a ++ opPl false (F.s b i).r.b)) := fun q => by
    unfold stPl
    rw [if_neg (by omega), if_neg (by omega), if_pos hk]
  have hop : ∀ (may : Bool) (o : GOper), o.ok = true → (∀ q ∈ opPl may o, 0 ≤ q.1.l ∧ q.1.l < (F.ln : Int)) → 0 ≤ o.p.l ∧ o.p.l < F.ln := fun may o ho hq => by
    by_cases g : o.k = 1
    · simp only [GOper.ok, GPlace.eqB, GPlace.zero, Bool.or_eq_true, Bool.and_eq_true, beq_iff_eq] at ho
      have e : o.p.l = 0 := by grind
      rw [e]; exact z
    · exact hq (o.p, _) (by unfold opPl; rw [if_neg g]; exact List.mem_singleton.2 rfl)
  have zero : ∀ o : GOper, o.eqB .zero = true → 0 ≤ o.p.l ∧ o.p.l < F.ln := fun o ho => by
    rw [GOper.eqB_iff] at ho; subst ho; exact z
  have zeroP : ∀ p : GPlace, p.eqB .zero = true → 0 ≤ p.l ∧ p.l < F.ln := fun p hp => by
    rw [GPlace.eqB_iff] at hp; subst hp; exact z
  simp only [GRv.ok, Bool.or_eq_true, Bool.and_eq_true, beq_iff_eq] at hr
  by_cases g : (F.s b i).r.k = 4 ∨ (F.s b i).r.k = 5
  · refine ⟨h1 _ ((mem _).2 (by rw [if_pos g]; exact List.mem_cons_self : ((F.s b i).p, false) ∈ _)), h1 _ ((mem _).2 (by rw [if_pos g]; simp : ((F.s b i).r.p, false) ∈ _)), zero _ ?_⟩
    grind
  · have hp : 0 ≤ (F.s b i).r.p.l ∧ (F.s b i).r.p.l < (F.ln : Int) := zeroP _ (by grind)
    by_cases g1 : (F.s b i).r.k = 1
    · refine ⟨h1 _ ((mem _).2 (by rw [if_neg g, if_pos g1]; exact List.mem_cons_self : ((F.s b i).p, false) ∈ _)), hp, hop true _ ?_ fun q hq => h1 q ((mem _).2 (by rw [if_neg g, if_pos g1]; exact List.mem_cons_of_mem _ hq))⟩
      grind
    · refine ⟨h1 _ ((mem _).2 (by rw [if_neg g, if_neg g1]; exact List.mem_cons_self : ((F.s b i).p, false) ∈ _)), hp, hop false _ ?_ fun q hq => h1 q ((mem _).2 (by rw [if_neg g, if_neg g1]; exact List.mem_cons_of_mem _ (List.mem_append_left _ hq)))⟩
      grind
theorem chk (h : F.Ok) (w : World) (hF : F.At w) : Calls Try.prog 22 #[F.val] w (Ret w (.int .i64 0)) := by
  have := fnChk F w hF
  rw [show fchkV F = 0 from h] at this
  exact this
end GFun.Ok

end Go.Proofs.Ytbimggeapaaliaa
