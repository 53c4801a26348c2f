/- A second way to walk: calls that are handed literals of the call's own. No condition. -/
import Derived.Test.YtbimggeapaaliaaSxJ
namespace Go.Proofs.Ytbimggeapaaliaa
open Go.RowKit
set_option linter.unusedVariables false
set_option linter.unusedSimpArgs false
variable {P : Program} {Q : Exit → Act → World → Prop} {c : Nat → Nat → Row} {w0 : Base} {T : Tb}

def toCB (S : Nat → Value) (B : Nat → Nat) (c : Nat → Nat → Row) : SC → Option Value
  | .sl k o n d => some (.slice (some ⟨B k, o, none⟩) n d)
  | .ptr k o => some (.pointer (some ⟨B k, o, none⟩))
  | x => toCR S c x
def toCsB (S : Nat → Value) (B : Nat → Nat) (c : Nat → Nat → Row) : List SC → Option (List Value)
  | [] => some []
  | x :: l => match toCB S B c x, toCsB S B c l with
    | some v, some r => some (v :: r)
    | _, _ => none
def toSB (S : Nat → Value) (B : Nat → Nat) (c : Nat → Nat → Row) : SV → Option Value
  | .pt (.one x) => toCB S B c x
  | .pt (.agg l) => match toCsB S B c l with | some r => some (.agg r.toArray) | none => none
  | .tup _ => none
def toVsB (S : Nat → Value) (B : Nat → Nat) (c : Nat → Nat → Row) : List SV → Option (List Value)
  | [] => some []
  | x :: l => match toSB S B c x, toVsB S B c l with
    | some v, some r => some (v :: r)
    | _, _ => none
section
variable {S : Nat → Value} {B : Nat → Nat}
theorem toCB_is {e : Env} (hc : e.chi = c) (hS : ∀ q v, e.sg[q]? = some v → S q = v) (hB : ∀ k b, e.rho[k]? = some b → B k = b) {x : SC} {v u : Value} (h : toCB S B c x = some v) (hu : x.is e u) : u = v := by
  unfold toCB at h
  split at h
  · cases h
    obtain ⟨b, h1, rfl⟩ := hu
    rw [hB _ _ h1]
  · cases h
    obtain ⟨b, h1, rfl⟩ := hu
    rw [hB _ _ h1]
  · exact toCR_is hc hS h hu
theorem toCsB_is {e : Env} (hc : e.chi = c) (hS : ∀ q v, e.sg[q]? = some v → S q = v) (hB : ∀ k b, e.rho[k]? = some b → B k = b) : ∀ {l : List SC} {vs us : List Value}, toCsB S B c l = some vs → isL e l us → us = vs
  | [], vs, [], h, _ => by simp [toCsB] at h; exact h.symm
  | x :: l, vs, u :: us, h, hi => by
    simp only [toCsB] at h
    split at h
    · rename_i v r h1 h2
      cases h
      rw [toCB_is hc hS hB h1 hi.1, toCsB_is hc hS hB h2 hi.2]
    · cases h
  | [], _, _ :: _, _, h => h.elim
  | _ :: _, _, [], _, h => h.elim
theorem toVsB_is {e : Env} (hc : e.chi = c) (hS : ∀ q v, e.sg[q]? = some v → S q = v) (hB : ∀ k b, e.rho[k]? = some b → B k = b) : ∀ {l : List SV} {vs us : List Value}, toVsB S B c l = some vs → isV e l us → us = vs
  | [], vs, [], h, _ => by simp [toVsB] at h; exact h.symm
  | x :: l, vs, u :: us, h, hi => by
    simp only [toVsB] at h
    split at h
    · rename_i v r h1 h2
      cases h
      rw [toVsB_is hc hS hB h2 hi.2]
      congr 1
      have hi1 := hi.1
      unfold toSB at h1
      split at h1
      · exact toCB_is hc hS hB h1 hi1
      · split at h1
        · rename_i r' h3
          cases h1
          obtain ⟨ws, rfl, hl⟩ := hi1
          rw [← toCsB_is hc hS hB h3 hl]
        · cases h1
      · cases h1
    · cases h
  | [], _, _ :: _, _, h => h.elim
  | _ :: _, _, [], _, h => h.elim
/-- What the blocks and the rows of the call's own hold. -/
structure MemIs (c : Nat → Nat → Row) (w : World) (S : Nat → Value) (B : Nat → Nat) (st : St) : Prop where
  blk : ∀ (k : Nat) (cs : List SC) (us : List Value), nth st.h k = some (some cs) → toCsB S B c cs = some us → B k < w.heap.size ∧ ∃ t, w.heap[B k]? = some (.cells us.toArray t (0, 0))
  row : ∀ (q : Nat) (R : ORow), nth st.r q = some (some R) → RowIs c w R (S q)
end
theorem Fit.mem {e : Env} {st : St} {a : Act} {s : List Act} {w : World} (F : Fit e w0 st a s w) (hc : e.chi = c) : MemIs c w (fun q => (e.sg[q]?).getD undef) (fun k => (e.rho[k]?).getD 0) st := by
  refine ⟨fun k cs us hk hu => ?_, fun q R hq => ?_⟩
  · rw [nth_eq] at hk
    have hkl : k < e.rho.length := by rw [F.len]; exact (List.getElem?_eq_some_iff.1 hk).1
    obtain ⟨b, hb⟩ : ∃ b, e.rho[k]? = some b := ⟨_, List.getElem?_eq_getElem hkl⟩
    obtain ⟨vs, t, hw, hl⟩ := F.cells k b cs hb hk
    have := toCsB_is hc (fun q v hq => by simp only [hq, Option.getD_some]) (fun k b hb => by simp only [hb, Option.getD_some]) hu hl
    subst this
    simp only [hb, Option.getD_some]
    exact ⟨F.hi k b hb, t, hw⟩
  · rw [nth_eq] at hq
    obtain ⟨v, xs, h1, h2, h3⟩ := F.rows.row q R hq
    simp only [h1, Option.getD_some]
    exact ⟨xs, h2, by rw [← hc]; exact h3, fun b hb => F.rows.hi q b ⟨R, v, hq, h1, hb⟩⟩
/-- A call that is handed literals, and hands back rows. -/
theorem go_callB {f : Nat} {args : List SV} {dst : Option Nat} {k : List Item} {st : St} {vs : (Nat → Value) → (Nat → Nat) → List Value} {x : SV} {r : List ORow} (hv : ∀ S B, toVsB S B c args = some (vs S B)) (hf : ∀ (args : Array Value) (w : World), (callFunc f args).run P w = .ok (.enter f args) w)
    (hC : ∀ (w : World) (S : Nat → Value) (B : Nat → Nat), KB w0 w → XOk ⟨[], c, []⟩ ⟨w, []⟩ → MemIs c w S B st → Calls P f (vs S B).toArray w (RetR w c x r)) (hk : x.rsOk = true)
    (h : Goes P Q c w0 k (({ st with r := st.r ++ someR r } : St).put dst (x.shR (lenM st.r)))) : OutOk P Q c w0 (.call f args dst k st) := ⟨fun e s a w hc F us hu => by
  rw [toVsB_is hc (S := fun q => (e.sg[q]?).getD undef) (B := fun k => (e.rho[k]?).getD 0) (fun q v hq => by simp only [hq, Option.getD_some]) (fun k b hb => by simp only [hb, Option.getD_some]) (hv _ _) hu]
  refine ⟨hf _ _, (hC w _ _ F.blw (F.ext.xok0 hc) (F.mem hc)).mono fun en w' ⟨v, g, he, hb, hg, hx⟩ => ⟨v, he, ?_⟩⟩
  subst hc
  have hsh := shV_is hk hx
  rw [F.rows.len] at hsh
  rw [lenM_eq] at h
  exact h.run (e.adds g) s _ _ rfl ((F.adds hb hg).put hsh)⟩
/-- A call that is handed literals, and hands back a value. -/
theorem go_callBv {f : Nat} {args : List SV} {dst : Option Nat} {k : List Item} {st : St} {vs : (Nat → Value) → (Nat → Nat) → List Value} {v : Value} (hv : ∀ S B, toVsB S B c args = some (vs S B)) (hf : ∀ (args : Array Value) (w : World), (callFunc f args).run P w = .ok (.enter f args) w)
    (hC : ∀ (w : World) (S : Nat → Value) (B : Nat → Nat), KB w0 w → XOk ⟨[], c, []⟩ ⟨w, []⟩ → MemIs c w S B st → Calls P f (vs S B).toArray w (Ret w v))
    (h : Goes P Q c w0 k (st.put dst (ofR v))) : OutOk P Q c w0 (.call f args dst k st) := ⟨fun e s a w hc F us hu => by
  rw [toVsB_is hc (S := fun q => (e.sg[q]?).getD undef) (B := fun k => (e.rho[k]?).getD 0) (fun q v hq => by simp only [hq, Option.getD_some]) (fun k b hb => by simp only [hb, Option.getD_some]) (hv _ _) hu]
  refine ⟨hf _ _, (hC w _ _ F.blw (F.ext.xok0 hc) (F.mem hc)).mono fun en w' ⟨he, hb⟩ => ⟨v, he, ?_⟩⟩
  exact h.run e s _ _ hc ((F.later hb).put (ofR_is e v))⟩

/-! Where a literal's cells lie. -/
/-- What a cell may hold: a number of a kind, a bool, a slice. -/
inductive CK where
  | i (k : IntKind)
  | b
  | s
def numC : SC → Int
  | .int _ x => x
  | _ => 0
def booC : SC → Bool
  | .bool b => b
  | .lit b => b
  | _ => false
def lenC : SC → Nat
  | .sl _ _ n _ => n
  | _ => 0
def capC : SC → Nat
  | .sl _ _ _ d => d
  | _ => 0
def adrC (B : Nat → Nat) : SC → Option Addr
  | .sl k o _ _ => some ⟨B k, o, none⟩
  | _ => none
def nthC (cs : List SC) (i : Nat) : SC := match nth cs i with
  | some x => x
  | none => .any
def cellsOf (h : List (Option (List SC))) : SC → List SC
  | .sl k _ _ _ => match nth h k with
    | some (some cs) => cs
    | _ => []
  | _ => []
def CK.fits : CK → SC → Bool
  | .i k, .int k' _ => k == k'
  | .b, .bool _ => true
  | .b, .lit _ => true
  | .s, .sl _ 0 _ _ => true
  | .s, .val (.slice none 0 0) => true
  | _, _ => false
def CK.val (B : Nat → Nat) : CK → SC → Value
  | .i k, x => .int k (numC x)
  | .b, x => .bool (booC x)
  | .s, x => .slice (adrC B x) (lenC x) (capC x)
theorem CK.fits_val {S : Nat → Value} {B : Nat → Nat} {p : CK} {x : SC} (h : p.fits x = true) : toCB S B c x = some (p.val B x) := by
  unfold CK.fits at h
  split at h
  · simp only [beq_iff_eq] at h; subst h; rfl
  · rfl
  · rfl
  · rfl
  · rfl
  · cases h
def detB : List SC → Bool
  | [] => true
  | .sl .. :: l | .ptr .. :: l | .rs _ :: l | .int .. :: l | .bool _ :: l | .lit _ :: l | .val _ :: l | .xs .. :: l => detB l
  | _ :: _ => false
theorem detB_to {S : Nat → Value} {B : Nat → Nat} : ∀ {l : List SC}, detB l = true → ∃ us, toCsB S B c l = some us
  | [], _ => ⟨[], rfl⟩
  | x :: l, h => by
    have h2 : detB l = true := by cases x <;> simp_all [detB]
    obtain ⟨us, hu⟩ := detB_to (S := S) (B := B) h2
    have h1 : ∃ v, toCB S B c x = some v := by cases x <;> first | exact ⟨_, rfl⟩ | (simp [detB] at h)
    obtain ⟨v, hv⟩ := h1
    exact ⟨v :: us, by simp only [toCsB, hv, hu]⟩
theorem toCsB_get {S : Nat → Value} {B : Nat → Nat} : ∀ {l : List SC} {us : List Value}, toCsB S B c l = some us → ∀ {i : Nat} {x : SC}, nth l i = some x → ∃ v, toCB S B c x = some v ∧ us[i]? = some v
  | [], us, _, i, x, hi => by cases i <;> simp [nth] at hi
  | y :: l, us, h, i, x, hi => by
    simp only [toCsB] at h
    split at h
    · rename_i v r h1 h2
      cases h
      cases i with
      | zero => simp only [nth, Option.some.injEq] at hi; subst hi; exact ⟨v, h1, by simp⟩
      | succ i => simp only [nth] at hi; obtain ⟨v', h3, h4⟩ := toCsB_get h2 hi; exact ⟨v', h3, by simpa using h4⟩
    · cases h
def fitsL : List CK → List SC → Nat → Bool
  | [], _, _ => true
  | p :: l, cs, o => p.fits (nthC cs o) && fitsL l cs (o + 1)
def valsL (B : Nat → Nat) : List CK → List SC → Nat → List Value
  | [], _, _ => []
  | p :: l, cs, o => p.val B (nthC cs o) :: valsL B l cs (o + 1)
theorem fitsL_get : ∀ {l : List CK} {cs : List SC} {o : Nat}, fitsL l cs o = true → ∀ (B : Nat → Nat) (t : Nat) (v : Value), (valsL B l cs o)[t]? = some v → ∃ p : CK, p.fits (nthC cs (o + t)) = true ∧ v = p.val B (nthC cs (o + t))
  | [], _, _, _, B, t, v, hv => by simp [valsL] at hv
  | p :: l, cs, o, h, B, t, v, hv => by
    simp only [fitsL, Bool.and_eq_true] at h
    cases t with
    | zero => simp [valsL] at hv; exact ⟨p, h.1, hv.symm⟩
    | succ t =>
      simp only [valsL, List.getElem?_cons_succ] at hv
      have := fitsL_get h.2 B t v hv
      rw [show o + (t + 1) = o + 1 + t by omega]; exact this
/-- A row of a literal: n elements of these cells each. -/
def rowOk (h : List (Option (List SC))) (ps : List CK) (x : SC) : Bool := match x with
  | .sl k 0 n d => (match nth h k with | some (some cs) => decide (n ≤ 1000) && decide (n ≤ d) && detB cs && (List.range n).all fun j => fitsL ps cs (j * ps.length) | _ => false)
  | .val (.slice none 0 0) => true
  | _ => false
theorem rowOk_n {h : List (Option (List SC))} {ps : List CK} {x : SC} (hk : rowOk h ps x = true) : lenC x ≤ 1000 := by
  unfold rowOk at hk
  split at hk
  · split at hk
    · simp only [Bool.and_eq_true, decide_eq_true_eq] at hk; exact hk.1.1.1
    · cases hk
  · simp [lenC]
  · cases hk
theorem rowOk_at {w : World} {S : Nat → Value} {B : Nat → Nat} {st : St} (hM : MemIs c w S B st) {ps : List CK} {x : SC} (hk : rowOk st.h ps x = true) {j : Nat} (hj : j < lenC x) :
    ∃ b p, adrC B x = some ⟨b, p, none⟩ ∧ b < w.heap.size ∧ ∀ (t : Nat) (v : Value), (valsL B ps (cellsOf st.h x) (j * ps.length))[t]? = some v → w.cell? ⟨b, p + (j * ps.length + t), none⟩ = some v := by
  unfold rowOk at hk
  split at hk
  · rename_i k n d
    split at hk
    · rename_i cs hcs
      simp only [Bool.and_eq_true, decide_eq_true_eq, List.all_eq_true, List.mem_range] at hk
      obtain ⟨us, hu⟩ := detB_to (c := c) (S := S) (B := B) hk.1.2
      obtain ⟨hlt, t, hw⟩ := hM.blk k cs us hcs hu
      refine ⟨B k, 0, rfl, hlt, fun t' v hv => ?_⟩
      have he : cellsOf st.h (.sl k 0 n d) = cs := by simp only [cellsOf, hcs]
      rw [he] at hv
      obtain ⟨p, h1, rfl⟩ := fitsL_get (hk.2 j hj) B t' v hv
      rw [cell_of_row w (B k) _ us.toArray t (0, 0) hw]
      have hx : nth cs (j * ps.length + t') = some (nthC cs (j * ps.length + t')) := by
        unfold nthC
        unfold nthC at h1
        split
        · assumption
        · rename_i hn; rw [hn] at h1; cases p <;> simp [CK.fits] at h1
      obtain ⟨v', h2, h3⟩ := toCsB_get hu hx
      rw [CK.fits_val h1] at h2
      cases h2
      simpa using h3
    · cases hk
  · simp [lenC] at hj
  · cases hk

end Go.Proofs.Ytbimggeapaaliaa
