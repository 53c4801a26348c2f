/- A second way to walk, its laws, fourth part: single operations. No condition. -/
import Derived.Test.YtbimggeapaaliaaSxO
namespace Go.Proofs.Ytbimggeapaaliaa
open Go.RowKit
set_option linter.unusedVariables false
set_option linter.unusedSimpArgs false
variable {P : Program} {w : World} {w0 : Base} {T : Tb} {e : Env} {st : St} {a : Act} {s : List Act}

/-- What a row turned into: the new environment, and what the world keeps. -/
def RowOk (e : Env) (st : St) (w : World) (q : Nat) (R : ORow) (x : SV) (lost : Option Nat) (v : Value) (w' : World) : Prop :=
  ∃ (sv : Value) (xs : List Value) (B : Option Nat), x.is (if q < st.r.length then e.putS q sv else e.addS sv) v ∧ OwnR w' R.es sv R.n xs ∧ ElsIs e.chi R xs ∧ w.grownBy w' B ∧
    (∀ g, B = some g → HasR e st q g ∨ ∃ k, lost = some k ∧ HasH e st k g) ∧ (∀ g, sv.ownBlock = some g → g < w'.heap.size ∧ (w.heap.size ≤ g ∨ HasR e st q g ∨ ∃ k, lost = some k ∧ HasH e st k g)) ∧ q ≤ st.r.length ∧ (q < st.r.length → lost = none)
def OpOk (P : Program) (e : Env) (st : St) (w : World) : OpR → Result Next → Prop
  | .v x, res => ∃ v, x.is e v ∧ res = .ok (.value v) w
  | .nb cs x, res => ∃ vs t v, isL e cs (Array.toList vs) ∧ res = .ok (.value v) (w.alloc (.cells vs t)) ∧ x.is (e.more w.heap.size) v
  | .st k p cs, res => ∃ b w' vs old t, e.rho[k]? = some b ∧ res = .ok .skip w' ∧ isL e cs vs ∧ w.heap[b]? = some (.cells old t (0, 0)) ∧ w'.heap[b]? = some (.cells (pasteL (Array.toList old) p vs).toArray t (0, 0)) ∧
      (∀ j, j ≠ b → w'.heap[j]? = w.heap[j]?) ∧ w'.heap.size = w.heap.size ∧ w'.os = w.os ∧ w'.tape = w.tape ∧ w'.output = w.output
  | .call f args, res => ∃ vs : List Value, isV e args vs ∧ res = (callFunc f vs.toArray).run P w
  | .need i n x, res => 0 ≤ i → i < n → ∃ v, x.is e v ∧ res = .ok (.value v) w
  | .ask k o cs, res => ∀ c : SC, cs[o]? = some c → ∃ v, c.is e v ∧ res = .ok (.value v) w
  | .askS k o cs x, res => o < cs.length → ∃ b w' vs old t, e.rho[k]? = some b ∧ res = .ok .skip w' ∧ isL e [x] vs ∧ w.heap[b]? = some (.cells old t (0, 0)) ∧ w'.heap[b]? = some (.cells (pasteL (Array.toList old) o vs).toArray t (0, 0)) ∧
      (∀ j, j ≠ b → w'.heap[j]? = w.heap[j]?) ∧ w'.heap.size = w.heap.size ∧ w'.os = w.os ∧ w'.tape = w.tape ∧ w'.output = w.output
  | .row q R x lost ob, res => ob → ∃ v w', res = .ok (.value v) w' ∧ RowOk e st w q R x lost v w'
  | .rst q R, res => ∃ w' sv xs g, res = .ok .skip w' ∧ e.sg[q]? = some sv ∧ sv.ownBlock = some g ∧ HasR e st q g ∧ OwnR w' R.es sv R.n xs ∧ ElsIs e.chi R xs ∧ w.grownBy w' (some g) ∧ w'.heap.size = w.heap.size
  | .no, _ => True

theorem one_int {k : IntKind} {x : Int} {v : Value} (h : (SV.pt (.one (.int k x))).is e v) : v = .int k x := h
theorem one_bool {b : Bool} {v : Value} (h : (SV.pt (.one (.bool b))).is e v) : v = .bool b := h
theorem one_lit {b : Bool} {v : Value} (h : (SV.pt (.one (.lit b))).is e v) : v = .bool b := h

theorem free_nil {e : Env} {c : SC} {v : Value} (hf : c.free = true) (h : c.is e v) : c.is ⟨[], e.chi, []⟩ v := by
  cases c <;> first | exact h | (simp [SC.free] at hf)
theorem freeL_nil {e : Env} : ∀ {l : List SC} {vs : List Value}, freeL l = true → isL e l vs → isL ⟨[], e.chi, []⟩ l vs
  | [], [], _, _ => trivial
  | c :: l, v :: vs, hf, h => by
    simp only [freeL, Bool.and_eq_true] at hf
    exact ⟨free_nil hf.1 h.1, freeL_nil hf.2 h.2⟩
  | [], _ :: _, _, h => h.elim
  | _ :: _, [], _, h => h.elim
theorem ok_pick {c x y : Operand} (tm : isV e st.t a.tmps.toList) (o : Oper) (ho : o.op = .pick c x y) : OpOk P e st w (opE T e.chi st o.op) ((execOp a.eval o).run P w) := by
  rw [ho]
  simp only [opE]
  split
  · rename_i d hd
    have hc := evO_is tm c
    rw [hd] at hc
    unfold pickE
    split
    · refine ⟨_, evO_is tm x, ?_⟩
      have := one_lit hc
      simp [execOp, ho, this, asBool]
    · refine ⟨_, evO_is tm y, ?_⟩
      have := one_lit hc
      simp [execOp, ho, this, asBool]
    · trivial
  · trivial

theorem ok_alloc {t : Nat} (hT : TOk P T) (F : Fit e w0 st a s w) (o : Oper) (ho : o.op = .alloc t) : OpOk P e st w (opE T e.chi st o.op) ((execOp a.eval o).run P w) := by
  rw [ho]
  simp only [opE]
  split
  · rename_i y hy
    obtain ⟨z, hz, hl⟩ := run_zero (tyB_spec (hT.ty t y hy)) e
    refine ⟨z.cells, t, .pointer (some ⟨w.heap.size, 0, none⟩), hl, ?_, ?_⟩
    · simp [execOp, ho, Instr.alloc, hz, newVar, newRow]
    · exact ⟨w.heap.size, by simp [Env.more, ← F.len], rfl⟩
  · trivial
theorem ok_box {t : Nat} {x : Operand} (F : Fit e w0 st a s w) (o : Oper) (ho : o.op = .box t x) : OpOk P e st w (opE T e.chi st o.op) ((execOp a.eval o).run P w) := by
  rw [ho]
  simp only [opE]
  split
  · rename_i cs hc
    obtain ⟨hl, _⟩ := SV.cells_is (evO_is F.tm x) hc
    refine ⟨(a.eval x).cells, t, .pointer (some ⟨w.heap.size, 0, none⟩), hl, ?_, ?_⟩
    · simp [execOp, ho, Instr.box, newVar, newRow]
    · exact ⟨w.heap.size, by simp [Env.more, ← F.len], rfl⟩
  · trivial

theorem fields_mapM : ∀ {fs : List Field} {l : List (Nat × Nat × Bool)}, fieldsB P fs l = true → fs.mapM (fun f => (P.info? f.type).map fun i => (f.offset, i.size)) = some (l.map fun p => (p.1, p.2.1))
  | [], [], _ => rfl
  | f :: fs, (o, n, g) :: l, h => by
    simp only [fieldsB, Bool.and_eq_true, beq_iff_eq] at h
    obtain ⟨i, d, h1, _, h3, _⟩ := elB_spec h.1.2
    rw [List.mapM_cons, fields_mapM h.2]
    simp [h1, h3, h.1.1]
  | [], _ :: _, h => by simp [fieldsB] at h
  | _ :: _, [], h => by simp [fieldsB] at h
theorem rowFs_get {es : Nat} {ea : Bool} : ∀ (n o j : Nat) (p : Nat × Nat × Bool), (rowFs es ea n o)[j]? = some p → p = (o + j * es, es, ea)
  | 0, o, j, p, h => by simp [rowFs] at h
  | n + 1, o, 0, p, h => by simp [rowFs] at h; simp [← h]
  | n + 1, o, j + 1, p, h => by
    simp [rowFs] at h
    have := rowFs_get n (o + es) j p h
    rw [this, Nat.succ_mul]
    simp; omega
theorem ok_build {t : Nat} {ps : Array (Nat × Operand)} (hT : TOk P T) (tm : isV e st.t a.tmps.toList) (o : Oper) (ho : o.op = .build t ps) : OpOk P e st w (opE T e.chi st o.op) ((execOp a.eval o).run P w) := by
  rw [ho]
  simp only [opE]
  split
  · rename_i s z fs cmp hy
    split
    · rename_i cs hc
      obtain ⟨i, d, zv, h1, h2, h3, h4, h5, h6, h7, fl, rfl, h8⟩ := (tyB_spec (hT.ty t _ hy)).ex
      obtain ⟨vs, hv, hl⟩ := fill_ok tm (fs := fs) (place := fun j => (fs.map fun p => (p.1, p.2.1)).toArray[j]?) (fun j o n g hj => by simp [hj]) ps.toList z cs zv.cells (scsB_is e h7) hc
      refine ⟨.agg vs, ⟨vs, rfl, hl⟩, ?_⟩
      have hb : P.built t (ps.toList.map fun p => (p.1, a.eval p.2)) = some vs := by
        simp only [Program.built, h1, h2, h6, fields_mapM h8]
        exact hv
      have := run_build (P := P) w t (ps.map fun (p : Nat × Operand) => (p.1, a.eval p.2)) vs (by simpa using hb)
      simp [execOp, ho, this]
    · trivial
  · rename_i n es ea z hy
    split
    · rename_i cs hc
      obtain ⟨i, d, zv, h1, h2, h3, h4, h5, h6, h7, el, rfl, h8⟩ := (tyB_spec (hT.ty t _ hy)).ex
      obtain ⟨i', d', k1, k2, k3, k4, k5, k6⟩ := elB_spec h8
      obtain ⟨vs, hv, hl⟩ := fill_ok tm (fs := rowFs es ea n 0) (place := fun q => some (q * es, es)) (fun q o m g hq => by
          have := rowFs_get n 0 q _ hq
          simp only [Prod.mk.injEq, Nat.zero_add] at this
          rw [this.1, this.2.1]) ps.toList z cs zv.cells (scsB_is e h7) hc
      refine ⟨.agg vs, ⟨vs, rfl, hl⟩, ?_⟩
      have hb : P.built t (ps.toList.map fun p => (p.1, a.eval p.2)) = some vs := by
        simp only [Program.built, h1, h2, h6, k1, k3]
        exact hv
      have := run_build (P := P) w t (ps.map fun (p : Nat × Operand) => (p.1, a.eval p.2)) vs (by simpa using hb)
      simp [execOp, ho, this]
    · trivial
  · trivial

theorem ok_buildSlice {t n : Nat} {ps : Array (Nat × Operand)} (hT : TOk P T) (F : Fit e w0 st a s w) (o : Oper) (ho : o.op = .buildSlice t n ps) : OpOk P e st w (opE T e.chi st o.op) ((execOp a.eval o).run P w) := by
  rw [ho]
  simp only [opE]
  split
  · rename_i es ea z hy
    split
    · rename_i hbig
      split
      · rename_i cs hc
        obtain ⟨i, d, zv, h1, h2, h3, h4, h5, h6, h7, el, j, u, rfl, h8, h9, h10, h11, h12, _⟩ := (tyB_spec (hT.ty t _ hy)).ex
        obtain ⟨i', d', k1, k2, k3, k4, k5, k6⟩ := elB_spec h8
        rw [h9] at k1
        cases k1
        have hz := scsB_is e h11
        have hzl := isL_length hz
        simp only [Array.length_toList] at hzl
        have hus : u.cells.size = es := by omega
        have hrow : isL e (repL n z) ((Array.range (n * es)).map fun q => u.cells[q % u.cells.size]!).toList := by
          have h0 := repL_is hz n
          have : ((Array.range (n * es)).map fun q => u.cells[q % u.cells.size]!).toList = repL n u.cells.toList := by
            apply List.ext_getElem?
            intro q
            by_cases g : q < n * es
            · rw [repL_get _ (by simp; omega) _ _ (by simp [hus]; exact g)]
              simp only [Array.toList_map, Array.toList_range, List.getElem?_map, List.getElem?_range g, Option.map_some, Array.length_toList]
              have hm : q % u.cells.size < u.cells.size := Nat.mod_lt _ (by omega)
              simp [hm]
            · rw [List.getElem?_eq_none (by simp; omega), List.getElem?_eq_none (by simp [repL_length, hus]; omega)]
          rw [this]; exact h0
        obtain ⟨vs, hv, hl⟩ := fill_ok F.tm (fs := rowFs es ea n 0) (place := fun q => some (q * es, es)) (fun q o m g hq => by
          have := rowFs_get n 0 q _ hq
          simp only [Prod.mk.injEq, Nat.zero_add] at this
          rw [this.1, this.2.1]) ps.toList _ cs _ hrow hc
        refine ⟨vs, el, .slice (some ⟨w.heap.size, 0, none⟩) n n, hl, ?_, ?_⟩
        · have hrun : (Instr.buildSlice t n (ps.map fun (p : Nat × Operand) => (p.1, a.eval p.2))).run P w = .ok (.slice (some ⟨w.heap.size, 0, none⟩) n n) (w.alloc (.cells vs el)) := by
            unfold Instr.buildSlice
            simp only [Sem.run_bind, run_underlying h2, Result.andThen_ok, run_sizeOf' h9, k3]
            rw [if_neg (by omega)]
            have hfill : Instr.fill (fun q => some (q * es, es)) ((Array.range (n * es)).map fun q => u.cells[q % u.cells.size]!) (ps.map fun (p : Nat × Operand) => (p.1, a.eval p.2)).toList = some vs := by simpa using hv
            by_cases g : n * es = 0
            · rw [if_pos g]
              have e0 : ((Array.range (n * es)).map fun q => (#[] : Array Value)[q % (#[] : Array Value).size]!) = ((Array.range (n * es)).map fun q => u.cells[q % u.cells.size]!) := by simp [g]
              simp only [Sem.run_bind, Sem.run_pure, Result.andThen_ok, e0]
              rw [hfill]
              simp [newRow]
            · rw [if_neg g]
              have hzr : (zeroValue el).run P w = .ok u w := by simp [zeroValue, typeInfo, h9, h10]
              simp only [Sem.run_bind, hzr, Sem.run_pure, Result.andThen_ok]
              rw [hfill]
              simp [newRow]
          simp [execOp, ho, hrun]
        · exact ⟨w.heap.size, by simp [Env.more, ← F.len], rfl⟩
      · trivial
    · trivial
  · trivial

end Go.Proofs.Ytbimggeapaaliaa
