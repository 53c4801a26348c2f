/- A second way to walk, its laws, fifth part: loads, stores, tests, calls. No condition. -/
import Derived.Test.YtbimggeapaaliaaSxE
namespace Go.Proofs.Ytbimggeapaaliaa
open Go.RowKit
set_option linter.unusedVariables false
set_option linter.unusedSimpArgs false
variable {P : Program} {w : World} {w0 : Base} {T : Tb} {e : Env} {st : St} {a : Act} {s : List Act}

theorem row_cells {b : Nat} {vs : Array Value} {t : TypeId} (hb : w.heap[b]? = some (.cells vs t (0, 0))) (o n : Nat) (hn : o + n ≤ vs.size) : ∀ (j : Nat) (v : Value), ((vs.toList.drop o).take n)[j]? = some v → w.cell? ⟨b, o + j, none⟩ = some v := by
  intro j v h
  rw [cell_of_row w b (o + j) vs t (0, 0) hb]
  simp only [List.getElem?_take, List.getElem?_drop] at h
  split at h
  · simpa using h
  · cases h
theorem cutL_length {α : Type} (l : List α) (o n : Nat) (h : o + n ≤ l.length) : (cutL l o n).length = n := by
  rw [cutL_eq]; simp; omega
theorem Fit.row_at (F : Fit e w0 st a s w) {q : Nat} {R : ORow} {v : Value} (hq : st.r[q]? = some (some R)) (hs : e.sg[q]? = some v) : ∃ xs, OwnR w R.es v R.n xs ∧ ElsIs e.chi R xs := by
  obtain ⟨v', xs, h1, h2, h3⟩ := F.rows.row q R hq
  rw [hs] at h1; cases h1
  exact ⟨xs, h2, h3⟩
theorem OwnR.at {es n n' : Nat} {g o cap : Nat} {xs : List Value} (h : OwnR w es (.slice (some ⟨g, o, none⟩) n' cap) n xs) : n' = n := by
  rcases h.2.2 with ⟨hn, _⟩ | ⟨_, _, _, _, _, hv, _⟩
  · cases hn
  · cases hv; rfl
theorem ok_load {t : Nat} {x : Operand} (hT : TOk P T) (F : Fit e w0 st a s w) (o : Oper) (ho : o.op = .load t x) : OpOk P e st w (opE T e.chi st o.op) ((execOp a.eval o).run P w) := by
  rw [ho]
  simp only [opE]
  have hx := evO_is F.tm x
  generalize evO st x = X at hx
  unfold loadE
  split
  · rename_i k q
    obtain ⟨b, hb, hv⟩ := hx
    split
    · rename_i y cs hy hk
      split
      · rename_i hle
        split
        · rename_i r hr
          rw [nth_eq] at hk
          obtain ⟨vs, u, hw, hl⟩ := F.cells k b cs hb hk
          have hlen := isL_length hl
          simp only [Array.length_toList] at hlen
          obtain ⟨v, h1, h2⟩ := run_loadVar_cells (w := w) (tyB_spec (hT.ty t y hy)) (isL_cut hl q y.size) (cutL_length _ _ _ hle) hr (row_cells hw q y.size (by omega))
          exact ⟨v, h1, by simp [execOp, ho, hv, h2]⟩
        · trivial
      · trivial
    · trivial
  · rename_i k q
    obtain ⟨b, hb, hv⟩ := hx
    split
    · rename_i _ _ zz cs hy hk
      intro c hc
      rw [nth_eq] at hk
      obtain ⟨vs, u, hw, hl⟩ := F.cells k b cs hb hk
      obtain ⟨v, hvv, hcv⟩ := isL_get hl hc
      obtain ⟨i, d, zv, h1, h2, h3, h4, h5, _⟩ := (tyB_spec (hT.ty t _ hy)).ex
      have hcell : w.cell? ⟨b, q, none⟩ = some v := by rw [cell_of_row w b q vs u (0, 0) hw]; simpa using hvv
      refine ⟨v, hcv, ?_⟩
      have hrow : d.isRow = false := h5
      simp [execOp, ho, hv, Instr.loadAt, Instr.sureAddr, loadVar, run_isAgg h2, hrow, hcell]
    · trivial
  · rename_i q i j p
    obtain ⟨hj, b, r, ha, hv⟩ := hx
    split
    · rename_i y hy
      split
      · rename_i hle
        split
        · rename_i z hz
          obtain ⟨b', r', ha', hlt, hnm, _, _, vs, hl, hc⟩ := F.ext.ok q i j hj
          rw [ha] at ha'
          cases ha'
          have hlen := isL_length hl
          obtain ⟨v, h1, h2⟩ := run_loadVar_cells (w := w) (tyB_spec (hT.ty t y hy)) (isL_cut (isL_nil (r := e.rho) hl) p y.size) (cutL_length _ _ _ hle) hz (b := b) (o := r + (j * (e.chi q i).size + p)) (fun s v hs => by
            simp only [List.getElem?_take, List.getElem?_drop] at hs
            split at hs
            · have := hc (p + s) v hs
              rw [show r + (j * (e.chi q i).size + p) + s = r + (j * (e.chi q i).size + (p + s)) from by omega]
              exact this
            · cases hs)
          exact ⟨v, h1, by simp [execOp, ho, hv, h2]⟩
        · trivial
      · trivial
    · trivial
  · rename_i q es j p
    obtain ⟨b, r, n, c, hsg, hj, hv⟩ := hx
    split
    · rename_i y R hy hq
      split
      · rename_i hes
        split
        · rename_i hle
          split
          · rename_i z hz
            rw [nth_eq] at hq
            obtain ⟨xs, hO, hE⟩ := F.row_at hq hsg
            have hn : n = R.n := hO.at
            subst hes
            rw [hn] at hj hO
            have hl := hE j hj
            have hlen := isL_length hl
            obtain ⟨v, h1, h2⟩ := run_loadVar_cells (w := w) (tyB_spec (hT.ty t y hy)) (isL_cut (isL_nil (r := e.rho) (g := e.sg) hl) p y.size) (cutL_length _ _ _ hle) hz (b := b) (o := r + (j * R.es + p)) (fun s v hs => by
              simp only [List.getElem?_take, List.getElem?_drop] at hs
              split at hs
              · split at hs
                · have := hO.cell hs
                  rw [show r + (j * R.es + p) + s = r + (j * R.es + (p + s)) from by omega]
                  exact this
                · cases hs
              · cases hs)
            exact ⟨v, h1, by simp [execOp, ho, hv, h2]⟩
          · trivial
        · trivial
      · trivial
    · trivial
  · trivial
theorem ok_store {t : Nat} {x y : Operand} (hT : TOk P T) (F : Fit e w0 st a s w) (o : Oper) (ho : o.op = .store t x y) : OpOk P e st w (opE T e.chi st o.op) ((execOp a.eval o).run P w) := by
  rw [ho]
  simp only [opE]
  have hx := evO_is F.tm x
  have hy := evO_is F.tm y
  generalize evO st x = X at hx
  generalize evO st y = Y at hy
  unfold storeE
  split
  · rename_i _ k q
    obtain ⟨b, hb, hv⟩ := hx
    split
    · rename_i z cs l hz hk hl
      split
      · rename_i hn
        split
        · rename_i hle
          rw [nth_eq] at hk
          obtain ⟨old, u, hw, hcs⟩ := F.cells k b cs hb hk
          obtain ⟨hly, h1⟩ := SV.cells_is hy hl
          have n1 := isL_length hly
          have n2 := isL_length hcs
          simp only [Array.length_toList] at n1 n2
          obtain ⟨i, d, zv, g1, g2, g3, _⟩ := (tyB_spec (hT.ty t z hz)).ex
          obtain ⟨w', e1, e2, e3, e4, e5, e6, e7⟩ := run_storeCells_own (P := P) (a.eval y).cells.toList 0 w b q old u hw (by simp; omega) h1
          refine ⟨b, w', (a.eval y).cells.toList, old, u, hb, ?_, hly, hw, by simpa using e2, e3, e4, e5, e6, e7⟩
          have hst : (Instr.storeAt t (a.eval x) (a.eval y)).run P w = .ok () w' := by
            simp only [hv, Instr.storeAt, Instr.sureAddr, Sem.run_bind, Sem.run_pure, Result.andThen_ok, storeVar, run_sizeOf' g1]
            rw [if_neg (by omega)]
            exact e1
          simp [execOp, ho, hst]
        · trivial
      · trivial
    · trivial
  · rename_i k q c
    obtain ⟨b, hb, hv⟩ := hx
    split
    · rename_i _ _ zz cs hz hk
      split
      · rename_i hs
        intro hlt
        rw [nth_eq] at hk
        obtain ⟨old, u, hw, hcs⟩ := F.cells k b cs hb hk
        have hy : c.is e (a.eval y) := hy
        have h1 := solid_one hy hs
        have n2 := isL_length hcs
        simp only [Array.length_toList] at n2
        obtain ⟨i, d, zv, g1, g2, g3, _⟩ := (tyB_spec (hT.ty t _ hz)).ex
        obtain ⟨w', e1, e2, e3, e4, e5, e6, e7⟩ := run_storeCells_own (P := P) [a.eval y] 0 w b q old u hw (by simp; omega) (by simpa using h1)
        refine ⟨b, w', [a.eval y], old, u, hb, ?_, ⟨hy, trivial⟩, hw, by simpa using e2, e3, e4, e5, e6, e7⟩
        have hst : (Instr.storeAt t (a.eval x) (a.eval y)).run P w = .ok () w' := by
          have g3' : i.size = 1 := g3
          simp only [hv, Instr.storeAt, Instr.sureAddr, Sem.run_bind, Sem.run_pure, Result.andThen_ok, storeVar, run_sizeOf' g1, cells_of_one h1, g3']
          simpa using e1
        simp [execOp, ho, hst]
      · trivial
    · trivial
  · rename_i _ q es j p
    obtain ⟨b, r, n, c, hsg, hj, hv⟩ := hx
    split
    · rename_i z R l hz hq hl
      split
      · rename_i hes
        split
        · rename_i hn
          split
          · rename_i hle
            split
            · rename_i hfr
              rw [nth_eq] at hq
              obtain ⟨xs, hO, hE⟩ := F.row_at hq hsg
              have hnn : n = R.n := hO.at
              subst hes
              rw [hnn] at hj hO hsg
              obtain ⟨hly, h1⟩ := SV.cells_is hy hl
              have n1 := isL_length hly
              simp only [Array.length_toList] at n1
              obtain ⟨i, d, zv, g1, g2, g3, _⟩ := (tyB_spec (hT.ty t z hz)).ex
              obtain ⟨w', e1, e2, e3, e4⟩ := ownR_store (P := P) hO (p := p) (vs := (a.eval y).cells.toList) hj (by simp; omega) h1
              refine ⟨w', _, _, b, ?_, hsg, rfl, ⟨R, _, hq, hsg, rfl⟩, e2, ?_, e3, e4⟩
              · have hst : (Instr.storeAt t (a.eval x) (a.eval y)).run P w = .ok () w' := by
                  simp only [hv, Instr.storeAt, Instr.sureAddr, Sem.run_bind, Sem.run_pure, Result.andThen_ok, storeVar, run_sizeOf' g1]
                  rw [if_neg (by omega)]
                  exact e1
                simp [execOp, ho, hst]
              · intro i hi
                have hxl := hO.1
                have hies : (i + 1) * R.es ≤ R.n * R.es := Nat.mul_le_mul_right _ hi
                have hjes : (j + 1) * R.es ≤ R.n * R.es := Nat.mul_le_mul_right _ hj
                rw [Nat.succ_mul] at hies hjes
                simp only [hT.up, rUp]
                have hol := hE i hi
                split
                · rename_i hij
                  subst hij
                  have hp := isL_paste hol (freeL_nil hfr hly) p (by have := isL_length hol; simp at this; omega)
                  refine Eq.mp ?_ hp
                  congr 1
                  apply List.ext_getElem?
                  intro q
                  simp only [List.getElem?_take, List.getElem?_drop]
                  rw [pasteL_get _ _ _ _ (by simp; omega), pasteL_get _ _ _ _ (by simp; omega)]
                  simp only [List.getElem?_take, List.getElem?_drop, Array.length_toList]
                  by_cases c1 : q < p
                  · rw [if_pos c1]
                    split
                    · rw [if_pos (by omega)]
                    · rfl
                  · rw [if_neg c1]
                    by_cases c2 : q < p + (a.eval y).cells.size
                    · have c3 : q < R.es := by omega
                      rw [if_pos c2, if_pos c3, if_neg (by omega), if_pos (by omega)]
                      congr 1; omega
                    · rw [if_neg c2]
                      split
                      · rw [if_neg (by omega), if_neg (by omega)]
                      · rfl
                · rename_i hij
                  refine Eq.mp ?_ hol
                  congr 1
                  apply List.ext_getElem?
                  intro q
                  simp only [List.getElem?_take, List.getElem?_drop]
                  split
                  · rw [pasteL_get _ _ _ _ (by simp; omega)]
                    simp only [Array.length_toList]
                    rcases Nat.lt_or_gt_of_ne hij with hlt | hgt
                    · have : (i + 1) * R.es ≤ j * R.es := Nat.mul_le_mul_right _ hlt
                      rw [Nat.succ_mul] at this
                      rw [if_pos (by omega)]
                    · have : (j + 1) * R.es ≤ i * R.es := Nat.mul_le_mul_right _ hgt
                      rw [Nat.succ_mul] at this
                      rw [if_neg (by omega), if_neg (by omega)]
                  · rfl
            · trivial
          · trivial
        · trivial
      · trivial
    · trivial
  · trivial
theorem ok_bin {op : BinOp} {t u : Nat} {x y : Operand} (hT : TOk P T) (tm : isV e st.t a.tmps.toList) (o : Oper) (ho : o.op = .binOp op t x y u) : OpOk P e st w (opE T e.chi st o.op) ((execOp a.eval o).run P w) := by
  rw [ho]
  simp only [opE]
  have hx := evO_is tm x
  have hy := evO_is tm y
  generalize evO st x = X at hx
  generalize evO st y = Y at hy
  unfold binE
  have hnd := hT.nd
  have hnt := hT.nt
  split
  · rename_i k m k' n
    have hx := one_int hx
    have hy := one_int hy
    split
    · intro h0 _
      exact ⟨_, rfl, by simp [execOp, ho, hx, hy, eqGuard_at_int, binOp, Op.shift, hT.ar, rAr, Int.not_lt.2 h0]⟩
    · intro h0 _
      exact ⟨_, rfl, by simp [execOp, ho, hx, hy, eqGuard_at_int, binOp, Op.shift, hT.ar, rAr, Int.not_lt.2 h0]⟩
    · split
      · rename_i hk
        subst hk
        cases op <;> first
          | trivial
          | exact ⟨_, rfl, by simp [execOp, ho, hx, hy, eqGuard_at_int, binOp, Op.intArith, Op.intBits, Op.intCmp, hT.ar, hT.cm, hT.nt, rAr, rCm, bne]⟩
      · trivial
  · rename_i l l'
    obtain ⟨vs, hvs, hl⟩ := hx
    obtain ⟨vs', hvs', hl'⟩ := hy
    split
    · rename_i s z fs hz
      split
      · rename_i hlike
        simp only [Bool.and_eq_true] at hlike
        have hcmp := hT.cmp t s z fs hz
        have hgt : P.eqGuardType P.depth t = false ∧ ∃ us, P.underlying t = some (.struct us) := by
          obtain ⟨i, d, zv, g1, g2, g3, g4, g5, g6, g7, fl, rfl, g8⟩ := (tyB_spec (hT.ty t _ hz)).ex
          unfold cmpB at hcmp
          rw [g2] at hcmp
          simp only [Bool.and_eq_true, Bool.not_eq_true'] at hcmp
          exact ⟨hcmp.1.2, _, g2⟩
        obtain ⟨hg, us, hus⟩ := hgt
        split
        · rename_i b heq
          rw [hnd] at heq
          have := cmp_run (w := w) e 5 t z hcmp 10000 (by omega) _ hus l l' vs.toList vs'.toList b hlike.1 hlike.2 hl hl' heq
          simp only [packV, if_true] at this
          refine ⟨.bool b, rfl, ?_⟩
          have hbo : (binOp .eql t (.agg vs) (.agg vs')).run P w = .ok (.bool b) w := by rw [run_eql_struct, this]; rfl
          simp [execOp, ho, hvs, hvs', run_eqGuard_agg _ _ _ _ _ _ _ hg, hbo]
        · rename_i b heq
          rw [hnd] at heq
          have := cmp_run (w := w) e 5 t z hcmp 10000 (by omega) _ hus l l' vs.toList vs'.toList b hlike.1 hlike.2 hl hl' heq
          simp only [packV, if_true] at this
          refine ⟨.bool (!b), by rw [hnt]; rfl, ?_⟩
          have hbo : (binOp .neq t (.agg vs) (.agg vs')).run P w = .ok (.bool (!b)) w := by rw [run_neq_struct, this]; rfl
          simp [execOp, ho, hvs, hvs', run_eqGuard_agg _ _ _ _ _ _ _ hg, hbo]
        · trivial
      · trivial
    · trivial
  · trivial
theorem ok_not {t : Nat} {x : Operand} (hT : TOk P T) (tm : isV e st.t a.tmps.toList) (o : Oper) (ho : o.op = .unOp .not t x) : OpOk P e st w (opE T e.chi st o.op) ((execOp a.eval o).run P w) := by
  rw [ho]
  simp only [opE]
  have hx := evO_is tm x
  generalize evO st x = X at hx
  split
  · have := one_bool hx
    exact ⟨_, rfl, by simp [execOp, ho, this, Op.unary, hT.nt]⟩
  · have := one_lit hx
    exact ⟨_, rfl, by simp [execOp, ho, this, Op.unary]⟩
  · trivial
theorem fieldAt_run {s f : Nat} {sz : Nat} {z : List SC} {fs : List (Nat × Nat × Bool)} {cmp : Bool} (hT : TOk P T) (hs : T.ty s = some (.struct sz z fs cmp)) {d n : Nat} {g : Bool} (hf : nth fs f = some (d, n, g)) (b o : Nat) :
    (Instr.fieldAt s (.pointer (some ⟨b, o, none⟩)) f).run P w = .ok (.pointer (some ⟨b, o + d, none⟩)) w := by
  obtain ⟨i, dd, zv, g1, g2, g3, g4, g5, g6, g7, fl, rfl, g8⟩ := (tyB_spec (hT.ty s _ hs)).ex
  rw [nth_eq] at hf
  obtain ⟨fd, k1, k2, k3⟩ := fieldsB_get g8 hf
  obtain ⟨i', d', l1, l2, l3, l4, l5, l6⟩ := elB_spec k3
  have k1' : fl[f]? = some fd := by simpa using k1
  simp only at k2 l3
  have l5' : 0 < n := l5
  have hne : ¬ i'.size = 0 := by rw [l3]; omega
  simp only [Instr.fieldAt, Sem.run_bind, run_underlying g2, Result.andThen_ok, k1', Instr.sureAddr, Sem.run_pure, fieldPlace, run_sizeOf' l1, hne, if_false, add_lit', k2]
theorem ok_fieldAddr {r f : Nat} {x : Operand} (hT : TOk P T) (tm : isV e st.t a.tmps.toList) (o : Oper) (ho : o.op = .fieldAddr r x f) : OpOk P e st w (opE T e.chi st o.op) ((execOp a.eval o).run P w) := by
  rw [ho]
  simp only [opE]
  have hx := evO_is tm x
  generalize evO st x = X at hx
  unfold fieldE
  split
  · obtain ⟨b, hb, hv⟩ := hx
    split
    · rename_i hs
      split
      · rename_i hf
        exact ⟨_, ⟨b, hb, rfl⟩, by simp [execOp, ho, hv, fieldAt_run hT hs hf]⟩
      · trivial
    · trivial
  · obtain ⟨hj, b, r, ha, hv⟩ := hx
    split
    · rename_i hs
      split
      · rename_i hf
        refine ⟨_, ⟨hj, b, r, ha, rfl⟩, ?_⟩
        simp [execOp, ho, hv, fieldAt_run hT hs hf, Nat.add_assoc]
      · trivial
    · trivial
  · obtain ⟨b, r, n, c, hsg, hj, hv⟩ := hx
    split
    · rename_i hs
      split
      · rename_i hf
        refine ⟨_, ⟨b, r, n, c, hsg, hj, rfl⟩, ?_⟩
        simp [execOp, ho, hv, fieldAt_run hT hs hf, Nat.add_assoc]
      · trivial
    · trivial
  · trivial
theorem ok_field {r f : Nat} {x : Operand} (hT : TOk P T) (tm : isV e st.t a.tmps.toList) (o : Oper) (ho : o.op = .field r x f) : OpOk P e st w (opE T e.chi st o.op) ((execOp a.eval o).run P w) := by
  rw [ho]
  simp only [opE]
  have hx := evO_is tm x
  generalize evO st x = X at hx
  unfold partE
  split
  · rename_i l
    obtain ⟨vs, hv, hl⟩ := hx
    split
    · rename_i hs
      split
      · rename_i d n g hf
        split
        · rename_i hle
          split
          · rename_i rr hr
            obtain ⟨i, dd, zv, g1, g2, g3, g4, g5, g6, g7, fl, rfl, g8⟩ := (tyB_spec (hT.ty r _ hs)).ex
            rw [nth_eq] at hf
            obtain ⟨fd, k1, k2, k3⟩ := fieldsB_get g8 hf
            obtain ⟨i', d', l1, l2, l3, l4, l5, l6⟩ := elB_spec k3
            simp only at k2 l3 l4 l6
            have k1' : fl[f]? = some fd := by simpa using k1
            have hlen := isL_length hl
            simp only [Array.length_toList] at hlen
            have hp := run_part (w := w) l1 l2 l3 (by rw [l4]; cases g; exact .inr (l6 rfl); exact .inl rfl) vs (o := d) (by omega)
            have hrun : (Instr.field r (.agg vs) f).run P w = .ok (packV d'.isRow ((vs.toList.drop d).take n)) w := by
              simp only [Instr.field, Sem.run_bind, run_underlying g2, Result.andThen_ok, k1', asAgg, Sem.run_pure, k2, hp]
            refine ⟨packV d'.isRow ((vs.toList.drop d).take n), ?_, by simp [execOp, ho, hv, hrun]⟩
            have hc := isL_cut hl d n
            rw [l4]
            unfold ofCells at hr
            cases g with
            | true =>
              simp only [if_true] at hr
              cases hr
              exact ⟨_, rfl, by simpa using hc⟩
            | false =>
              simp only [Bool.false_eq_true, if_false] at hr
              split at hr
              · rename_i c hcc
                cases hr
                rw [hcc] at hc
                generalize (vs.toList.drop d).take n = us at hc
                match us, hc with
                | [u], hc => exact hc.1
              · cases hr
          · trivial
        · trivial
      · trivial
    · trivial
  · trivial
theorem ok_index {t : Nat} {x y : Operand} (hT : TOk P T) (tm : isV e st.t a.tmps.toList) (o : Oper) (ho : o.op = .index t x y) : OpOk P e st w (opE T e.chi st o.op) ((execOp a.eval o).run P w) := by
  rw [ho]
  simp only [opE]
  have hx := evO_is tm x
  have hy := evO_is tm y
  generalize evO st x = X at hx
  generalize evO st y = Y at hy
  unfold elemE
  split
  · rename_i l k n0
    obtain ⟨vs, hv, hl⟩ := hx
    have hy' : a.eval y = .int k (.ofNat n0) := hy
    split
    · rename_i n z hs
      split
      · rename_i hln
        intro c hc
        obtain ⟨i, d, zv, g1, g2, g3, g4, g5, g6, g7, el, rfl, g8⟩ := (tyB_spec (hT.ty t _ hs)).ex
        obtain ⟨i', d', l1, l2, l3, l4, l5, l6⟩ := elB_spec g8
        have hlen := isL_length hl
        simp only [Array.length_toList] at hlen
        obtain ⟨v, hv1, hv2⟩ := isL_get hl hc
        have hlt : n0 < n := by rw [← hln]; exact (List.getElem?_eq_some_iff.1 hc).1
        have hp := run_part (w := w) l1 l2 l3 (.inr rfl) vs (o := n0 * 1) (by omega)
        have hrun : (Instr.index t (.agg vs) (.int k (.ofNat n0))).run P w = .ok (packV d'.isRow ((vs.toList.drop (n0 * 1)).take 1)) w := by
          simp [Instr.index, asIntOf, run_underlying g2, hlt, run_sizeOf' l1, l3]
          simpa using hp
        refine ⟨v, hv2, ?_⟩
        have hpk : packV d'.isRow ((vs.toList.drop (n0 * 1)).take 1) = v := by
          rw [l4, Nat.mul_one]
          obtain ⟨hb, hb'⟩ := List.getElem?_eq_some_iff.1 hv1
          rw [List.drop_eq_getElem_cons hb, hb']
          simp [packV]
        rw [hpk] at hrun
        simp [execOp, ho, hv, hy', hrun, -Int.ofNat_eq_natCast]
      · trivial
    · rename_i n es ea z _ hs
      split
      · rename_i hlt
        split
        · rename_i hle
          split
          · rename_i rr hr
            obtain ⟨i, d, zv, g1, g2, g3, g4, g5, g6, g7, el, rfl, g8⟩ := (tyB_spec (hT.ty t _ hs)).ex
            obtain ⟨i', d', l1, l2, l3, l4, l5, l6⟩ := elB_spec g8
            have hlen := isL_length hl
            simp only [Array.length_toList] at hlen
            have hp := run_part (w := w) l1 l2 l3 (by rw [l4]; cases ea; exact .inr (l6 rfl); exact .inl rfl) vs (o := n0 * es) (by omega)
            have hrun : (Instr.index t (.agg vs) (.int k (.ofNat n0))).run P w = .ok (packV d'.isRow ((vs.toList.drop (n0 * es)).take es)) w := by
              have h0 : (0 : Int) ≤ Int.ofNat n0 := Int.natCast_nonneg n0
              have h1 : Int.ofNat n0 < (n : Int) := by simpa using hlt
              simp [Instr.index, asIntOf, run_underlying g2, hlt, run_sizeOf' l1, l3, hp]
            refine ⟨packV d'.isRow ((vs.toList.drop (n0 * es)).take es), ?_, by simp [execOp, ho, hv, hy', hrun, -Int.ofNat_eq_natCast]⟩
            have hc := isL_cut hl (n0 * es) es
            rw [l4]
            unfold ofCells at hr
            cases ea with
            | true =>
              simp only [if_true] at hr
              cases hr
              exact ⟨_, rfl, by simpa using hc⟩
            | false =>
              simp only [Bool.false_eq_true, if_false] at hr
              split at hr
              · rename_i c hcc
                cases hr
                rw [hcc] at hc
                generalize (vs.toList.drop (n0 * es)).take es = us at hc
                match us, hc with
                | [u], hc => exact hc.1
              · cases hr
          · trivial
        · trivial
      · trivial
    · trivial
  · trivial
theorem indexAt_slice {t : Nat} {es : Nat} {ea : Bool} {z : List SC} (hT : TOk P T) (ht : T.ty t = some (.slice es ea z)) (b o n c : Nat) (k : IntKind) (x : Int) (h0 : 0 ≤ x) (h1 : x < n) :
    (Instr.indexAt t (.slice (some ⟨b, o, none⟩) n c) (.int k x)).run P w = .ok (.pointer (some ⟨b, o + x.toNat * es, none⟩)) w := by
  obtain ⟨i, d, zv, g1, g2, g3, g4, g5, g6, g7, el, j, u, rfl, g8, g9, _⟩ := (tyB_spec (hT.ty t _ ht)).ex
  obtain ⟨i', d', l1, l2, l3, _⟩ := elB_spec g8
  simp [Instr.indexAt, asIntOf, run_underlying g2, h0, h1, run_sizeOf' l1, l3, add_lit']
theorem indexAt_arr {t : Nat} {n es : Nat} {ea : Bool} {z : List SC} (hT : TOk P T) (ht : T.ty t = some (.arr n es ea z)) (b o : Nat) (k : IntKind) (x : Int) (h0 : 0 ≤ x) (h1 : x < n) :
    (Instr.indexAt t (.pointer (some ⟨b, o, none⟩)) (.int k x)).run P w = .ok (.pointer (some ⟨b, o + x.toNat * es, none⟩)) w := by
  obtain ⟨i, d, zv, g1, g2, g3, g4, g5, g6, g7, el, rfl, g8⟩ := (tyB_spec (hT.ty t _ ht)).ex
  obtain ⟨i', d', l1, l2, l3, _⟩ := elB_spec g8
  simp [Instr.indexAt, asIntOf, run_underlying g2, h0, h1, run_sizeOf' l1, l3, add_lit', Instr.sureAddr]
theorem ok_indexAddr {t : Nat} {x y : Operand} (hT : TOk P T) {w' : World} (F : Fit e w0 st a s w') (o : Oper) (ho : o.op = .indexAddr t x y) : OpOk P e st w (opE T e.chi st o.op) ((execOp a.eval o).run P w) := by
  rw [ho]
  simp only [opE]
  have hx := evO_is F.tm x
  have hy := evO_is F.tm y
  generalize evO st x = X at hx
  generalize evO st y = Y at hy
  unfold indexE
  split
  · rename_i q i k v
    have hy := one_int hy
    have hx : a.eval x = .slice (e.chi q i).a (e.chi q i).n (e.chi q i).c := hx
    split
    · rename_i es ea z hz
      split
      · rename_i hes
        intro h0 h1
        obtain ⟨b, p, ha, _⟩ := F.ext.ok q i v.toNat (by omega)
        refine ⟨_, ⟨by omega, b, p, ha, rfl⟩, ?_⟩
        rw [ha] at hx
        simp [execOp, ho, hx, hy, indexAt_slice hT hz _ _ _ _ _ _ h0 h1, hes]
      · trivial
    · trivial
  · rename_i k' p n c k v
    have hy := one_int hy
    obtain ⟨b, hb, hx⟩ := hx
    split
    · rename_i es ea z hz
      intro h0 h1
      exact ⟨_, ⟨b, hb, rfl⟩, by simp [execOp, ho, hx, hy, indexAt_slice hT hz _ _ _ _ _ _ h0 h1]⟩
    · trivial
  · rename_i k' p k v
    have hy := one_int hy
    obtain ⟨b, hb, hx⟩ := hx
    split
    · rename_i n es ea z hz
      intro h0 h1
      exact ⟨_, ⟨b, hb, rfl⟩, by simp [execOp, ho, hx, hy, indexAt_arr hT hz _ _ _ _ h0 h1]⟩
    · trivial
  · rename_i q k v
    have hy := one_int hy
    obtain ⟨hsg, _⟩ := hx
    split
    · rename_i es ea z R hz hq
      split
      · rename_i hes
        intro h0 h1
        rw [nth_eq] at hq
        obtain ⟨xs, hO, _⟩ := F.row_at hq hsg
        subst hes
        rcases hO.2.2 with ⟨_, hn⟩ | ⟨g, o', cap, cur, ty, hv, _⟩
        · omega
        · rw [hv] at hsg
          exact ⟨_, ⟨g, o', R.n, cap, hsg, by omega, rfl⟩, by simp [execOp, ho, hv, hy, indexAt_slice hT hz _ _ _ _ _ _ h0 h1]⟩
      · trivial
    · trivial
  · trivial
theorem ok_convert {sr ds : Nat} {x : Operand} (hT : TOk P T) (tm : isV e st.t a.tmps.toList) (o : Oper) (ho : o.op = .convert sr ds x) : OpOk P e st w (opE T e.chi st o.op) ((execOp a.eval o).run P w) := by
  rw [ho]
  simp only [opE]
  have hx := evO_is tm x
  generalize evO st x = X at hx
  split
  · rename_i y k z k' n h1 h2
    have hx := one_int hx
    obtain ⟨i, d, zv, g1, g2, _⟩ := (tyB_spec (hT.ty sr _ h1)).ex
    obtain ⟨i', d', zv', l1, l2, l3, l4, l5, l6, l7, l8⟩ := (tyB_spec (hT.ty ds _ h2)).ex
    simp only at l8
    subst l8
    exact ⟨_, rfl, by simp [execOp, ho, hx, convert, run_underlying g2, run_underlying l2, Conv.intToInt, hT.ar, rAr]⟩
  · trivial
theorem ok_extract {x : Operand} {i : Nat} (tm : isV e st.t a.tmps.toList) (o : Oper) (ho : o.op = .extract x i) : OpOk P e st w (opE T e.chi st o.op) ((execOp a.eval o).run P w) := by
  rw [ho]
  simp only [opE]
  have hx := evO_is tm x
  generalize evO st x = X at hx
  split
  · obtain ⟨vs, hv, hl⟩ := hx
    split
    · rename_i r hr
      rw [nth_eq] at hr
      obtain ⟨v, h1, h2⟩ := isA_get hl hr
      have h1' : vs[i]? = some v := by simpa using h1
      exact ⟨v, h2, by simp [execOp, ho, hv, Instr.extract, h1']⟩
    · trivial
  · trivial
theorem capE_is : ∀ {l : List SV} {vs : List Value} {r : List (Nat × Nat)}, isV e l vs → capE l = some r → capIs e r vs
  | [], [], r, _, h => by simp [capE] at h; subst h; trivial
  | [], _ :: _, _, h, _ => h.elim
  | _ :: _, [], _, h, _ => h.elim
  | x :: l, v :: vs, r, hi, h => by
    unfold capE at h
    split at h
    · rename_i h0; cases h0
    · rename_i k o l' h0
      cases h0
      split at h
      · rename_i r' hr
        cases h
        exact ⟨hi.1, capE_is hi.2 hr⟩
      · cases h
    · cases h
theorem capV_is : ∀ {r : List (Nat × Nat)} {vs : List Value}, capIs e r vs → isV e (capV r) vs
  | [], [], _ => trivial
  | (k, o) :: r, v :: vs, h => ⟨h.1, capV_is h.2⟩
  | [], _ :: _, h => h.elim
  | _ :: _, [], h => h.elim
theorem ok_makeFunc {fn : Fn} {fi ca : Array Operand} (tm : isV e st.t a.tmps.toList) (o : Oper) (ho : o.op = .makeFunc fn fi ca) : OpOk P e st w (opE T e.chi st o.op) ((execOp a.eval o).run P w) := by
  rw [ho]
  unfold opE
  split <;> try trivial
  all_goals first | (rename_i h; cases h; done) | skip
  rename_i f first cap h
  cases h
  split
  · rename_i l hf hc
    have := capE_is (evOs_is tm ca.toList) hc
    refine ⟨.func (.func f) #[] (ca.map a.eval), ⟨_, rfl, by simpa using this⟩, ?_⟩
    have : fi = #[] := by simpa using hf
    simp [execOp, ho, Instr.makeFunc, this]
  · trivial

theorem litN_is (tm : isV e st.t a.tmps.toList) {x : Operand} {n : Nat} (h : litN st x = some n) : ∃ k, a.eval x = .int k (.ofNat n) := by
  have hx := evO_is tm x
  unfold litN at h
  split at h
  · rename_i k m hm
    cases h
    rw [hm] at hx
    exact ⟨k, one_int hx⟩
  · cases h
theorem sliceBound_lit {k : IntKind} {n y : Nat} (h : n ≤ y) (code : BoundsCode) : (Instr.sliceBound (.int k (.ofNat n)) y code).run P w = .ok n w := by
  have h0 : (0 : Int) ≤ Int.ofNat n := Int.natCast_nonneg n
  have h1 : Int.ofNat n ≤ (y : Int) := by simp only [Int.ofNat_eq_natCast]; omega
  simp only [Instr.sliceBound, asIntOf, Sem.run_bind, Sem.run_pure, Result.andThen_ok, h0, h1, and_self, if_true]
  rfl
theorem bounds_ok (tm : isV e st.t a.tmps.toList) {isS : Bool} {len cap : Nat} {lo hi mx : Option Operand} {l h m : Nat} (hb : boundsE st len cap lo hi mx = some (l, h, m)) :
    (Instr.sliceBounds isS len cap (lo.map a.eval) (hi.map a.eval) (mx.map a.eval)).run P w = .ok (l, h, m) w := by
  unfold boundsE at hb
  split at hb
  · rename_i m' h' l' hm hh hl
    split at hb
    · rename_i g1
      split at hb
      · rename_i g2
        split at hb
        · rename_i g3
          cases hb
          unfold Instr.sliceBounds
          cases mx with
          | none =>
            simp only [Option.some.injEq] at hm
            subst hm
            simp only [Option.map_none, Sem.run_bind, Sem.run_pure, Result.andThen_ok]
            cases hi with
            | none =>
              simp only [Option.some.injEq] at hh
              subst hh
              simp only [Option.map_none, Sem.run_bind, Sem.run_pure, Result.andThen_ok]
              cases lo with
              | none => simp only [Option.some.injEq] at hl; subst hl; simp
              | some x =>
                obtain ⟨k, hk⟩ := litN_is tm hl
                simp only [Option.map_some, hk, Sem.run_bind, sliceBound_lit g3, Result.andThen_ok, Sem.run_pure]
            | some y =>
              obtain ⟨k, hk⟩ := litN_is tm hh
              simp only [Option.map_some, hk, Sem.run_bind, sliceBound_lit g2, Result.andThen_ok]
              cases lo with
              | none => simp only [Option.some.injEq] at hl; subst hl; simp
              | some x =>
                obtain ⟨k, hk⟩ := litN_is tm hl
                simp only [Option.map_some, hk, Sem.run_bind, sliceBound_lit g3, Result.andThen_ok, Sem.run_pure]
          | some z =>
            obtain ⟨k, hk⟩ := litN_is tm hm
            simp only [Option.map_some, hk, Sem.run_bind, sliceBound_lit g1, Result.andThen_ok]
            cases hi with
            | none => cases hh
            | some y =>
              obtain ⟨k, hk⟩ := litN_is tm hh
              simp only [Option.map_some, hk, Sem.run_bind, sliceBound_lit g2, Result.andThen_ok]
              cases lo with
              | none => simp only [Option.some.injEq] at hl; subst hl; simp
              | some x =>
                obtain ⟨k, hk⟩ := litN_is tm hl
                simp only [Option.map_some, hk, Sem.run_bind, sliceBound_lit g3, Result.andThen_ok, Sem.run_pure]
        · cases hb
      · cases hb
    · cases hb
  · cases hb
theorem bounds_lo {len cap l : Nat} {k : IntKind} (hl : l ≤ len) : (Instr.sliceBounds true len cap (some (.int k (.ofNat l))) none none).run P w = .ok (l, len, cap) w := by
  unfold Instr.sliceBounds
  simp only [Sem.run_bind, Sem.run_pure, Result.andThen_ok, sliceBound_lit hl]
/-- Values of rows know their lengths. -/
def RL (e : Env) (st : St) : Prop := ∀ (q : Nat) (R : ORow) (v : Value), st.r[q]? = some (some R) → e.sg[q]? = some v → ∃ a c, v = .slice a R.n c
theorem Fit.rl (F : Fit e w0 st a s w) : RL e st := fun q R v hq hs => by
  obtain ⟨xs, hO, _⟩ := F.row_at hq hs
  exact hO.form
theorem ok_slice {t : Nat} {x : Operand} {lo hi mx : Option Operand} (hT : TOk P T) (F : Fit e w0 st a s w) (o : Oper) (ho : o.op = .slice t x lo hi mx) : OpOk P e st w (opE T e.chi st o.op) ((execOp a.eval o).run P w) := by
  rw [ho]
  simp only [opE]
  have hx := evO_is F.tm x
  generalize evO st x = X at hx
  unfold sliceE
  split
  · rename_i k p _ _ _
    obtain ⟨b, hb, hv⟩ := hx
    split
    · rename_i n es ea z hz
      split
      · rename_i l h m hbo
        obtain ⟨i, d, zv, g1, g2, g3, g4, g5, g6, g7, el, rfl, g8⟩ := (tyB_spec (hT.ty t _ hz)).ex
        obtain ⟨i', d', l1, l2, l3, _⟩ := elB_spec g8
        refine ⟨_, ⟨b, hb, rfl⟩, ?_⟩
        simp [execOp, ho, hv, Instr.sliceAt, run_underlying g2, Instr.sureAddr, bounds_ok F.tm hbo, run_sizeOf' l1, l3, add_lit']
        split <;> rfl
      · trivial
    · trivial
  · rename_i k p n c _ _ _
    obtain ⟨b, hb, hv⟩ := hx
    split
    · rename_i es ea z hz
      split
      · rename_i l h m hbo
        obtain ⟨i, d, zv, g1, g2, g3, g4, g5, g6, g7, el, j, u, rfl, g8, _⟩ := (tyB_spec (hT.ty t _ hz)).ex
        obtain ⟨i', d', l1, l2, l3, _⟩ := elB_spec g8
        refine ⟨_, ⟨b, hb, rfl⟩, ?_⟩
        simp [execOp, ho, hv, Instr.sliceAt, Instr.slice, run_underlying g2, bounds_ok F.tm hbo, run_sizeOf' l1, l3, add_lit']
        split <;> rfl
      · trivial
    · trivial
  · rename_i q y
    obtain ⟨hsg, _⟩ := hx
    split
    · rename_i es ea z R l hz hq hl
      split
      · rename_i hes
        intro hle
        rw [nth_eq] at hq
        obtain ⟨xs, hO, hE⟩ := F.row_at hq hsg
        obtain ⟨ao, c, hv⟩ := hO.form
        rw [hv] at hO hsg
        have hlt : q < st.r.length := (List.getElem?_eq_some_iff.1 hq).1
        have hlt' : q < e.sg.length := (List.getElem?_eq_some_iff.1 hsg).1
        obtain ⟨i, d, zv, g1, g2, g3, g4, g5, g6, g7, el, j, u, rfl, g8, _⟩ := (tyB_spec (hT.ty t _ hz)).ex
        obtain ⟨i', d', l1, l2, l3, _⟩ := elB_spec g8
        obtain ⟨k, hk⟩ := litN_is F.tm hl
        have hcut := hO.cut hle
        refine ⟨.slice (if c = l then ao else ao.map (·.add (l * R.es))) (R.n - l) (c - l), w, ?_, .slice (if c = l then ao else ao.map (·.add (l * R.es))) (R.n - l) (c - l), xs.drop (l * R.es), none, ?_, ?_, ?_, ⟨rfl, rfl, rfl, Nat.le_refl _, fun _ _ _ => rfl⟩, fun g hg => (by cases hg), fun g hg => ?_, by omega, fun _ => rfl⟩
        · simp only [Option.map_some, Option.map_none, execOp, ho, hv, hk, Instr.sliceAt, Sem.run_bind, Instr.slice, run_underlying g2, Result.andThen_ok, bounds_lo hle, run_sizeOf' l1, l3, Sem.run_pure, hes]
        · rw [if_pos hlt]
          exact ⟨by simp [Env.putS, hlt'], rfl⟩
        · simp only [hT.mi]
          rw [← hes]; exact hcut
        · intro j hj
          simp only [hT.mi] at hj
          have := hE (j + l) (by omega)
          simp only [hT.dp, rDp, List.drop_drop]
          rw [← hes, ← Nat.add_mul, Nat.add_comm l j]
          exact this
        · have : (Value.slice ao R.n c).ownBlock = some g := by
            cases ao with
            | none => revert hg; by_cases hh : c = l <;> simp [hh, Value.ownBlock]
            | some ad =>
              revert hg
              by_cases hh : c = l
              · simp [hh, Value.ownBlock]
              · rw [if_neg hh]
                simp only [Option.map_some, Value.ownBlock, Option.some.injEq]
                intro hg
                rw [← hg]
                unfold Addr.add
                split <;> simp_all
          have hR : HasR e st q g := ⟨R, _, hq, hsg, this⟩
          exact ⟨F.rows.hi q g hR, .inr (.inl hR)⟩
      · trivial
    · trivial
  · trivial
theorem scB_one {c : SC} {v : Value} (h : scB c v = true) : v.oneCell' = true := by
  unfold scB at h
  split at h <;> first | rfl | (cases h)
theorem scsB_one : ∀ {l : List SC} {vs : List Value}, scsB l vs = true → ∀ u ∈ vs, u.oneCell' = true
  | [], [], _, u, hu => by simp at hu
  | c :: l, v :: vs, h, u, hu => by
    simp only [scsB, Bool.and_eq_true] at h
    rcases List.mem_cons.1 hu with rfl | hu
    · exact scB_one h.1
    · exact scsB_one h.2 u hu
  | [], _ :: _, h, _, _ => by simp [scsB] at h
  | _ :: _, [], h, _, _ => by simp [scsB] at h
theorem lenM_eq {α : Type} : ∀ l : List α, lenM l = l.length
  | [] => rfl
  | _ :: l => by simp [lenM, lenM_eq l]
theorem ok_make {t : Nat} {x y : Operand} (hT : TOk P T) (F : Fit e w0 st a s w) (o : Oper) (ho : o.op = .makeSlice t x y) : OpOk P e st w (opE T e.chi st o.op) ((execOp a.eval o).run P w) := by
  rw [ho]
  simp only [opE]
  have hx := evO_is F.tm x
  have hy := evO_is F.tm y
  generalize evO st x = X at hx
  generalize evO st y = Y at hy
  unfold makeE
  split
  · rename_i k1 v1 k2 v2
    have hx := one_int hx
    have hy := one_int hy
    split
    · rename_i es ea z hz
      rintro ⟨rfl, h0, h1⟩
      obtain ⟨i, d, zv, g1, g2, g3, g4, g5, g6, g7, el, j, u, rfl, g8, g9, g10, g11, g12, g13⟩ := (tyB_spec (hT.ty t _ hz)).ex
      obtain ⟨i', d', l1, l2, l3, l4, l5, l6⟩ := elB_spec g8
      rw [g9] at l1; cases l1
      have hz := scsB_is e g11
      have hzl := isL_length hz
      simp only [Array.length_toList] at hzl
      have hus : u.cells.size = es := by omega
      obtain ⟨w', e1, e2, e3, e4⟩ := ownR_make (P := P) (w := w) t el j u es g2 g9 g10 l3 hus l5 g13 (scsB_one g11) k1 k2 v1 h0 h1
      rw [lenM_eq]
      refine ⟨.slice (some ⟨w.heap.size, 0, none⟩) v1.toNat v1.toNat, w', by simp [execOp, ho, hx, hy, e1], .slice (some ⟨w.heap.size, 0, none⟩) v1.toNat v1.toNat, _, none, ?_, e2, ?_, e3, fun g hg => (by cases hg), fun g hg => ?_, Nat.le_refl _, fun hh => absurd hh (Nat.lt_irrefl _)⟩
      · rw [if_neg (Nat.lt_irrefl _)]
        exact ⟨by simp [Env.addS, ← F.rows.len], rfl⟩
      · intro q hq
        simp only
        rw [repL_cut _ (by simpa using hus) l5 hq]
        exact scsB_is _ g11
      · simp only [Value.ownBlock, Option.some.injEq] at hg
        subst hg
        exact ⟨by omega, .inl (Nat.le_refl _)⟩
    · trivial
  · trivial

end Go.Proofs.Ytbimggeapaaliaa
