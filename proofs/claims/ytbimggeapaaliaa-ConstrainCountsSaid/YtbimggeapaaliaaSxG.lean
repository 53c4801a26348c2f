/- A second way to walk, its laws, sixth part: what the evaluator's answer asks. No condition. -/
import Derived.Test.YtbimggeapaaliaaSxF
import Derived.OrdersHeld
namespace Go.Proofs.Ytbimggeapaaliaa
open Go.RowKit
set_option linter.unusedVariables false
set_option linter.unusedSimpArgs false
variable {P : Program} {w : World} {w0 : Base} {T : Tb} {e : Env} {st : St} {a : Act} {s : List Act}

theorem src_at (F : Fit e w0 st a s w) {es m : Nat} {g : Nat → List SC} {ob : Prop} {Y : SV} {u : Value} (hy : Y.is e u) (h : srcE e.chi st es Y = some (m, g, ob)) (hob : ob) : ∃ news, SrcAt w es u m news ∧ ElsIs e.chi ⟨m, es, g⟩ news := by
  unfold srcE at h
  split at h
  · simp only [Option.some.injEq, Prod.mk.injEq] at h
    obtain ⟨rfl, rfl, rfl⟩ := h
    refine ⟨[], ⟨by simp, by simp, .inl ⟨⟨0, hy⟩, rfl⟩⟩, fun j hj => by simp at hj⟩
  · rename_i k p n c
    obtain ⟨b, hb, hv⟩ := hy
    split at h
    · rename_i cs hk
      split at h
      · rename_i hle
        split at h
        · rename_i hfs
          simp only [Option.some.injEq, Prod.mk.injEq] at h
          obtain ⟨rfl, rfl, rfl⟩ := h
          simp only [Bool.and_eq_true] at hfs
          rw [nth_eq] at hk
          obtain ⟨vs, t, hw, hl⟩ := F.cells k b cs hb hk
          have hlen := isL_length hl
          simp only [Array.length_toList] at hlen
          refine ⟨(vs.toList.drop p).take (n * es), ⟨by simp; omega, fun u hu => solidL_one hl hfs.2 u (List.mem_of_mem_drop (List.mem_of_mem_take hu)), .inr ⟨⟨b, p, none⟩, c, hv, fun j x hj => ?_⟩⟩, fun j hj => ?_⟩
          · rw [Addr.add_mid]
            exact row_cells hw p (n * es) (by omega) j x hj
          · have hj : j < n := hj
            have hje : (j + 1) * es ≤ n * es := Nat.mul_le_mul_right _ hj
            rw [Nat.succ_mul] at hje
            have := isL_cut (freeL_nil hfs.1 hl) (p + j * es) es
            refine Eq.mp ?_ this
            congr 1
            rw [List.drop_take, List.drop_drop, List.take_take]
            congr 1
            simp only
            omega
        · cases h
      · cases h
    · cases h
  · rename_i q i
    have hv : u = .slice (e.chi q i).a (e.chi q i).n (e.chi q i).c := hy
    split at h
    · rename_i hes
      simp only [Option.some.injEq, Prod.mk.injEq] at h
      obtain ⟨rfl, rfl, rfl⟩ := h
      by_cases hn : (e.chi q i).n = 0
      · refine ⟨[], ⟨by simp [hn], by simp, ?_⟩, fun j hj => ?_⟩
        · rw [hn] at hv
          cases ha : (e.chi q i).a with
          | none => exact .inl ⟨⟨_, by rw [hv, ha]⟩, hn⟩
          | some ad => exact .inr ⟨ad, _, by rw [hv, ha, hn], fun j x hj => by simp at hj⟩
        · have hj : j < (e.chi q i).n := hj
          omega
      · have hes0 : ∀ j, j < (e.chi q i).n → ∃ vs, vs.length = es ∧ isL ⟨[], e.chi, []⟩ ((e.chi q i).el j) vs ∧ (∀ x ∈ vs, x.oneCell' = true) := fun j hj => by
          obtain ⟨b, p, h1, h2, h3, h4, h5, vs, h6, h7⟩ := F.ext.ok q i j hj
          have := isL_length h6
          exact ⟨vs, by rw [← this]; exact (hob j hj).2, h6, solidL_one h6 (hob j hj).1⟩
        obtain ⟨b, p, ha, _⟩ := F.ext.ok q i 0 (by omega)
        have key : ∀ j, j < (e.chi q i).n → ∃ vs, vs.length = es ∧ isL ⟨[], e.chi, []⟩ ((e.chi q i).el j) vs ∧ (∀ x ∈ vs, x.oneCell' = true) ∧ ∀ (t : Nat) (v : Value), vs[t]? = some v → w.cell? ⟨b, p + (j * es + t), none⟩ = some v := fun j hj => by
          obtain ⟨b', p', h1, h2, h3, h4, h5, vs, h6, h7⟩ := F.ext.ok q i j hj
          rw [ha] at h1; cases h1
          have := isL_length h6
          rw [hes] at h7
          exact ⟨vs, by rw [← this]; exact (hob j hj).2, h6, solidL_one h6 (hob j hj).1, h7⟩
        have hget : ∀ j t, j < (e.chi q i).n → t < es → ∃ v, w.cell? ⟨b, p + (j * es + t), none⟩ = some v ∧ v.oneCell' = true := fun j t hj ht => by
          obtain ⟨vs, h1, h2, h3, h4⟩ := key j hj
          have hg : vs[t]? = some (vs[t]'(by omega)) := List.getElem?_eq_getElem (by omega)
          exact ⟨_, h4 t _ hg, h3 _ (List.getElem_mem _)⟩
        have hall : ∀ t, t < (e.chi q i).n * es → ∃ v, w.cell? ⟨b, p + t, none⟩ = some v ∧ v.oneCell' = true := fun t ht => by
          have hes1 : 0 < es := by
            rcases Nat.eq_zero_or_pos es with h0 | h0
            · rw [h0] at ht; omega
            · exact h0
          have := hget (t / es) (t % es) (Nat.div_lt_of_lt_mul (by rw [Nat.mul_comm]; exact ht)) (Nat.mod_lt _ hes1)
          rw [Nat.mul_comm, Nat.div_add_mod] at this
          exact this
        let news := (List.range ((e.chi q i).n * es)).map fun t => (w.cell? ⟨b, p + t, none⟩).getD undef
        have hn1 : ∀ (t : Nat) (x : Value), news[t]? = some x → t < (e.chi q i).n * es ∧ x = (w.cell? ⟨b, p + t, none⟩).getD undef := fun t x hx => by
          simp only [news, List.getElem?_map, Option.map_eq_some_iff] at hx
          obtain ⟨t', h1, h2⟩ := hx
          obtain ⟨h3, h4⟩ := List.getElem?_eq_some_iff.1 h1
          simp at h3 h4
          subst h4
          exact ⟨h3, h2.symm⟩
        refine ⟨news, ⟨by simp [news], fun x hx => ?_, .inr ⟨⟨b, p, none⟩, _, by rw [hv, ha], fun t x hx => ?_⟩⟩, fun j hj => ?_⟩
        · obtain ⟨t, ht⟩ := List.mem_iff_getElem?.1 hx
          obtain ⟨h1, h2⟩ := hn1 t x ht
          obtain ⟨v, h3, h4⟩ := hall t h1
          rw [h2, h3]; exact h4
        · obtain ⟨h1, h2⟩ := hn1 t x hx
          obtain ⟨v, h3, h4⟩ := hall t h1
          rw [Addr.add_mid, h2, h3]; rfl
        · have hj : j < (e.chi q i).n := hj
          obtain ⟨vs, h1, h2, h3, h4⟩ := key j hj
          refine Eq.mp ?_ h2
          congr 1
          apply List.ext_getElem?
          intro t
          simp only [List.getElem?_take, List.getElem?_drop]
          have hje : (j + 1) * es ≤ (e.chi q i).n * es := Nat.mul_le_mul_right _ hj
          rw [Nat.succ_mul] at hje
          split
          · rename_i ht
            have hg : vs[t]? = some (vs[t]'(by omega)) := List.getElem?_eq_getElem (by omega)
            have hr : j * es + t < (e.chi q i).n * es := by omega
            simp only [news, List.getElem?_map, List.getElem?_range hr, Option.map_some]
            rw [h4 t _ hg, hg]
            rfl
          · rename_i ht
            rw [List.getElem?_eq_none (by omega)]
    · cases h
  · rename_i q
    obtain ⟨hsg, _⟩ := hy
    split at h
    · rename_i R hq
      split at h
      · rename_i hes
        simp only [Option.some.injEq, Prod.mk.injEq] at h
        obtain ⟨rfl, rfl, rfl⟩ := h
        rw [nth_eq] at hq
        obtain ⟨xs, hO, hE⟩ := F.row_at hq hsg
        subst hes
        exact ⟨xs, hO.src, hE⟩
      · cases h
    · cases h
  · cases h

theorem ok_call {c : Call} (hT : TOk P T) (tm : isV e st.t a.tmps.toList) (hr : RL e st) (hA : c.callee ≠ .builtin .append) (o : Oper) (ho : o.op = .call c) : OpOk P e st w (opE T e.chi st o.op) ((execOp a.eval o).run P w) := by
  rw [ho]
  obtain ⟨cal, args, ats⟩ := c
  simp only [opE]
  cases cal with
  | value f =>
    simp only
    have hf := evO_is tm f
    generalize evO st f = X at hf
    split
    · rename_i g cap
      obtain ⟨vs, hv, hc⟩ := hf
      refine ⟨args.toList.map a.eval ++ vs.toList, isV_append (evOs_is tm _) (capV_is hc), ?_⟩
      have : (args.toList.map a.eval ++ vs.toList).toArray = args.map a.eval ++ vs := by apply Array.ext'; simp
      rw [this]
      simp [execOp, ho, resolve, hv, Deferred.ofValue, invoke]
    · trivial
  | invoke r m => trivial
  | builtin b =>
    cases b <;> first | exact absurd rfl hA | (trivial; done) | skip
    case len =>
      simp only
      split
      · rename_i t x h1 h2
        have hx := evO_is tm x
        have ea : ats = #[t] := by apply Array.ext'; simpa using h1
        have eb : args = #[x] := by apply Array.ext'; simpa using h2
        subst ea; subst eb
        generalize evO st x = X at hx
        unfold lenE
        split
        · rename_i q i
          have hx : a.eval x = _ := hx
          split
          · rename_i hz
            obtain ⟨i', d, zv, g1, g2, g3, g4, g5, g6, g7, el, j, u, rfl, g8⟩ := (tyB_spec (hT.ty t _ hz)).ex
            exact ⟨_, rfl, by simp [execOp, ho, resolve, hx, invoke, builtin, Builtin.len_, run_underlying g2, goInt]⟩
          · trivial
        · obtain ⟨b, hb, hx⟩ := hx
          split
          · rename_i hz
            obtain ⟨i', d, zv, g1, g2, g3, g4, g5, g6, g7, el, j, u, rfl, g8⟩ := (tyB_spec (hT.ty t _ hz)).ex
            exact ⟨_, rfl, by simp [execOp, ho, resolve, hx, invoke, builtin, Builtin.len_, run_underlying g2, goInt]⟩
          · trivial
        · have hx : a.eval x = _ := hx
          split
          · rename_i hz
            obtain ⟨i', d, zv, g1, g2, g3, g4, g5, g6, g7, el, j, u, rfl, g8⟩ := (tyB_spec (hT.ty t _ hz)).ex
            exact ⟨_, rfl, by simp [execOp, ho, resolve, hx, invoke, builtin, Builtin.len_, run_underlying g2, goInt]⟩
          · trivial
        · obtain ⟨hsg, _⟩ := hx
          split
          · rename_i es ea z R hz hq
            rw [nth_eq] at hq
            obtain ⟨a', c', hx⟩ := hr _ _ _ hq hsg
            obtain ⟨i', d, zv, g1, g2, g3, g4, g5, g6, g7, el, j, u, rfl, g8⟩ := (tyB_spec (hT.ty t _ hz)).ex
            exact ⟨_, rfl, by simp [execOp, ho, resolve, hx, invoke, builtin, Builtin.len_, run_underlying g2, goInt]⟩
          · trivial
        · trivial
      · trivial
    case max =>
      simp only
      split
      · rename_i x y h2
        have eb : args = #[x, y] := by apply Array.ext'; simpa using h2
        subst eb
        have hx := evO_is tm x
        have hy := evO_is tm y
        split
        · rename_i k p k' q h3 h4
          rw [h3] at hx
          rw [h4] at hy
          have hx := one_int hx
          have hy := one_int hy
          exact ⟨_, rfl, by simp [execOp, ho, resolve, hx, hy, invoke, builtin, Builtin.max_, Builtin.max2, hT.mx, rMx]⟩
        · trivial
      · trivial
    case min =>
      simp only
      split
      · rename_i x y h2
        have eb : args = #[x, y] := by apply Array.ext'; simpa using h2
        subst eb
        have hx := evO_is tm x
        have hy := evO_is tm y
        split
        · rename_i k p k' q h3 h4
          rw [h3] at hx
          rw [h4] at hy
          have hx := one_int hx
          have hy := one_int hy
          exact ⟨_, rfl, by simp [execOp, ho, resolve, hx, hy, invoke, builtin, Builtin.min_, Builtin.min2, hT.mn, rMn]⟩
        · trivial
      · trivial

theorem SV.rs_is {e : Env} {q : Nat} {v : Value} (h1 : e.sg[q]? = some v) (h2 : v.oneCell' = true) : (SV.pt (.one (.rs q))).is e v := ⟨h1, h2⟩
theorem OwnR.one {es n : Nat} {v : Value} {xs : List Value} (h : OwnR w es v n xs) : v.oneCell' = true := by
  obtain ⟨a, c, rfl⟩ := h.form; rfl
theorem els_join {c : Nat → Nat → Row} {n m es : Nat} {f g : Nat → List SC} {xs news : List Value} (hx : xs.length = n * es) (h1 : ElsIs c ⟨n, es, f⟩ xs) (h2 : ElsIs c ⟨m, es, g⟩ news) : ElsIs c ⟨n + m, es, rJn n f g⟩ (xs ++ news) := by
  intro j hj
  have hj : j < n + m := hj
  simp only [rJn]
  split
  · rename_i hjn
    have := h1 j hjn
    simp only at this
    have hje : (j + 1) * es ≤ n * es := Nat.mul_le_mul_right _ hjn
    rw [Nat.succ_mul] at hje
    rw [List.drop_append_of_le_length (by omega), List.take_append_of_le_length (by rw [List.length_drop]; omega)]
    exact this
  · rename_i hjn
    have := h2 (j - n) (show j - n < m by omega)
    simp only at this
    have hje : n * es ≤ j * es := Nat.mul_le_mul_right _ (by omega)
    rw [List.drop_append, List.drop_of_length_le (by omega), List.nil_append, hx]
    rw [Nat.sub_mul] at this
    exact this
theorem ok_append {args : Array Operand} {ats : Array Nat} (hT : TOk P T) (F : Fit e w0 st a s w) (o : Oper) (ho : o.op = .call ⟨.builtin .append, args, ats⟩) : OpOk P e st w (opE T e.chi st o.op) ((execOp a.eval o).run P w) := by
  rw [ho]
  simp only [opE]
  split
  · rename_i t t' x y h1 h2
    split
    · rename_i htt
      subst htt
      have ea : ats = #[t, t] := by apply Array.ext'; simpa using h1
      have eb : args = #[x, y] := by apply Array.ext'; simpa using h2
      subst ea; subst eb
      have hx := evO_is F.tm x
      have hy := evO_is F.tm y
      generalize evO st x = X at hx
      generalize evO st y = Y at hy
      unfold appE
      split
      · rename_i es ea z hz
        split
        · rename_i m g ob hsrc
          obtain ⟨i, d, zv, g1, g2, g3, g4, g5, g6, g7, el, j, u, rfl, g8, g9, g10, g11, g12, g13⟩ := (tyB_spec (hT.ty t _ hz)).ex
          obtain ⟨i', d', l1, l2, l3, l4, l5, l6⟩ := elB_spec g8
          rw [g9] at l1; cases l1
          have hzl := isL_length (scsB_is e g11)
          simp only [Array.length_toList] at hzl
          have hus : u.cells.size = es := by omega
          have run : ∀ (n : Nat) (xs news : List Value), OwnR w es (a.eval x) n xs → SrcAt w es (a.eval y) m news → n + m ≤ 1073741824 → ∃ v' w', (execOp a.eval o).run P w = .ok (.value v') w' ∧ OwnR w' es v' (n + m) (xs ++ news) ∧ w.grownBy w' (a.eval x).ownBlock ∧ (∀ g, v'.ownBlock = some g → g < w'.heap.size ∧ (w.heap.size ≤ g ∨ (a.eval x).ownBlock = some g)) := fun n xs news hO hS hb => by
            obtain ⟨v', w', e1, e2, e3, e4⟩ := ownR_append (P := P) (w := w) t o.type el j u es g2 g9 g10 l3 hus l5 g13 (a.eval x) (a.eval y) n m xs news hO hS hb
            exact ⟨v', w', by simp [execOp, ho, resolve, invoke, builtin, e1], e2, e3, e4⟩
          split
          · rename_i _
            rintro ⟨hob, hb⟩
            have hx : a.eval x = .slice none 0 0 := hx
            obtain ⟨news, hS, hE⟩ := src_at F hy hsrc hob
            obtain ⟨v', w', e1, e2, e3, e4⟩ := run 0 [] news (by rw [hx]; exact ⟨by simp, by simp, .inl ⟨rfl, rfl⟩⟩) hS (by omega)
            rw [lenM_eq]
            simp only [Nat.zero_add, List.nil_append] at e2
            refine ⟨v', w', e1, v', news, none, ?_, e2, hE, ?_, fun g hg => (by cases hg), fun g hg => ⟨(e4 g hg).1, ?_⟩, Nat.le_refl _, fun hh => absurd hh (Nat.lt_irrefl _)⟩
            · rw [if_neg (Nat.lt_irrefl _)]
              exact SV.rs_is (by simp [Env.addS, ← F.rows.len]) e2.one
            · rw [hx] at e3; exact e3
            · rcases (e4 g hg).2 with h | h
              · exact .inl h
              · rw [hx] at h; simp [Value.ownBlock] at h
          · rename_i k n c
            obtain ⟨b, hb, hv⟩ := hx
            split
            · rename_i cs hk
              split
              · rename_i hnc
                split
                · rename_i hle
                  split
                  · rename_i hfs
                    rintro ⟨hob, hbd⟩
                    simp only [Bool.and_eq_true] at hfs
                    rw [nth_eq] at hk
                    obtain ⟨vs, ty, hw, hl⟩ := F.cells k b cs hb hk
                    have hlen := isL_length hl
                    simp only [Array.length_toList] at hlen
                    simp only [hT.pl] at hbd ⊢
                    simp only [hT.jn]
                    subst hnc
                    obtain ⟨news, hS, hE⟩ := src_at F hy hsrc hob
                    have hO : OwnR w es (a.eval x) n (vs.toList.take (n * es)) := by
                      rw [hv]
                      exact ⟨by simp; omega, fun u hu => solidL_one hl hfs.2 u (List.mem_of_mem_take hu), .inr ⟨b, 0, n, vs, ty, rfl, hw, Nat.le_refl _, by simp only [maxLen]; omega, by omega, by simp⟩⟩
                    obtain ⟨v', w', e1, e2, e3, e4⟩ := run n _ news hO hS hbd
                    rw [lenM_eq]
                    have hH : HasH e st k b := ⟨cs, hk, hb⟩
                    have hob' : (a.eval x).ownBlock = some b := by rw [hv]; rfl
                    refine ⟨v', w', e1, v', _, some b, ?_, e2, els_join (by simp; omega) ?_ hE, ?_, fun g hg => ?_, fun g hg => ⟨(e4 g hg).1, ?_⟩, Nat.le_refl _, fun hh => absurd hh (Nat.lt_irrefl _)⟩
                    · rw [if_neg (Nat.lt_irrefl _)]
                      exact SV.rs_is (by simp [Env.addS, ← F.rows.len]) e2.one
                    · intro j hj
                      have hj : j < n := hj
                      have hje : (j + 1) * es ≤ n * es := Nat.mul_le_mul_right _ hj
                      rw [Nat.succ_mul] at hje
                      have := isL_cut (freeL_nil hfs.1 hl) (j * es) es
                      refine Eq.mp ?_ this
                      congr 1
                      simp only
                      rw [List.drop_take, List.take_take]
                      congr 1
                      omega
                    · rw [hob'] at e3; exact e3
                    · cases hg; exact .inr ⟨k, rfl, hH⟩
                    · rcases (e4 g hg).2 with h | h
                      · exact .inl h
                      · rw [hob'] at h; cases h; exact .inr (.inr ⟨k, rfl, hH⟩)
                  · trivial
                · trivial
              · trivial
            · trivial
          · rename_i q
            obtain ⟨hsg, _⟩ := hx
            split
            · rename_i R hq
              split
              · rename_i hes
                rintro ⟨hob, hbd⟩
                rw [nth_eq] at hq
                obtain ⟨xs, hO, hE'⟩ := F.row_at hq hsg
                obtain ⟨news, hS, hE⟩ := src_at F hy hsrc hob
                simp only [hT.pl] at hbd ⊢
                simp only [hT.jn]
                subst hes
                obtain ⟨v', w', e1, e2, e3, e4⟩ := run R.n xs news hO hS hbd
                have hlt : q < st.r.length := (List.getElem?_eq_some_iff.1 hq).1
                have hlt' : q < e.sg.length := (List.getElem?_eq_some_iff.1 hsg).1
                have hR : ∀ g, (a.eval x).ownBlock = some g → HasR e st q g := fun g hg => ⟨R, _, hq, hsg, hg⟩
                refine ⟨v', w', e1, v', _, (a.eval x).ownBlock, ?_, e2, els_join hO.1 hE' hE, e3, fun g hg => .inl (hR g hg), fun g hg => ⟨(e4 g hg).1, ?_⟩, by omega, fun _ => rfl⟩
                · rw [if_pos hlt]
                  exact SV.rs_is (by simp [Env.putS, hlt']) e2.one
                · rcases (e4 g hg).2 with h | h
                  · exact .inl h
                  · exact .inr (.inl (hR g h))
              · trivial
            · trivial
          · trivial
        · trivial
      · trivial
    · trivial
  · trivial
theorem opE_ok (hT : TOk P T) (F : Fit e w0 st a s w) (o : Oper) : OpOk P e st w (opE T e.chi st o.op) ((execOp a.eval o).run P w) := by
  cases h : o.op with
  | move x => exact ⟨_, evO_is F.tm x, by simp [execOp, h]⟩
  | assign x => exact ⟨_, evO_is F.tm x, by simp [execOp, h]⟩
  | pick c x y => rw [← h]; exact ok_pick F.tm o h
  | alloc t => rw [← h]; exact ok_alloc hT F o h
  | box t x => rw [← h]; exact ok_box F o h
  | build t ps => rw [← h]; exact ok_build hT F.tm o h
  | buildSlice t n ps => rw [← h]; exact ok_buildSlice hT F o h
  | load t x => rw [← h]; exact ok_load hT F o h
  | store t x y => rw [← h]; exact ok_store hT F o h
  | binOp op t x y u => rw [← h]; exact ok_bin hT F.tm o h
  | unOp op t x => cases op <;> first | (rw [← h]; exact ok_not hT F.tm o h) | trivial
  | fieldAddr s x f => rw [← h]; exact ok_fieldAddr hT F.tm o h
  | field s x f => rw [← h]; exact ok_field hT F.tm o h
  | index s x f => rw [← h]; exact ok_index hT F.tm o h
  | indexAddr t x y => rw [← h]; exact ok_indexAddr hT F o h
  | extract x i => rw [← h]; exact ok_extract F.tm o h
  | convert sr ds x => rw [← h]; exact ok_convert hT F.tm o h
  | slice t x lo hi mx => rw [← h]; exact ok_slice hT F o h
  | makeSlice t x y => rw [← h]; exact ok_make hT F o h
  | makeFunc f fi ca => rw [← h]; exact ok_makeFunc F.tm o h
  | call c =>
    rw [← h]
    by_cases hA : c.callee = .builtin .append
    · obtain ⟨cal, args, ats⟩ := c
      subst hA
      exact ok_append hT F o h
    · exact ok_call hT F.tm F.rl hA o h
  | _ => trivial

/-- A slice that is cut, its memory not looked at. -/
theorem slice_pure {t : Nat} {x : Operand} {lo hi mx : Option Operand} (hT : TOk P T) (tm : isV e st.t a.tmps.toList) (o : Oper) (ho : o.op = .slice t x lo hi mx) {X : SV} (hX : opE T e.chi st o.op = .v X) : ∃ v, X.is e v ∧ (execOp a.eval o).run P w = .ok (.value v) w := by
  rw [ho] at hX
  simp only [opE] at hX
  have hx := evO_is tm x
  generalize evO st x = Y at hx hX
  unfold sliceE at hX
  split at hX
  · rename_i k p _ _ _
    obtain ⟨b, hb, hv⟩ := hx
    split at hX
    · rename_i n es ea z hz
      split at hX
      · rename_i l h m hbo
        cases hX
        obtain ⟨i, d, zv, g1, g2, g3, g4, g5, g6, g7, el, rfl, g8⟩ := (tyB_spec (hT.ty t _ hz)).ex
        obtain ⟨i', d', l1, l2, l3, _⟩ := elB_spec g8
        refine ⟨_, ⟨b, hb, rfl⟩, ?_⟩
        simp [execOp, ho, hv, Instr.sliceAt, run_underlying g2, Instr.sureAddr, bounds_ok tm hbo, run_sizeOf' l1, l3, add_lit']
        split <;> rfl
      · cases hX
    · cases hX
  · rename_i k p n c _ _ _
    obtain ⟨b, hb, hv⟩ := hx
    split at hX
    · rename_i es ea z hz
      split at hX
      · rename_i l h m hbo
        cases hX
        obtain ⟨i, d, zv, g1, g2, g3, g4, g5, g6, g7, el, j, u, rfl, g8, _⟩ := (tyB_spec (hT.ty t _ hz)).ex
        obtain ⟨i', d', l1, l2, l3, _⟩ := elB_spec g8
        refine ⟨_, ⟨b, hb, rfl⟩, ?_⟩
        simp [execOp, ho, hv, Instr.sliceAt, Instr.slice, run_underlying g2, bounds_ok tm hbo, run_sizeOf' l1, l3, add_lit']
        split <;> rfl
      · cases hX
    · cases hX
  · (repeat' split at hX) <;> cases hX
  · cases hX
/-- Operations whose value hangs on no memory, in whatever world. -/
theorem opE_pure (hT : TOk P T) (tm : isV e st.t a.tmps.toList) (hr : RL e st) (o : Oper) (hp : pureOp o.op = true) {x : SV} (hx : opE T e.chi st o.op = .v x) : ∀ w, ∃ v, x.is e v ∧ (execOp a.eval o).run P w = .ok (.value v) w := by
  intro w
  have key : OpOk P e st w (opE T e.chi st o.op) ((execOp a.eval o).run P w) → ∃ v, x.is e v ∧ (execOp a.eval o).run P w = .ok (.value v) w := fun h => by rw [hx] at h; exact h
  cases h : o.op with
  | move x => exact key (by rw [h]; exact ⟨_, evO_is tm x, by simp [execOp, h]⟩)
  | assign x => exact key (by rw [h]; exact ⟨_, evO_is tm x, by simp [execOp, h]⟩)
  | pick c x y => exact key (ok_pick tm o h)
  | build t ps => exact key (ok_build hT tm o h)
  | binOp op t x y u => exact key (ok_bin hT tm o h)
  | unOp op t y => cases op <;> first | exact key (ok_not hT tm o h) | (rw [h] at hx; cases hx)
  | fieldAddr s x f => exact key (ok_fieldAddr hT tm o h)
  | field s x f => exact key (ok_field hT tm o h)
  | extract x i => exact key (ok_extract tm o h)
  | convert sr ds x => exact key (ok_convert hT tm o h)
  | slice t x lo hi mx => exact slice_pure hT tm o h hx
  | makeFunc f fi ca => exact key (ok_makeFunc tm o h)
  | call c =>
    refine key (ok_call hT tm hr (fun hA => ?_) o h)
    rw [h] at hp
    simp [pureOp, hA] at hp
  | _ => rw [h] at hp; cases hp

/-- The rows of the outside lie where they do. -/
def SX (c : Nat → Nat → Row) (w : World) : Prop := XOk ⟨[], c, []⟩ ⟨w, []⟩
theorem load_stab (hT : TOk P T) {t q i j p : Nat} {x : Operand} (tm : isV e st.t a.tmps.toList) (o : Oper) (ho : o.op = .load t x) (hX : evO st x = .pt (.one (.xp q i j p))) (hS : SX e.chi w) :
    OpOk P e st w (loadE T e.chi st t (.pt (.one (.xp q i j p)))) ((execOp a.eval o).run P w) := by
  have hx := evO_is tm x
  rw [hX] at hx
  unfold loadE
  obtain ⟨hj, b, r, ha, hv⟩ := hx
  simp only
  split
  · rename_i y hy
    split
    · rename_i hle
      split
      · rename_i z hz
        obtain ⟨b', r', ha', hlt, _, vs, hl, hc⟩ := hS q i j hj
        rw [ha] at ha'
        cases ha'
        have hlen := isL_length hl
        obtain ⟨v, h1, h2⟩ := run_loadVar_cells (w := w) (tyB_spec (hT.ty t y hy)) (isL_cut (isL_nil (r := e.rho) (g := e.sg) hl) p y.size) (cutL_length _ _ _ hle) hz (b := b) (o := r + (j * (e.chi q i).size + p)) (fun s v hs => by
          simp only [List.getElem?_take, List.getElem?_drop] at hs
          split at hs
          · have := hc (p + s) v hs
            rw [show r + (j * (e.chi q i).size + p) + s = r + (j * (e.chi q i).size + (p + s)) from by omega]
            exact this
          · cases hs)
        exact ⟨v, h1, by simp [execOp, ho, hv, h2]⟩
      · trivial
    · trivial
  · trivial
theorem stab_v (hT : TOk P T) {w1 : World} (F : Fit e w0 st a s w1) (o : Oper) {x : SV} (h : stabE T e.chi st o.op = .v x) : ∀ w, SX e.chi w → ∃ v, x.is e v ∧ (execOp a.eval o).run P w = .ok (.value v) w := by
  intro w hS
  unfold stabE at h
  split at h
  · rename_i hp
    split at h
    · rename_i y hy
      cases h
      exact opE_pure hT F.tm F.rl o hp hy w
    · cases h
  · split at h
    · rename_i t y ho
      split at h
      · rename_i q i j p hX
        have := load_stab hT F.tm o ho hX hS
        rw [h] at this
        exact this
      · cases h
    · rename_i t y z ho
      have := ok_indexAddr (w := w) hT F o ho
      rw [ho] at this
      simp only [opE] at this
      rw [h] at this
      exact this
    · cases h
theorem stab_need (hT : TOk P T) {w1 : World} (F : Fit e w0 st a s w1) (o : Oper) {x : SV} {j : Int} {m : Nat} (h : stabE T e.chi st o.op = .need j m x) (h0 : 0 ≤ j) (h1 : j < m) : ∀ w, SX e.chi w → ∃ v, x.is e v ∧ (execOp a.eval o).run P w = .ok (.value v) w := by
  intro w hS
  unfold stabE at h
  split at h
  · split at h <;> cases h
  · split at h
    · rename_i t y ho
      split at h
      · rename_i q i j p hX
        have := load_stab hT F.tm o ho hX hS
        rw [h] at this
        exact this h0 h1
      · cases h
    · rename_i t y z ho
      have := ok_indexAddr (w := w) hT F o ho
      rw [ho] at this
      simp only [opE] at this
      rw [h] at this
      exact this h0 h1
    · cases h

/-! What a fit turns into. -/
theorem Fit.turn {st' : St} {a' : Act} {s' : List Act} (F : Fit e w0 st a s w) (hh : st'.h = st.h) (hr : st'.r = st.r) (fr : isVs e st'.fr s') (dfr : a'.defers = []) (tm : isV e st'.t a'.tmps.toList) : Fit e w0 st' a' s' w := by
  have hH : ∀ k b, HasH e st' k b → HasH e st k b := fun k b ⟨cs, h1, h2⟩ => ⟨cs, hh ▸ h1, h2⟩
  have hR : ∀ q b, HasR e st' q b → HasR e st q b := fun q b ⟨R, v, h1, h2, h3⟩ => ⟨R, v, hr ▸ h1, h2, h3⟩
  exact ⟨fr, dfr, tm, F.blw, F.lo, F.hi, F.nd, by rw [hh]; exact F.len, fun k b cs hb hc => F.cells k b cs hb (by rw [← hh]; exact hc), F.ext.kept rfl (Nat.le_refl _) (fun _ _ _ _ _ => rfl) (fun k b h => .inl (hH k b h)) (fun q b h => .inl (hR q b h)), F.pre,
    F.rows.kept rfl rfl hr (Nat.le_refl _) (fun _ _ _ => rfl) (fun k b h => .inl (hH k b h))⟩
theorem Fit.put (F : Fit e w0 st a s w) {d : Option Nat} {x : SV} {v : Value} (h : x.is e v) : Fit e w0 (st.put d x) (a.put d v) s w := by
  cases d with
  | none => exact F
  | some d =>
    refine F.turn rfl rfl F.fr F.dfr ?_
    simp only [St.put, Act.put, Array.toList_setIfInBounds]
    exact isV_set F.tm d h
theorem Fit.later {w' : World} (F : Fit e w0 st a s w) (h : Below w.heap.size w w') : Fit e w0 st a s w' :=
  ⟨F.fr, F.dfr, F.tm, F.blw.later h, F.lo, fun k b hb => Nat.lt_of_lt_of_le (F.hi k b hb) h.size, F.nd, F.len,
    fun k b cs hb hc => let ⟨vs, t, h1, h2⟩ := F.cells k b cs hb hc; ⟨vs, t, (h.block b (F.hi k b hb)).trans h1, h2⟩, F.ext.kept rfl h.size (fun b hb _ _ _ => h.block b hb) (fun k b h => .inl h) (fun q b h => .inl h), F.pre,
    F.rows.kept rfl rfl rfl h.size (fun q b hq => h.block b (F.rows.hi q b hq)) (fun k b h => .inl h)⟩
theorem isVs_more {b : Nat} : ∀ {ts : List (List SV)} {us : List Act}, isVs e ts us → isVs (e.more b) ts us
  | [], [], _ => trivial
  | t :: ts, a :: us, h => ⟨⟨h.1.1, isV_more h.1.2⟩, isVs_more h.2⟩
  | [], _ :: _, h => h.elim
  | _ :: _, [], h => h.elim
theorem Fit.new (F : Fit e w0 st a s w) {cs : List SC} {vs : Array Value} {t : TypeId} (h : isL e cs vs.toList) : Fit (e.more w.heap.size) w0 { st with h := st.h ++ [some cs] } a s (w.alloc (.cells vs t)) := by
  have hlt : ∀ k b, (e.more w.heap.size).rho[k]? = some b → (k < e.rho.length ∧ e.rho[k]? = some b) ∨ (k = e.rho.length ∧ b = w.heap.size) := by
    intro k b hb
    simp only [Env.more] at hb
    rcases Nat.lt_trichotomy k e.rho.length with g | g | g
    · rw [List.getElem?_append_left g] at hb; exact .inl ⟨g, hb⟩
    · subst g; simp at hb; exact .inr ⟨rfl, hb.symm⟩
    · rw [List.getElem?_eq_none (by simp; omega)] at hb; cases hb
  have hsz := F.blw.size
  have hH : ∀ k b, HasH (e.more w.heap.size) { st with h := st.h ++ [some cs] } k b → HasH e st k b ∨ w.heap.size ≤ b := by
    rintro k b ⟨cs', h1, h2⟩
    rcases hlt k b h2 with ⟨g1, g2⟩ | ⟨_, g⟩
    · refine .inl ⟨cs', ?_, g2⟩
      simp only at h1
      rw [List.getElem?_append_left (by rw [← F.len]; exact g1)] at h1
      exact h1
    · exact .inr (by omega)
  have hbl : Below w.heap.size w (w.alloc (.cells vs t)) := (Below.refl _ _).alloc (Nat.le_refl _) _
  refine ⟨isVs_more F.fr, F.dfr, isV_more F.tm, F.blw.later hbl, ?_, ?_, ?_, ?_, ?_, F.ext.kept rfl hbl.size (fun b hb _ _ _ => hbl.block b hb) hH (fun q b h => .inl h), fun i b h => rho_more (F.pre i b h), F.rows.kept rfl rfl rfl hbl.size (fun q b hq => hbl.block b (F.rows.hi q b hq)) hH⟩
  · intro k b hb
    rcases hlt k b hb with ⟨_, g⟩ | ⟨_, rfl⟩
    · exact F.lo k b g
    · exact .inl hsz
  · intro k b hb
    have : (w.alloc (.cells vs t)).heap.size = w.heap.size + 1 := by simp
    rcases hlt k b hb with ⟨_, g⟩ | ⟨_, rfl⟩
    · have := F.hi k b g; omega
    · omega
  · intro j k b hj hk
    rcases hlt j b hj with ⟨_, g⟩ | ⟨g1, g2⟩ <;> rcases hlt k b hk with ⟨_, g'⟩ | ⟨g1', g2'⟩
    · exact F.nd j k b g g'
    · subst g2'; exact absurd (F.hi j _ g) (by omega)
    · subst g2; exact absurd (F.hi k _ g') (by omega)
    · omega
  · simp [Env.more, F.len]
  · intro k b cs' hb hc
    rcases hlt k b hb with ⟨g0, g⟩ | ⟨g1, rfl⟩
    · have hc' : st.h[k]? = some (some cs') := by
        simp only at hc
        rw [List.getElem?_append_left (by rw [← F.len]; exact g0)] at hc
        exact hc
      obtain ⟨vs', t', h1, h2⟩ := F.cells k b cs' g hc'
      exact ⟨vs', t', (Below.heap_alloc w _ b (F.hi k b g)).trans h1, isL_more h2⟩
    · simp only at hc
      rw [g1, F.len, List.getElem?_append_right (Nat.le_refl _)] at hc
      simp at hc
      subst hc
      exact ⟨vs, t, by show (w.heap.push _)[w.heap.size]? = _; simp, isL_more h⟩
theorem Fit.stored (F : Fit e w0 st a s w) {k p : Nat} {cs old : List SC} {b : Nat} {w' : World} {vs : List Value} {ov : Array Value} {t : TypeId} (hb : e.rho[k]? = some b) (hk : st.h[k]? = some (some old)) (hl : isL e cs vs) (hp : p + cs.length ≤ old.length)
    (h1 : w.heap[b]? = some (.cells ov t (0, 0))) (h2 : w'.heap[b]? = some (.cells (pasteL ov.toList p vs).toArray t (0, 0))) (h3 : ∀ j, j ≠ b → w'.heap[j]? = w.heap[j]?) (h4 : w'.heap.size = w.heap.size) (h5 : w'.os = w.os) (h6 : w'.tape = w.tape) (h7 : w'.output = w.output) :
    Fit e w0 { st with h := setN st.h k (some (pasteL old p cs)) } a s w' := by
  have hlo := F.lo k b hb
  have hHk : HasH e st k b := ⟨old, hk, hb⟩
  have hH : ∀ j c, HasH e { st with h := setN st.h k (some (pasteL old p cs)) } j c → HasH e st j c := by
    rintro j c ⟨cs', g1, g2⟩
    simp only [setN_eq, List.getElem?_set] at g1
    split at g1
    · rename_i hjk
      subst hjk
      exact ⟨old, hk, g2⟩
    · exact ⟨cs', g1, g2⟩
  refine ⟨F.fr, F.dfr, F.tm, ⟨h5.trans F.blw.os, h6.trans F.blw.tape, h7.trans F.blw.output, by have := F.blw.size; omega, fun j hj hm => (h3 j (fun e => by subst e; rcases hlo with h | h; omega; exact hm h)).trans (F.blw.block j hj hm)⟩, F.lo, fun j c hc => by rw [h4]; exact F.hi j c hc, F.nd, by simp [setN_eq, F.len], ?_, F.ext.kept rfl (by omega) (fun c _ _ hc _ => h3 c (fun hh => hc k (hh ▸ hHk))) (fun j c h => .inl (hH j c h)) (fun q c h => .inl h), F.pre,
    F.rows.kept rfl rfl rfl (by omega) (fun q c hq => h3 c (fun hh => F.rows.no q c hq k (hh ▸ hHk))) (fun j c h => .inl (hH j c h))⟩
  intro j c cs' hc hj
  simp only [setN_eq, List.getElem?_set] at hj
  split at hj
  · rename_i hjk
    subst hjk
    split at hj
    · cases hj
      rw [hb] at hc
      cases hc
      obtain ⟨vs', t', g1, g2⟩ := F.cells k b old hb hk
      rw [h1] at g1
      cases g1
      exact ⟨_, t, h2, by simpa using isL_paste g2 hl p hp⟩
    · cases hj
  · rename_i hjk
    obtain ⟨vs', t', g1, g2⟩ := F.cells j c cs' hc hj
    have : c ≠ b := fun hh => hjk (F.nd k j b hb (hh ▸ hc))
    exact ⟨vs', t', (h3 c this).trans g1, g2⟩
theorem killF_is {q : Nat} {u : Value} : ∀ {ts : List (List SV)} {us : List Act}, isVs e ts us → isVs (e.putS q u) (killF q ts) us
  | [], [], _ => trivial
  | _ :: _, _ :: _, h => ⟨⟨h.1.1, isV_kill h.1.2⟩, killF_is h.2⟩
  | [], _ :: _, h => h.elim
  | _ :: _, [], h => h.elim
theorem isVs_to {e' : Env} (hto : e.To e') : ∀ {ts : List (List SV)} {us : List Act}, isVs e ts us → isVs e' ts us
  | [], [], _ => trivial
  | _ :: _, _ :: _, h => ⟨⟨h.1.1, isV_to hto h.1.2⟩, isVs_to hto h.2⟩
  | [], _ :: _, h => h.elim
  | _ :: _, [], h => h.elim
theorem killH_get {q : Nat} : ∀ {l : List (Option (List SC))} {k : Nat} {cs : List SC}, (killH q l)[k]? = some (some cs) → ∃ cs0, l[k]? = some (some cs0) ∧ cs = killL q cs0
  | [], k, cs, h => by simp [killH] at h
  | none :: l, 0, cs, h => by simp [killH] at h
  | none :: l, k + 1, cs, h => by simpa using killH_get (l := l) (by simpa [killH] using h)
  | some c :: l, 0, cs, h => by simp [killH] at h; exact ⟨c, by simp, h.symm⟩
  | some c :: l, k + 1, cs, h => by simpa using killH_get (l := l) (by simpa [killH] using h)
theorem killH_length {q : Nat} : ∀ l : List (Option (List SC)), (killH q l).length = l.length
  | [] => rfl
  | none :: l => by simp [killH, killH_length l]
  | some _ :: l => by simp [killH, killH_length l]
/-- A row laid anew in the place of one that lives: its block may be another. -/
theorem Rows.put {e' : Env} {st' : St} {w' : World} {q : Nat} {R : ORow} {sv : Value} {xs : List Value} (h : Rows e w0 st w) (hlen : e'.sg.length = st'.r.length) (hc : e'.chi = e.chi)
    (hq : st'.r[q]? = some (some R)) (hsv : e'.sg[q]? = some sv) (hne : ∀ j, j ≠ q → st'.r[j]? = st.r[j]? ∧ e'.sg[j]? = e.sg[j]?) (hO : OwnR w' R.es sv R.n xs) (hE : ElsIs e.chi R xs) (hsz : w.heap.size ≤ w'.heap.size)
    (hb : ∀ j b, j ≠ q → HasR e st j b → w'.heap[b]? = w.heap[b]?) (hlo : ∀ g, sv.ownBlock = some g → g < w'.heap.size ∧ (w0.w.heap.size ≤ g ∨ g ∈ w0.mo) ∧ (∀ j, j ≠ q → ¬ HasR e st j g) ∧ (∀ k, ¬ HasH e' st' k g))
    (hH : ∀ k b, HasH e' st' k b → HasH e st k b) : Rows e' w0 st' w' := by
  have hR : ∀ j b, j ≠ q → HasR e' st' j b → HasR e st j b := fun j b hj ⟨R', v, h1, h2, h3⟩ => ⟨R', v, (hne j hj).1 ▸ h1, (hne j hj).2 ▸ h2, h3⟩
  have hQ : ∀ b, HasR e' st' q b → sv.ownBlock = some b := fun b ⟨R', v, h1, h2, h3⟩ => by rw [hsv] at h2; cases h2; exact h3
  refine ⟨hlen, fun j R' hj => ?_, fun j b hj => ?_, fun j b hj => ?_, fun j j' b h1 h2 => ?_, fun j b hj k hk => ?_⟩
  · by_cases hjq : j = q
    · subst hjq
      rw [hq] at hj; cases hj
      exact ⟨sv, xs, hsv, hO, by rw [hc]; exact hE⟩
    · rw [(hne j hjq).1] at hj
      obtain ⟨v, ys, h1, h2, h3⟩ := h.row j R' hj
      exact ⟨v, ys, by rw [(hne j hjq).2]; exact h1, h2.kept fun b hv => hb j b hjq ⟨R', v, hj, h1, hv⟩, by rw [hc]; exact h3⟩
  · by_cases hjq : j = q
    · subst hjq; exact (hlo b (hQ b hj)).2.1
    · exact h.lo j b (hR j b hjq hj)
  · by_cases hjq : j = q
    · subst hjq; exact (hlo b (hQ b hj)).1
    · exact Nat.lt_of_lt_of_le (h.hi j b (hR j b hjq hj)) hsz
  · by_cases hjq : j = q
    · by_cases hjq' : j' = q
      · rw [hjq, hjq']
      · subst hjq; exact absurd (hR j' b hjq' h2) ((hlo b (hQ b h1)).2.2.1 j' hjq')
    · by_cases hjq' : j' = q
      · subst hjq'; exact absurd (hR j b hjq h1) ((hlo b (hQ b h2)).2.2.1 j hjq)
      · exact h.nd j j' b (hR j b hjq h1) (hR j' b hjq' h2)
  · by_cases hjq : j = q
    · subst hjq; exact (hlo b (hQ b hj)).2.2.2 k hk
    · exact h.no j b (hR j b hjq hj) k (hH k b hk)
theorem Fit.rowed (F : Fit e w0 st a s w) {q : Nat} {R : ORow} {x : SV} {lost : Option Nat} {v : Value} {w' : World} (h : RowOk e st w q R x lost v w') : ∃ e' : Env, e'.chi = e.chi ∧ x.is e' v ∧ Fit e' w0 (st.row q R lost) a s w' := by
  obtain ⟨sv, xs, B, hx, hO, hE, hg, hB, hsv, hql, hlost⟩ := h
  have hkeep : ∀ b, b < w.heap.size → some b ≠ B → w'.heap[b]? = w.heap[b]? := fun b hb hn => hg.block b hb hn
  have hBlo : ∀ g, B = some g → w0.w.heap.size ≤ g ∨ g ∈ w0.mo := fun g hgB => by
    rcases hB g hgB with h | ⟨k, _, cs, h1, h2⟩
    · exact F.rows.lo q g h
    · exact F.lo k g h2
  have hblw : KB w0 w' := ⟨hg.os.trans F.blw.os, hg.tape.trans F.blw.tape, hg.output.trans F.blw.output, Nat.le_trans F.blw.size hg.size, fun k hk hm => by
    rw [← F.blw.block k hk hm]
    refine hkeep k (Nat.lt_of_lt_of_le hk F.blw.size) fun hh => ?_
    rcases hBlo k hh.symm with h | h
    · omega
    · exact hm h⟩
  have hextB : ∀ b, b < w.heap.size → b ∉ w0.mo → (∀ k, ¬ HasH e st k b) → (∀ q, ¬ HasR e st q b) → w'.heap[b]? = w.heap[b]? := fun b hb _ h1 h2 => hkeep b hb fun hh => by
    rcases hB b hh.symm with h | ⟨k, _, h⟩
    · exact h2 q h
    · exact h1 k h
  by_cases hqlt : q < st.r.length
  · rw [if_pos hqlt] at hx
    have hl := hlost hqlt
    subst hl
    refine ⟨e.putS q sv, rfl, hx, ?_⟩
    have hst : st.row q R none = ⟨killV q st.t, killH q st.h, killF q st.fr, setN st.r q (some R)⟩ := by
      simp only [St.row, lenM_eq, if_pos hqlt, dropB]
    rw [hst]
    have hH : ∀ k b, HasH (e.putS q sv) ⟨killV q st.t, killH q st.h, killF q st.fr, setN st.r q (some R)⟩ k b → HasH e st k b := fun k b ⟨cs, h1, h2⟩ => by
      obtain ⟨cs0, h3, _⟩ := killH_get h1
      exact ⟨cs0, h3, h2⟩
    have hqs : q < e.sg.length := by rw [F.rows.len]; exact hqlt
    refine ⟨killF_is F.fr, F.dfr, isV_kill F.tm, hblw, F.lo, fun k b hb => Nat.lt_of_lt_of_le (F.hi k b hb) hg.size, F.nd, by rw [killH_length]; exact F.len, ?_, F.ext.kept rfl hg.size hextB (fun k b h => .inl (hH k b h)) ?_, F.pre, ?_⟩
    · intro k b cs hb hc
      obtain ⟨cs0, h3, rfl⟩ := killH_get hc
      obtain ⟨vs, t, h1, h2⟩ := F.cells k b cs0 hb h3
      refine ⟨vs, t, ?_, isL_kill h2⟩
      rw [hkeep b (F.hi k b hb) fun hh => ?_]
      · exact h1
      · rcases hB b hh.symm with h | ⟨k', h, _⟩
        · exact F.rows.no q b h k ⟨cs0, h3, hb⟩
        · cases h
    · rintro j b ⟨R', v', h1, h2, h3⟩
      by_cases hjq : j = q
      · subst hjq
        simp only [Env.putS, List.getElem?_set_self hqs, Option.some.injEq] at h2
        subst h2
        rcases (hsv b h3).2 with h | h | ⟨k, h, _⟩
        · exact .inr (.inr h)
        · exact .inl h
        · cases h
      · simp only [setN_eq, List.getElem?_set_ne (fun hh => hjq hh.symm)] at h1
        rw [putS_ne hjq] at h2
        exact .inl ⟨R', v', h1, h2, h3⟩
    · refine F.rows.put (q := q) (R := R) (sv := sv) (xs := xs) (by simp [Env.putS, setN_eq, F.rows.len]) rfl (by simp [setN_eq, List.getElem?_set_self hqlt]) (by simp [Env.putS, List.getElem?_set_self hqs]) (fun j hj => ⟨by simp [setN_eq, List.getElem?_set_ne (fun hh => hj hh.symm)], putS_ne hj⟩) hO hE hg.size (fun j b hj hb => hkeep b (F.rows.hi j b hb) fun hh => ?_) (fun g hg' => ?_) hH
      · rcases hB b hh.symm with h | ⟨k', h, _⟩
        · exact hj (F.rows.nd j q b hb h)
        · cases h
      · obtain ⟨h1, h2⟩ := hsv g hg'
        rcases h2 with h2 | h2 | ⟨k, h, _⟩
        · refine ⟨h1, .inl (Nat.le_trans F.blw.size h2), fun j hj hb => ?_, fun k hk => ?_⟩
          · have := F.rows.hi j g hb; omega
          · obtain ⟨cs, _, h4⟩ := hH k g hk
            have := F.hi k g h4; omega
        · exact ⟨h1, F.rows.lo q g h2, fun j hj hb => hj (F.rows.nd j q g hb h2), fun k hk => F.rows.no q g h2 k (hH k g hk)⟩
        · cases h
  · rw [if_neg hqlt] at hx
    have hqe : q = st.r.length := by omega
    refine ⟨e.addS sv, rfl, hx, ?_⟩
    have hst : st.row q R lost = ⟨st.t, dropB st.h lost, st.fr, st.r ++ [some R]⟩ := by
      simp only [St.row, lenM_eq, if_neg hqlt]
    rw [hst]
    have hto := to_addS e sv
    have hHl : (dropB st.h lost).length = st.h.length := by cases lost <;> simp [dropB, setN_eq]
    have hHg : ∀ (k : Nat) (cs : List SC), (dropB st.h lost)[k]? = some (some cs) → st.h[k]? = some (some cs) ∧ lost ≠ some k := by
      intro k cs hk
      cases lost with
      | none => exact ⟨hk, by simp⟩
      | some k' =>
        simp only [dropB, setN_eq, List.getElem?_set] at hk
        split at hk
        · split at hk <;> simp at hk
        · rename_i hne
          exact ⟨hk, fun hh => hne (by injection hh)⟩
    have hH : ∀ k b, HasH (e.addS sv) ⟨st.t, dropB st.h lost, st.fr, st.r ++ [some R]⟩ k b → HasH e st k b ∧ lost ≠ some k := fun k b ⟨cs, h1, h2⟩ => ⟨⟨cs, (hHg k cs h1).1, h2⟩, (hHg k cs h1).2⟩
    refine ⟨isVs_to hto F.fr, F.dfr, isV_to hto F.tm, hblw, F.lo, fun k b hb => Nat.lt_of_lt_of_le (F.hi k b hb) hg.size, F.nd, by rw [hHl]; exact F.len, ?_, F.ext.kept rfl hg.size hextB (fun k b h => .inl (hH k b h).1) ?_, F.pre, ?_⟩
    · intro k b cs hb hc
      obtain ⟨h3, h4⟩ := hHg k cs hc
      obtain ⟨vs, t, h1, h2⟩ := F.cells k b cs hb h3
      refine ⟨vs, t, ?_, isL_to hto h2⟩
      rw [hkeep b (F.hi k b hb) fun hh => ?_]
      · exact h1
      · rcases hB b hh.symm with h | ⟨k', h, cs', h5, h6⟩
        · exact F.rows.no q b h k ⟨cs, h3, hb⟩
        · exact h4 (by rw [h, F.nd k k' b hb h6])
    · rintro j b ⟨R', v', h1, h2, h3⟩
      by_cases hjq : j < st.r.length
      · simp only [List.getElem?_append_left hjq] at h1
        simp only [Env.addS, List.getElem?_append_left (by rw [F.rows.len]; exact hjq)] at h2
        exact .inl ⟨R', v', h1, h2, h3⟩
      · have hj : j = st.r.length := by
          have := (List.getElem?_eq_some_iff.1 h1).1
          simp at this; omega
        subst hj
        have hsl : st.r.length = e.sg.length := F.rows.len.symm
        simp only [Env.addS, hsl] at h2
        simp at h2
        subst h2
        rcases (hsv b h3).2 with h | h | ⟨k, _, h⟩
        · exact .inr (.inr h)
        · obtain ⟨R'', v'', g1, _⟩ := h
          have := (List.getElem?_eq_some_iff.1 g1).1
          omega
        · exact .inr (.inl ⟨k, h⟩)
    · have hnoR : ∀ g, ¬ HasR e st q g := fun g ⟨R', v', h1, _⟩ => by
        have := (List.getElem?_eq_some_iff.1 h1).1; omega
      refine F.rows.put (q := q) (R := R) (sv := sv) (xs := xs) (by simp [Env.addS, F.rows.len]) rfl (by simp [hqe]) (by simp [Env.addS, hqe, ← F.rows.len]) (fun j hj => ?_) hO hE hg.size (fun j b hj hb => hkeep b (F.rows.hi j b hb) fun hh => ?_) (fun g hg' => ?_) (fun k b h => (hH k b h).1)
      · by_cases hjq : j < st.r.length
        · exact ⟨by simp only [List.getElem?_append_left hjq], by simp only [Env.addS]; rw [List.getElem?_append_left (by rw [F.rows.len]; exact hjq)]⟩
        · have hl := F.rows.len
          refine ⟨?_, ?_⟩
          · rw [List.getElem?_eq_none (by simp; omega), List.getElem?_eq_none (by omega)]
          · simp only [Env.addS]
            rw [List.getElem?_eq_none (by simp; omega), List.getElem?_eq_none (by omega)]
      · rcases hB b hh.symm with h | ⟨k', h, h'⟩
        · exact hnoR b h
        · exact F.rows.no j b hb k' h'
      · obtain ⟨h1, h2⟩ := hsv g hg'
        rcases h2 with h2 | h2 | ⟨k, hk, h⟩
        · refine ⟨h1, .inl (Nat.le_trans F.blw.size h2), fun j hj hb => ?_, fun k hk => ?_⟩
          · have := F.rows.hi j g hb; omega
          · obtain ⟨⟨cs, _, h4⟩, _⟩ := hH k g hk
            have := F.hi k g h4; omega
        · exact absurd h2 (hnoR g)
        · obtain ⟨cs', h5, h6⟩ := h
          refine ⟨h1, F.lo k g h6, fun j hj hb => F.rows.no j g hb k ⟨cs', h5, h6⟩, fun k' hk' => ?_⟩
          obtain ⟨⟨cs, h7, h8⟩, h9⟩ := hH k' g hk'
          exact h9 (by rw [hk, F.nd k k' g h6 h8])
/-- A row of which an element was stored. -/
theorem Fit.rst (F : Fit e w0 st a s w) {q g : Nat} {R : ORow} {sv : Value} {xs : List Value} {w' : World} (h1 : e.sg[q]? = some sv) (h2 : sv.ownBlock = some g) (h3 : HasR e st q g) (h4 : OwnR w' R.es sv R.n xs) (h5 : ElsIs e.chi R xs) (h6 : w.grownBy w' (some g)) (h7 : w'.heap.size = w.heap.size) :
    Fit e w0 { st with r := setN st.r q (some R) } a s w' := by
  have hqlt : q < st.r.length := by
    obtain ⟨R', v', g1, _⟩ := h3
    exact (List.getElem?_eq_some_iff.1 g1).1
  have hkeep : ∀ b, b < w.heap.size → b ≠ g → w'.heap[b]? = w.heap[b]? := fun b hb hn => h6.block b hb (by simpa using hn)
  have hblw : KB w0 w' := ⟨h6.os.trans F.blw.os, h6.tape.trans F.blw.tape, h6.output.trans F.blw.output, Nat.le_trans F.blw.size h6.size, fun k hk hm => by
    rw [← F.blw.block k hk hm]
    refine hkeep k (Nat.lt_of_lt_of_le hk F.blw.size) fun hh => ?_
    subst hh
    rcases F.rows.lo q k h3 with h | h
    · omega
    · exact hm h⟩
  refine ⟨F.fr, F.dfr, F.tm, hblw, F.lo, fun k b hb => by rw [h7]; exact F.hi k b hb, F.nd, F.len, ?_, F.ext.kept rfl h6.size (fun b hb _ _ hn => hkeep b hb fun hh => hn q (hh ▸ h3)) (fun k b h => .inl h) ?_, F.pre, ?_⟩
  · intro k b cs hb hc
    obtain ⟨vs, t, g1, g2⟩ := F.cells k b cs hb hc
    refine ⟨vs, t, ?_, g2⟩
    rw [hkeep b (F.hi k b hb) fun hh => F.rows.no q g h3 k ⟨cs, hc, hh ▸ hb⟩]
    exact g1
  · rintro j b ⟨R', v', g1, g2, g3⟩
    by_cases hjq : j = q
    · subst hjq
      rw [h1] at g2; cases g2
      rw [h2] at g3; cases g3
      exact .inl h3
    · simp only [setN_eq, List.getElem?_set_ne (fun hh => hjq hh.symm)] at g1
      exact .inl ⟨R', v', g1, g2, g3⟩
  · refine F.rows.put (q := q) (R := R) (sv := sv) (xs := xs) (by simp [setN_eq, F.rows.len]) rfl (by simp [setN_eq, List.getElem?_set_self hqlt]) h1 (fun j hj => ⟨by simp [setN_eq, List.getElem?_set_ne (fun hh => hj hh.symm)], rfl⟩) h4 h5 h6.size (fun j b hj hb => hkeep b (F.rows.hi j b hb) fun hh => hj (F.rows.nd j q g (hh ▸ hb) h3)) (fun g' hg' => ?_) (fun k b h => h)
    rw [h2] at hg'; cases hg'
    exact ⟨by rw [h7]; exact F.rows.hi q g h3, F.rows.lo q g h3, fun j hj hb => hj (F.rows.nd j q g hb h3), fun k hk => F.rows.no q g h3 k hk⟩
theorem storeE_in {t k p : Nat} {X Y : SV} {cs : List SC} (h : storeE T st t X Y = .st k p cs) : ∃ old, st.h[k]? = some (some old) ∧ p + cs.length ≤ old.length := by
  unfold storeE at h
  split at h
  · split at h
    · rename_i y cs' l hz hk hl
      split at h
      · split at h
        · cases h
          rw [nth_eq] at hk
          exact ⟨_, hk, by omega⟩
        · cases h
      · cases h
    · cases h
  · (repeat' split at h) <;> (cases h; done)
  · (repeat' split at h) <;> (cases h; done)
  · cases h
theorem storeE_ask {t k p : Nat} {X Y : SV} {cs : List SC} {x : SC} (h : storeE T st t X Y = .askS k p cs x) : st.h[k]? = some (some cs) := by
  unfold storeE at h
  (repeat' split at h) <;> first | (cases h; done) | skip
  rename_i hk _
  cases h
  rw [nth_eq] at hk
  exact hk
theorem opE_ask {op : Op} {c : Nat → Nat → Row} {k p : Nat} {cs : List SC} {x : SC} (h : opE T c st op = .askS k p cs x) : st.h[k]? = some (some cs) := by
  unfold opE at h
  split at h
  all_goals first
    | exact storeE_ask h
    | (cases h; done)
    | ((repeat' split at h) <;> (cases h; done))
    | (unfold pickE at h; (repeat' split at h) <;> (cases h; done))
    | (unfold loadE at h; (repeat' split at h) <;> (cases h; done))
    | (unfold binE at h; (repeat' split at h) <;> (cases h; done))
    | (unfold fieldE at h; (repeat' split at h) <;> (cases h; done))
    | (unfold elemE at h; (repeat' split at h) <;> (cases h; done))
    | (unfold partE at h; (repeat' split at h) <;> (cases h; done))
    | (unfold indexE at h; (repeat' split at h) <;> (cases h; done))
    | (unfold lenE at h; (repeat' split at h) <;> (cases h; done))
    | (unfold sliceE at h; (repeat' split at h) <;> (cases h; done))
    | (unfold makeE at h; (repeat' split at h) <;> (cases h; done))
    | (unfold lenE appE at h; (repeat' split at h) <;> (cases h; done))
theorem opE_st {op : Op} {c : Nat → Nat → Row} {k p : Nat} {cs : List SC} (h : opE T c st op = .st k p cs) : ∃ old, st.h[k]? = some (some old) ∧ p + cs.length ≤ old.length := by
  unfold opE at h
  split at h
  all_goals first
    | exact storeE_in h
    | (cases h; done)
    | ((repeat' split at h) <;> (cases h; done))
    | (unfold pickE at h; (repeat' split at h) <;> (cases h; done))
    | (unfold loadE at h; (repeat' split at h) <;> (cases h; done))
    | (unfold binE at h; (repeat' split at h) <;> (cases h; done))
    | (unfold fieldE at h; (repeat' split at h) <;> (cases h; done))
    | (unfold elemE at h; (repeat' split at h) <;> (cases h; done))
    | (unfold partE at h; (repeat' split at h) <;> (cases h; done))
    | (unfold indexE at h; (repeat' split at h) <;> (cases h; done))
    | (unfold lenE at h; (repeat' split at h) <;> (cases h; done))
    | (unfold sliceE at h; (repeat' split at h) <;> (cases h; done))
    | (unfold makeE at h; (repeat' split at h) <;> (cases h; done))
    | (unfold lenE appE at h; (repeat' split at h) <;> (cases h; done))

end Go.Proofs.Ytbimggeapaaliaa
