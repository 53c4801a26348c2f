/- A second way to walk, its laws, third part: equality of structs, making of structs. No condition. -/
import Derived.Test.YtbimggeapaaliaaSxC
namespace Go.Proofs.Ytbimggeapaaliaa
open Go.RowKit
set_option linter.unusedVariables false
set_option linter.unusedSimpArgs false
variable {P : Program} {w : World}

/-! Equality. -/
theorem likeL_length : ∀ {z l : List SC}, likeL z l = true → z.length = l.length
  | [], [], _ => rfl
  | x :: xs, y :: ys, h => by simp only [likeL, Bool.and_eq_true] at h; simp [likeL_length h.2]
  | [], _ :: _, h => by simp [likeL] at h
  | _ :: _, [], h => by simp [likeL] at h
theorem likeL_take : ∀ {z l : List SC} (n : Nat), likeL z l = true → likeL (z.take n) (l.take n) = true
  | [], [], n, _ => by simp [likeL]
  | x :: xs, y :: ys, 0, _ => by simp [likeL]
  | x :: xs, y :: ys, n + 1, h => by
    simp only [likeL, Bool.and_eq_true] at h
    simp only [List.take_succ_cons, likeL, Bool.and_eq_true]
    exact ⟨h.1, likeL_take n h.2⟩
  | [], _ :: _, _, h => by simp [likeL] at h
  | _ :: _, [], _, h => by simp [likeL] at h
theorem likeL_drop : ∀ {z l : List SC} (n : Nat), likeL z l = true → likeL (z.drop n) (l.drop n) = true
  | [], [], n, _ => by simp [likeL]
  | x :: xs, y :: ys, 0, h => h
  | x :: xs, y :: ys, n + 1, h => by
    simp only [likeL, Bool.and_eq_true] at h
    simpa using likeL_drop n h.2
  | [], _ :: _, _, h => by simp [likeL] at h
  | _ :: _, [], _, h => by simp [likeL] at h
theorem eqL_cons {x y : SC} {xs ys : List SC} {b : Bool} (h : eqL and (x :: xs) (y :: ys) = some b) : ∃ a c, eqC x y = some a ∧ eqL and xs ys = some c ∧ b = (a && c) := by
  match xs, ys with
  | [], [] => exact ⟨b, true, by simpa [eqL] using h, by simp [eqL], by simp⟩
  | _ :: _, [] => simp only [eqL] at h; (repeat' split at h) <;> simp_all [eqL]
  | [], _ :: _ => simp only [eqL] at h; (repeat' split at h) <;> simp_all [eqL]
  | x' :: xs', y' :: ys' =>
    rw [eqL] at h
    · split at h
      · rename_i a c h1 h2
        cases h
        exact ⟨a, c, h1, h2, rfl⟩
      · cases h
    · intro a b; cases a
theorem eqL_of_cons {x y : SC} {xs ys : List SC} {a c : Bool} (h1 : eqC x y = some a) (h2 : eqL and xs ys = some c) : eqL and (x :: xs) (y :: ys) = some (a && c) := by
  match xs, ys with
  | [], [] => simp [eqL] at h2; subst h2; simp [eqL, h1]
  | _ :: _, [] => simp [eqL] at h2
  | [], _ :: _ => simp [eqL] at h2
  | x' :: xs', y' :: ys' =>
    rw [eqL]
    · simp [h1, h2]
    · intro a b; cases a
theorem eqL_split : ∀ {l l' : List SC} {b : Bool} (n : Nat), eqL and l l' = some b → ∃ b1 b2, eqL and (l.take n) (l'.take n) = some b1 ∧ eqL and (l.drop n) (l'.drop n) = some b2 ∧ b = (b1 && b2)
  | [], [], b, n, h => by simp [eqL] at h; subst h; exact ⟨true, true, by simp [eqL], by simp [eqL], rfl⟩
  | x :: xs, y :: ys, b, 0, h => ⟨true, b, by simp [eqL], h, by simp⟩
  | x :: xs, y :: ys, b, n + 1, h => by
    obtain ⟨a, c, h1, h2, rfl⟩ := eqL_cons h
    obtain ⟨b1, b2, g1, g2, rfl⟩ := eqL_split n h2
    exact ⟨a && b1, b2, by simpa using eqL_of_cons h1 g1, by simpa using g2, by simp [Bool.and_assoc]⟩
  | [], _ :: _, _, _, h => by simp [eqL] at h
  | _ :: _, [], _, _, h => by simp [eqL] at h
theorem isL_take {e : Env} {l : List SC} {vs : List Value} (h : isL e l vs) (n : Nat) : isL e (l.take n) (vs.take n) := by
  have := isL_cut h 0 n
  rw [cutL_eq] at this
  simpa using this
theorem isL_drop {e : Env} {l : List SC} {vs : List Value} (h : isL e l vs) (n : Nat) : isL e (l.drop n) (vs.drop n) := by
  have hl := isL_length h
  refine isL_of (by simp [hl]) (fun j c v h1 h2 => ?_)
  simp only [List.getElem?_drop] at h1 h2
  exact isL_at h h1 h2
def packV (g : Bool) (vs : List Value) : Value := if g then .agg vs.toArray else vs.headD undef
theorem run_part {t n o : Nat} {i : TypeInfo} {u : TypeDesc} (h1 : P.info? t = some i) (h2 : P.underlying t = some u) (hn : i.size = n) (hu : u.isRow = true ∨ n = 1) (xs : Array Value) (ho : o + n ≤ xs.size) :
    (part t xs o).run P w = .ok (packV u.isRow ((xs.toList.drop o).take n)) w := by
  unfold part packV
  rw [Sem.run_bind, run_isAgg h2]
  simp only [Result.andThen_ok]
  cases hr : u.isRow with
  | true =>
    simp only [if_true, Sem.run_bind, run_sizeOf' h1, Result.andThen_ok, Sem.run_pure, hn]
    congr 2
    apply Array.ext'
    simp [Array.toList_extract]
  | false =>
    have : n = 1 := by rcases hu with hu | hu; · rw [hr] at hu; cases hu
                       · exact hu
    subst this
    have hlt : o < xs.size := by omega
    have e : (xs.toList.drop o).take 1 = [xs[o]] := by
      rw [List.drop_eq_getElem_cons (by simpa using hlt)]; simp
    rw [e]
    simp [hlt]
theorem cmp_run (e : Env) : ∀ (d : Nat) (t : Nat) (z : List SC), cmpB P d t z = true → ∀ (D : Nat), d ≤ D → ∀ (u : TypeDesc), P.underlying t = some u → ∀ (l l' : List SC) (vs vs' : List Value) (b : Bool),
    likeL z l = true → likeL z l' = true → isL e l vs → isL e l' vs' → eqL and l l' = some b → (Op.equalIn D t (packV u.isRow vs) (packV u.isRow vs')).run P w = .ok b w
  | 0, t, z, h, _, _, _, _, _, _, _, _, _, _, _, _, _, _ => by simp [cmpB] at h
  | d + 1, t, z, h, D, hD, u, hu, l, l', vs, vs', b, k1, k2, i1, i2, hb => by
    obtain ⟨D, rfl⟩ : ∃ D', D = D' + 1 := ⟨D - 1, by omega⟩
    unfold cmpB at h
    rw [hu] at h
    cases u with
    | bool =>
      simp only at h
      split at h
      · match l, l', vs, vs', k1, k2, i1, i2, hb with
        | [x], [y], [v], [v'], k1, k2, i1, i2, hb =>
          simp only [likeL, Bool.and_true] at k1 k2
          have hx : ∃ p, v = .bool p ∧ (x = .bool p ∨ x = .lit p) := by
            cases x <;> simp [likeC] at k1
            · exact ⟨_, i1.1, .inl rfl⟩
            · exact ⟨_, i1.1, .inr rfl⟩
          have hy : ∃ q, v' = .bool q ∧ (y = .bool q ∨ y = .lit q) := by
            cases y <;> simp [likeC] at k2
            · exact ⟨_, i2.1, .inl rfl⟩
            · exact ⟨_, i2.1, .inr rfl⟩
          obtain ⟨p, rfl, hx⟩ := hx
          obtain ⟨q, rfl, hy⟩ := hy
          have : b = (p == q) := by rcases hx with rfl | rfl <;> rcases hy with rfl | rfl <;> simp [eqL, eqC] at hb <;> exact hb.symm
          subst this
          simp only [packV, Bool.false_eq_true, if_false, List.headD_cons]
          exact run_equalIn_bool' w D t p q hu
        | [], _, _, _, k1, _, _, _, _ => simp [likeL] at k1
        | _ :: _ :: _, _, _, _, k1, _, _, _, _ => simp [likeL] at k1
        | _, [], _, _, _, k2, _, _, _ => simp [likeL] at k2
        | _, _ :: _ :: _, _, _, _, k2, _, _, _ => simp [likeL] at k2
      · cases h
    | int k =>
      simp only at h
      split at h
      · rename_i k' n0
        match l, l', vs, vs', k1, k2, i1, i2, hb with
        | [x], [y], [v], [v'], k1, k2, i1, i2, hb =>
          simp only [likeL, Bool.and_true] at k1 k2
          have hx : ∃ p, v = .int k' p ∧ x = .int k' p := by
            cases x <;> simp [likeC] at k1
            subst k1; exact ⟨_, i1.1, rfl⟩
          have hy : ∃ p, v' = .int k' p ∧ y = .int k' p := by
            cases y <;> simp [likeC] at k2
            subst k2; exact ⟨_, i2.1, rfl⟩
          obtain ⟨p, rfl, rfl⟩ := hx
          obtain ⟨q, rfl, rfl⟩ := hy
          have : b = (p == q) := by simp [eqL, eqC] at hb; exact hb.symm
          subst this
          simp only [packV, Bool.false_eq_true, if_false, List.headD_cons]
          exact run_equalIn_int w D t k' k p q hu
        | [], _, _, _, k1, _, _, _, _ => simp [likeL] at k1
        | _ :: _ :: _, _, _, _, k1, _, _, _, _ => simp [likeL] at k1
        | _, [], _, _, _, k2, _, _, _ => simp [likeL] at k2
        | _, _ :: _ :: _, _, _, _, k2, _, _, _ => simp [likeL] at k2
      · cases h
    | struct fs =>
      simp only [Bool.and_eq_true, Bool.not_eq_true'] at h
      obtain ⟨⟨hst, _⟩, hgo⟩ := h
      simp only [packV, if_true]
      have hfs : P.fieldsOf t = fs := by simp [Program.fieldsOf, hu]
      rw [run_equalIn_agg w D t _ _ (by rw [hfs]; exact hu) hst, hfs]
      have key : ∀ (fs : List Field) (z : List SC) (o : Nat) (l l' : List SC) (b : Bool), o ≤ vs.length → o ≤ vs'.length → goC P (cmpB P d) fs z o = true → likeL z l = true → likeL z l' = true → isL e l (vs.drop o) → isL e l' (vs'.drop o) → eqL and l l' = some b →
          (Op.eqFields D vs.toArray vs'.toArray fs).run P w = .ok b w := by
        intro fs
        induction fs with
        | nil =>
          intro z o l l' b y1 y2 hg k1 k2 _ _ hb
          simp only [goC, List.isEmpty_iff] at hg
          subst hg
          match l, l', k1, k2 with
          | [], [], _, _ => simp [eqL] at hb; subst hb; simp [Op.eqFields]
          | _ :: _, _, k1, _ => simp [likeL] at k1
          | _, _ :: _, _, k2 => simp [likeL] at k2
        | cons f fs ih =>
          intro z o l l' b y1 y2 hg k1 k2 j1 j2 hb
          simp only [goC, Bool.and_eq_true, decide_eq_true_eq, beq_iff_eq] at hg
          obtain ⟨⟨hname, hoff⟩, hg⟩ := hg
          split at hg
          · rename_i i u' hi hu'
            simp only [Bool.and_eq_true, Bool.or_eq_true, beq_iff_eq, decide_eq_true_eq] at hg
            obtain ⟨⟨⟨hrow, hsz⟩, hc⟩, hrest⟩ := hg
            have n1 := likeL_length k1
            have n2 := likeL_length k2
            have m1 := isL_length j1
            have m2 := isL_length j2
            simp only [List.length_drop] at m1 m2
            obtain ⟨b1, b2, hb1, hb2, rfl⟩ := eqL_split i.size hb
            have q1 : (part f.type vs.toArray f.offset).run P w = .ok (packV u'.isRow ((vs.drop o).take i.size)) w := by
              have := run_part (w := w) hi hu' rfl hrow vs.toArray (o := o) (by simp; omega)
              rw [hoff]; simpa using this
            have q2 : (part f.type vs'.toArray f.offset).run P w = .ok (packV u'.isRow ((vs'.drop o).take i.size)) w := by
              have := run_part (w := w) hi hu' rfl hrow vs'.toArray (o := o) (by simp; omega)
              rw [hoff]; simpa using this
            have q3 := cmp_run e d f.type _ hc D (by omega) u' hu' _ _ _ _ b1 (likeL_take i.size k1) (likeL_take i.size k2) (isL_take j1 i.size) (isL_take j2 i.size) hb1
            simp only [Op.eqFields, if_pos hname, Sem.run_bind, q1, q2, q3, Result.andThen_ok, Sem.run_ite]
            cases b1 with
            | false => simp
            | true =>
              simp only [Bool.not_true, Bool.false_eq_true, if_false, Bool.true_and]
              refine ih (z.drop i.size) (o + i.size) (l.drop i.size) (l'.drop i.size) b2 (by omega) (by omega) hrest (likeL_drop _ k1) (likeL_drop _ k2) ?_ ?_ hb2
              · have := isL_drop j1 i.size; simpa [Nat.add_comm] using this
              · have := isL_drop j2 i.size; simpa [Nat.add_comm] using this
          · cases hg
      exact key fs.toList z 0 l l' b (Nat.zero_le _) (Nat.zero_le _) hgo k1 k2 (by simpa using i1) (by simpa using i2) hb
    | _ => simp at h

/-! Making of structs. -/
theorem fill_fold : ∀ (xs : List Value) (j : Nat) (off : Nat) (cs : Array Value), off + j + xs.length ≤ cs.size →
    ((xs.zipIdx j).foldl (fun (cs : Array Value) (p : Value × Nat) => cs.setIfInBounds (off + p.2) p.1) cs).toList = pasteL cs.toList (off + j) xs
  | [], j, off, cs, _ => by
    have : pasteL cs.toList (off + j) ([] : List Value) = cs.toList := by cases cs.toList <;> simp [pasteL]
    simp [this]
  | x :: xs, j, off, cs, h => by
    simp only [List.length_cons] at h
    simp only [List.zipIdx_cons, List.foldl_cons]
    rw [fill_fold xs (j + 1) off _ (by simp; omega)]
    apply List.ext_getElem?
    intro n
    simp only [Array.toList_setIfInBounds]
    rw [pasteL_get _ _ _ _ (by simp; omega), pasteL_get _ _ _ _ (by simp; omega)]
    simp only [List.length_cons, List.getElem?_set, Array.length_toList]
    by_cases g0 : n = off + j
    · subst g0
      have : off + j < off + (j + 1) := by omega
      simp [this]
      omega
    · have g0' : ¬ off + j = n := fun e => g0 e.symm
      by_cases g1 : n < off + j
      · have : n < off + (j + 1) := by omega
        simp [g1, this, g0']
      · have g2 : ¬ n < off + (j + 1) := by omega
        simp only [g1, g2, if_false, g0']
        by_cases g3 : n < off + (j + 1) + xs.length
        · rw [if_pos g3, if_pos (by omega)]
          have : n - (off + j) = (n - (off + (j + 1))) + 1 := by omega
          rw [this]; simp
        · rw [if_neg g3, if_neg (by omega)]
theorem fill_ok {e : Env} {st : St} {a : Act} (ht : isV e st.t a.tmps.toList) {fs : List (Nat × Nat × Bool)} {place : Nat → Option (Nat × Nat)} (hp : ∀ i o n g, fs[i]? = some (o, n, g) → place i = some (o, n)) :
    ∀ (parts : List (Nat × Operand)) (z cs : List SC) (zs : Array Value), isL e z zs.toList → fillE fs z parts st = some cs →
      ∃ vs, Instr.fill place zs (parts.map fun p => (p.1, a.eval p.2)) = some vs ∧ isL e cs vs.toList
  | [], z, cs, zs, hz, h => by simp only [fillE, Option.some.injEq] at h; subst h; exact ⟨zs, rfl, hz⟩
  | (i, x) :: l, z, cs, zs, hz, h => by
    simp only [fillE] at h
    split at h
    · rename_i o n g c h1 h2
      split at h
      · rename_i hn
        split at h
        · rename_i ho
          rw [nth_eq] at h1
          obtain ⟨hc, _⟩ := SV.cells_is (evO_is ht x) h2
          have lc := isL_length hc
          have lz := isL_length hz
          simp only [Array.length_toList] at lc lz
          have hz' := isL_paste hz hc o (by omega)
          have hf := fill_fold (a.eval x).cells.toList 0 o zs (by simp; omega)
          have hz'' : isL e (pasteL z o c) ((a.eval x).cells.zipIdx.foldl (fun (cs : Array Value) (p : Value × Nat) => cs.setIfInBounds (o + p.2) p.1) zs).toList := by
            rw [← Array.foldl_toList, Array.toList_zipIdx, hf]; exact hz'
          obtain ⟨vs, hv, hi⟩ := fill_ok ht hp l _ _ _ hz'' h
          refine ⟨vs, ?_, hi⟩
          simp only [List.map_cons, Instr.fill, hp _ _ _ _ h1]
          rw [if_neg (by simp; omega)]
          exact hv
        · cases h
      · cases h
    · cases h

end Go.Proofs.Ytbimggeapaaliaa
