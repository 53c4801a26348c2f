/- A second way to walk: rows of the call's own: append, make, cut, store. No condition. -/
import Derived.Test.YtbimggeapaaliaaSxD
import Derived.Laws.OwnMore
import Derived.Laws.MakeOwn
namespace Go.Proofs.Ytbimggeapaaliaa
open Go.RowKit
set_option linter.unusedVariables false
set_option linter.unusedSimpArgs false
variable {P : Program} {w : World}

theorem OwnR.len {w : World} {es n : Nat} {v : Value} {xs : List Value} (h : OwnR w es v n xs) : ∃ a c, v = .slice a n c := h.form
/-- Where a row's cells lie. -/
theorem OwnR.cell {es n : Nat} {g o cap : Nat} {xs : List Value} (h : OwnR w es (.slice (some ⟨g, o, none⟩) n cap) n xs) {j : Nat} {u : Value} (hj : xs[j]? = some u) : w.cell? ⟨g, o + j, none⟩ = some u := by
  rcases h.2.2 with ⟨hn, _⟩ | ⟨g', o', cap', cur, ty, hv, hg, hnc, hcm, hcs, ht⟩
  · cases hn
  · cases hv
    rw [cell_of_row w g (o + j) cur ty (0, 0) hg]
    rw [← ht] at hj
    simp only [List.getElem?_take, List.getElem?_drop] at hj
    split at hj
    · simpa using hj
    · cases hj
theorem OwnR.new (w : World) (es n c : Nat) (xs : List Value) (cur : Array Value) (ty : TypeId) (hl : xs.length = n * es) (h1 : ∀ u ∈ xs, u.oneCell' = true) (hn : n ≤ c) (hc : c ≤ maxLen) (hs : c * es ≤ cur.size) (ht : cur.toList.take (n * es) = xs) :
    OwnR (w.alloc (.cells cur ty)) es (.slice (some ⟨w.heap.size, 0, none⟩) n c) n xs :=
  ⟨hl, h1, .inr ⟨w.heap.size, 0, c, cur, ty, rfl, heap_alloc_new w _, hn, hc, by omega, by simpa using ht⟩⟩

/-- What lies behind: nil, or so many elements at an address. -/
def SrcAt (w : World) (es : Nat) (u : Value) (m : Nat) (news : List Value) : Prop :=
  news.length = m * es ∧ (∀ x ∈ news, x.oneCell' = true) ∧ (((∃ c, u = .slice none 0 c) ∧ m = 0) ∨ ∃ a c, u = .slice (some a) m c ∧ ∀ j x, news[j]? = some x → w.cell? (a.add j) = some x)
theorem OwnR.src {es n : Nat} {v : Value} {xs : List Value} (h : OwnR w es v n xs) : SrcAt w es v n xs := by
  refine ⟨h.1, h.2.1, ?_⟩
  rcases h.2.2 with ⟨rfl, rfl⟩ | ⟨g, o, cap, cur, ty, rfl, _⟩
  · exact .inl ⟨⟨_, rfl⟩, rfl⟩
  · exact .inr ⟨_, _, rfl, fun j x hj => by rw [Addr.add_mid]; exact h.cell hj⟩

theorem ownR_append (t ty e : TypeId) (i : TypeInfo) (z : Value) (es : Nat) (ht : P.underlying t = some (.slice e)) (hi : P.info? e = some i) (hz : i.zero = some z) (hsize : i.size = es) (hzs : z.cells.size = es) (hes : 0 < es) (hby : i.bytes ≤ 65536)
    (v u : Value) (n m : Nat) (xs news : List Value) (h : OwnR w es v n xs) (hs : SrcAt w es u m news) (hb : n + m ≤ 1073741824) :
    ∃ v' w', (Builtin.append_ #[t, t] ty #[v, u]).run P w = .ok v' w' ∧ OwnR w' es v' (n + m) (xs ++ news) ∧ w.grownBy w' v.ownBlock ∧ (∀ g, v'.ownBlock = some g → g < w'.heap.size ∧ (w.heap.size ≤ g ∨ v.ownBlock = some g)) := by
  subst hsize
  obtain ⟨hl, h1, hs⟩ := hs
  have hlen : (xs ++ news).length = (n + m) * i.size := by rw [List.length_append, h.1, hl, Nat.add_mul]
  have hone : ∀ x ∈ xs ++ news, x.oneCell' = true := fun x hx => by
    rcases List.mem_append.1 hx with hx | hx
    · exact h.2.1 x hx
    · exact h1 x hx
  have hsmall : n + m ≤ maxLen := by simp only [maxLen]; omega
  have hbytes : (n + m) * i.bytes ≤ 140737488355328 := by
    have : (n + m) * i.bytes ≤ 1073741824 * 65536 := Nat.mul_le_mul hb hby
    omega
  have grown : ∀ (old : Nat) (cur : List Value), cur.length = n * i.size → cur = xs → ∀ (row : Option Nat),
      OwnR (w.drew.alloc (.cells (cur.toArray ++ news.toArray ++ Builtin.zeroCells z.cells (grownCap w (n + m) old e - (n + m))) e)) i.size (.slice (some ⟨w.heap.size, 0, none⟩) (n + m) (grownCap w (n + m) old e)) (n + m) (xs ++ news) ∧
      w.grownBy (w.drew.alloc (.cells (cur.toArray ++ news.toArray ++ Builtin.zeroCells z.cells (grownCap w (n + m) old e - (n + m))) e)) row := by
    intro old cur hcl hcx row
    subst hcx
    have hge := grownCap_ge w (n + m) old e
    have hcm : grownCap w (n + m) old e ≤ maxLen := grownCap_le_maxLen w (n + m) old e hsmall
    refine ⟨OwnR.new w.drew i.size (n + m) _ _ _ e hlen hone hge hcm ?_ ?_, ⟨rfl, rfl, rfl, by simp, fun k hk _ => heap_alloc_old w.drew _ hk⟩⟩
    · simp only [Array.size_append, List.size_toArray, size_zeroCells, hzs, h.1, hl, ← Nat.add_mul]
      refine Nat.mul_le_mul_right _ ?_
      omega
    · simp only [Array.toList_append, List.append_assoc]
      rw [← List.append_assoc, ← hlen]
      exact List.take_left
  have gsz : ∀ o : Obj, (w.drew.alloc o).heap.size = w.heap.size + 1 := fun o => by simp
  rcases hs with ⟨⟨cu, rfl⟩, rfl⟩ | ⟨a, c, rfl, hcell⟩
  · obtain rfl : news = [] := List.eq_nil_of_length_eq_zero (by simpa using hl)
    refine ⟨v, w, ?_, by simpa using h, ⟨rfl, rfl, rfl, Nat.le_refl _, fun _ _ _ => rfl⟩, fun g hg => ?_⟩
    · rcases h.2.2 with ⟨rfl, rfl⟩ | ⟨g, o, cap, cur, ty', rfl, _, hnc, _⟩
      · simp [Builtin.append_, run_underlying ht, sizeOf, typeInfo, hi, Builtin.lenOf, Builtin.firstCells]
      · simp [Builtin.append_, run_underlying ht, sizeOf, typeInfo, hi, Builtin.lenOf, Builtin.firstCells, hnc, storeCells]
    · rcases h.2.2 with ⟨rfl, rfl⟩ | ⟨g', o, cap, cur, ty', rfl, hg', _⟩
      · simp [Value.ownBlock] at hg
      · simp only [Value.ownBlock, Option.some.injEq] at hg
        subst hg
        exact ⟨(Array.getElem?_eq_some_iff.1 hg').1, .inr rfl⟩
  · rcases h.2.2 with ⟨rfl, rfl⟩ | ⟨g, o, cap, cur, ty', rfl, hg, hnc, hcm, hcs, htk⟩
    · have hx : xs = [] := List.eq_nil_of_length_eq_zero (by simpa using h.1)
      subst hx
      by_cases hm : m = 0
      · subst hm
        have hn : news = [] := List.eq_nil_of_length_eq_zero (by simpa using hl)
        subst hn
        refine ⟨.slice none 0 0, w, ?_, ⟨by simp, by simp, .inl ⟨rfl, rfl⟩⟩, ⟨rfl, rfl, rfl, Nat.le_refl _, fun _ _ _ => rfl⟩, fun g hg => by simp [Value.ownBlock] at hg⟩
        simp [Builtin.append_, run_underlying ht, sizeOf, typeInfo, hi, Builtin.lenOf, Builtin.firstCells, loadCells, loadCellsFrom]
      · have hr := run_append_nil (P := P) w t ty e i z ht hi hz a m c news hl hcell (by omega) (by omega) (by have hb := hbytes; simp only [Nat.zero_add] at hb; omega)
        have hgr := grown 0 [] (by simp) rfl (Value.ownBlock (.slice none 0 0))
        simp only [Nat.zero_add, List.nil_append, Array.empty_append] at hgr ⊢
        exact ⟨_, _, hr, hgr.1, hgr.2, fun g hg => by
          simp only [Value.ownBlock, Option.some.injEq] at hg
          rw [gsz]
          exact ⟨by omega, .inl (by omega)⟩⟩
    · by_cases hroom : n + m ≤ cap
      · have hfc := run_firstCells_some (P := P) w i.size m a m c news hl hcell
        have hfit : o + n * i.size + news.length ≤ cur.size := by
          have : (n + m) * i.size ≤ cap * i.size := Nat.mul_le_mul_right _ hroom
          rw [Nat.add_mul] at this
          omega
        obtain ⟨w', e1, e2, e3, e4, e5, e6, e7⟩ := run_storeCells_own (P := P) news 0 w g (o + n * i.size) cur ty' hg (by simpa using hfit) h1
        refine ⟨.slice (some ⟨g, o, none⟩) (n + m) cap, w', ?_, ⟨hlen, hone, .inr ⟨g, o, cap, _, ty', rfl, e2, hroom, hcm, by simp [pasteL_length]; omega, ?_⟩⟩, ⟨e5, e6, e7, by omega, fun k _ hk => e3 k (fun hh => hk (by simp [Value.ownBlock, hh]))⟩, fun g' hg' => ?_⟩
        · simp [Builtin.append_, run_underlying ht, sizeOf, typeInfo, hi, Builtin.lenOf, hroom, hfc, add_lit', e1]
        · apply List.ext_getElem?
          intro j
          simp only [List.getElem?_take, List.getElem?_drop]
          have hx : ∀ j, j < n * i.size → cur.toList[o + j]? = xs[j]? := fun j hj => by
            rw [← htk]
            simp only [List.getElem?_take, List.getElem?_drop, if_pos hj]
          have hxl := h.1
          split
          · rename_i hj
            rw [pasteL_get _ _ _ _ (by simpa using hfit)]
            by_cases g1 : j < n * i.size
            · rw [if_pos (by omega), hx j g1, List.getElem?_append_left (by omega)]
            · rw [if_neg (by omega), if_pos (by rw [hl]; rw [Nat.add_mul] at hj; omega), List.getElem?_append_right (by omega)]
              congr 1
              omega
          · rename_i hj
            rw [List.getElem?_eq_none (by omega)]
        · simp only [Value.ownBlock, Option.some.injEq] at hg'
          subst hg'
          rw [e4]
          exact ⟨(Array.getElem?_eq_some_iff.1 hg).1, .inr rfl⟩
      · have holds : ∀ j u, xs[j]? = some u → w.cell? ((⟨g, o, none⟩ : Addr).add j) = some u := fun j u hj => by rw [Addr.add_mid]; exact h.cell hj
        have hr := run_append_grow (P := P) w t ty e i z ht hi hz ⟨g, o, none⟩ n cap xs h.1 holds a m c news hl hcell (by omega) (by simp only [maxLen] at hsmall; omega) (growslice_fits (by omega) hbytes)
        have hgr := grown cap xs h.1 rfl (Value.ownBlock (.slice (some ⟨g, o, none⟩) n cap))
        exact ⟨_, _, hr, hgr.1, hgr.2, fun g' hg' => by
          simp only [Value.ownBlock, Option.some.injEq] at hg'
          rw [gsz]
          exact ⟨by omega, .inl (by omega)⟩⟩

theorem repL_is {e : Env} {z : List SC} {zs : List Value} (h : isL e z zs) : ∀ n, isL e (repL n z) (repL n zs)
  | 0 => trivial
  | n + 1 => isL_append h (repL_is h n)
theorem repL_length {α : Type} (l : List α) : ∀ n, (repL n l).length = n * l.length
  | 0 => by simp [repL]
  | n + 1 => by simp [repL, repL_length l n, Nat.succ_mul, Nat.add_comm]
theorem repL_get {α : Type} (l : List α) (hl : 0 < l.length) : ∀ (n j : Nat), j < n * l.length → (repL n l)[j]? = l[j % l.length]?
  | 0, j, h => by simp at h
  | n + 1, j, h => by
    rw [Nat.succ_mul] at h
    simp only [repL]
    by_cases g : j < l.length
    · rw [List.getElem?_append_left g, Nat.mod_eq_of_lt g]
    · have : j % l.length = (j - l.length) % l.length := Nat.mod_eq_sub_mod (by omega)
      rw [List.getElem?_append_right (by omega), repL_get l hl n (j - l.length) (by omega), this]
theorem madeCells_toList (z : Array Value) (es : Nat) (hz : z.size = es) (hes : 0 < es) (n : Nat) : (madeCells z (n * es)).toList = repL n z.toList := by
  apply List.ext_getElem?
  intro q
  by_cases g : q < n * es
  · rw [repL_get _ (by simp; omega) _ _ (by simpa [hz] using g)]
    have hm : q % z.size < z.size := Nat.mod_lt _ (by omega)
    simp [madeCells, g, hm]
  · rw [List.getElem?_eq_none (by simp [madeCells]; omega), List.getElem?_eq_none (by simp [repL_length, hz]; omega)]
theorem repL_cut {α : Type} (l : List α) {es : Nat} (hl : l.length = es) (hes : 0 < es) {n j : Nat} (hj : j < n) : ((repL n l).drop (j * es)).take es = l := by
  apply List.ext_getElem?
  intro q
  simp only [List.getElem?_take, List.getElem?_drop]
  split
  · rename_i hq
    have : j * es + q < n * l.length := by
      have : (j + 1) * es ≤ n * es := Nat.mul_le_mul_right _ hj
      rw [hl]; rw [Nat.succ_mul] at this; omega
    rw [repL_get l (by omega) n _ this, hl]
    congr 1
    rw [Nat.mul_comm, Nat.mul_add_mod]
    exact Nat.mod_eq_of_lt hq
  · rename_i hq
    rw [List.getElem?_eq_none (by omega)]
theorem ownR_make (t e : TypeId) (i : TypeInfo) (z : Value) (es : Nat) (ht : P.underlying t = some (.slice e)) (hi : P.info? e = some i) (hz : i.zero = some z) (hsize : i.size = es) (hzs : z.cells.size = es) (hes : 0 < es) (hby : i.bytes ≤ 65536) (h1 : ∀ u ∈ z.cells.toList, u.oneCell' = true)
    (kl kc : IntKind) (x : Int) (h0 : 0 ≤ x) (hb : x ≤ 1073741824) :
    ∃ w', (Instr.makeSlice t (.int kl x) (.int kc x)).run P w = .ok (.slice (some ⟨w.heap.size, 0, none⟩) x.toNat x.toNat) w' ∧ OwnR w' es (.slice (some ⟨w.heap.size, 0, none⟩) x.toNat x.toNat) x.toNat (repL x.toNat z.cells.toList) ∧ w.grownBy w' none ∧ w'.heap.size = w.heap.size + 1 := by
  subst hsize
  have hbytes : (i.bytes : Int) * x ≤ 281474976710656 := by
    have : (i.bytes : Int) * x ≤ 65536 * 1073741824 := by
      have h2 : (i.bytes : Int) ≤ 65536 := by omega
      calc (i.bytes : Int) * x ≤ 65536 * x := Int.mul_le_mul_of_nonneg_right h2 h0
        _ ≤ 65536 * 1073741824 := Int.mul_le_mul_of_nonneg_left hb (by omega)
    omega
  have hr := run_make (P := P) (w := w) t e i z ht hi hz kl kc x x h0 (Int.le_refl _) hbytes (by omega)
  have hm := madeCells_toList z.cells i.size hzs hes x.toNat
  refine ⟨_, hr, OwnR.new w i.size x.toNat x.toNat _ _ e (by simp [repL_length, hzs]) ?_ (Nat.le_refl _) (by simp only [maxLen]; omega) ?_ ?_, World.grownBy_alloc w _ none, by simp⟩
  · intro u hu
    have : ∀ n, u ∈ repL n z.cells.toList → u ∈ z.cells.toList := by
      intro n
      induction n with
      | zero => intro h; simp [repL] at h
      | succ n ih =>
        intro h
        simp only [repL, List.mem_append] at h
        rcases h with h | h
        · exact h
        · exact ih h
    exact h1 u (this _ hu)
  · simp [madeCells]
  · rw [hm]
    have : (repL x.toNat z.cells.toList).length = x.toNat * i.size := by simp [repL_length, hzs]
    rw [← this]
    exact List.take_length
theorem OwnR.cut {es n : Nat} {a : Option Addr} {c : Nat} {xs : List Value} (h : OwnR w es (.slice a n c) n xs) {l : Nat} (hl : l ≤ n) : OwnR w es (.slice (if c = l then a else a.map (·.add (l * es))) (n - l) (c - l)) (n - l) (xs.drop (l * es)) := by
  refine ⟨by rw [List.length_drop, h.1, Nat.sub_mul], fun u hu => h.2.1 u (List.mem_of_mem_drop hu), ?_⟩
  rcases h.2.2 with ⟨hv, rfl⟩ | ⟨g, o, cap, cur, ty, hv, hg, hnc, hcm, hcs, ht⟩
  · cases hv
    refine .inl ⟨?_, by omega⟩
    simp
  · cases hv
    by_cases hcl : c = l
    · have hnl : n = l := by omega
      refine .inr ⟨g, o, 0, cur, ty, ?_, hg, by omega, by simp [maxLen], by simp at hcs ⊢; omega, ?_⟩
      · rw [if_pos hcl]; simp [hcl]
      · subst hnl
        have := h.1
        have hd : xs.drop (n * es) = [] := List.drop_of_length_le (by omega)
        rw [hd]
        simp
    · have hle : l * es + (c - l) * es = c * es := by rw [← Nat.add_mul]; congr 1; omega
      refine .inr ⟨g, o + l * es, c - l, cur, ty, ?_, hg, by omega, by omega, by omega, ?_⟩
      · rw [if_neg hcl]; simp [add_lit']
      · rw [← ht, List.drop_take, List.drop_drop, Nat.sub_mul]
theorem ownR_store {es n : Nat} {g o c : Nat} {xs : List Value} (h : OwnR w es (.slice (some ⟨g, o, none⟩) n c) n xs) {j p : Nat} {vs : List Value} (hj : j < n) (hp : p + vs.length ≤ es) (h1 : ∀ u ∈ vs, u.oneCell' = true) :
    ∃ w', (storeCells ⟨g, o + (j * es + p), none⟩ vs 0).run P w = .ok () w' ∧ OwnR w' es (.slice (some ⟨g, o, none⟩) n c) n (pasteL xs (j * es + p) vs) ∧ w.grownBy w' (some g) ∧ w'.heap.size = w.heap.size := by
  rcases h.2.2 with ⟨hn, _⟩ | ⟨g', o', cap', cur, ty, hv, hg, hnc, hcm, hcs, ht⟩
  · cases hn
  · cases hv
    have hje : (j + 1) * es ≤ n * es := Nat.mul_le_mul_right _ hj
    have hne : n * es ≤ c * es := Nat.mul_le_mul_right _ hnc
    rw [Nat.succ_mul] at hje
    have hxl := h.1
    obtain ⟨w', e1, e2, e3, e4, e5, e6, e7⟩ := run_storeCells_own (P := P) vs 0 w g (o + (j * es + p)) cur ty hg (by omega) h1
    refine ⟨w', e1, ⟨by rw [pasteL_length, hxl], ?_, .inr ⟨g, o, c, _, ty, rfl, e2, hnc, hcm, by simp [pasteL_length]; omega, ?_⟩⟩, ⟨e5, e6, e7, by omega, fun k _ hk => e3 k (fun hh => hk (by rw [hh]))⟩, e4⟩
    · intro u hu
      obtain ⟨q, hq⟩ := List.mem_iff_getElem?.1 hu
      rw [pasteL_get _ _ _ _ (by omega)] at hq
      split at hq
      · exact h.2.1 u (List.mem_iff_getElem?.2 ⟨_, hq⟩)
      · split at hq
        · exact h1 u (List.mem_iff_getElem?.2 ⟨_, hq⟩)
        · exact h.2.1 u (List.mem_iff_getElem?.2 ⟨_, hq⟩)
    · have hx : ∀ q, q < n * es → cur.toList[o + q]? = xs[q]? := fun q hq => by
        rw [← ht]
        simp only [List.getElem?_take, List.getElem?_drop, if_pos hq]
      apply List.ext_getElem?
      intro q
      simp only [List.getElem?_take, List.getElem?_drop]
      split
      · rename_i hq
        rw [pasteL_get _ _ _ _ (by simp; omega), pasteL_get _ _ _ _ (by omega)]
        by_cases g1 : q < j * es + p
        · rw [if_pos (by omega), if_pos g1, hx q hq]
        · rw [if_neg (by omega), if_neg g1]
          by_cases g2 : q < j * es + p + vs.length
          · rw [if_pos (by omega), if_pos g2]
            congr 1
            omega
          · rw [if_neg (by omega), if_neg g2, hx q hq]
      · rename_i hq
        rw [List.getElem?_eq_none (by rw [pasteL_length]; omega)]

end Go.Proofs.Ytbimggeapaaliaa
