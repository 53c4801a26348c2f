/- A second way to walk: calls that hand back rows of their own, and that are handed such rows; nil made a row. No condition. -/
import Derived.Test.YtbimggeapaaliaaSxI
namespace Go.Proofs.Ytbimggeapaaliaa
open Go.RowKit
set_option linter.unusedVariables false
set_option linter.unusedSimpArgs false

/-- Rows in new memory, each in its own. -/
structure RowsAt (w : World) (c : Nat → Nat → Row) (lo : Nat) (g : List Value) (r : List ORow) : Prop where
  len : g.length = r.length
  row : ∀ (i : Nat) (R : ORow), r[i]? = some R → ∃ v xs, g[i]? = some v ∧ OwnR w R.es v R.n xs ∧ ElsIs c R xs ∧ ∀ b, v.ownBlock = some b → lo ≤ b ∧ b < w.heap.size
  nd : ∀ (i j b : Nat) (v v' : Value), g[i]? = some v → g[j]? = some v' → v.ownBlock = some b → v'.ownBlock = some b → i = j
/-- Returns what x says, where the rows that it names are these, in new memory; all that was there is as it was. -/
def RetR (w : World) (c : Nat → Nat → Row) (x : SV) (r : List ORow) : Ending → World → Prop := fun en w' => ∃ v g, en = .returned v ∧ Below w.heap.size w w' ∧ RowsAt w' c w.heap.size g r ∧ x.is ⟨[], c, g⟩ v
/-- A slice's value and what it holds. -/
def RowIs (c : Nat → Nat → Row) (w : World) (R : ORow) (v : Value) : Prop := ∃ xs, OwnR w R.es v R.n xs ∧ ElsIs c R xs ∧ ∀ b, v.ownBlock = some b → b < w.heap.size

/-! The end. -/
inductive RSrc where
  | own (q : Nat)
  | blk (k n c : Nat)
  | nil
def selC : SC → SC → List RSrc
  | .rs q, .rs _ => [.own q]
  | .sl k 0 n c, .rs _ => [.blk k n c]
  | .val (.slice none 0 0), .rs _ => [.nil]
  | _, _ => []
def appL {α : Type} : List α → List α → List α
  | [], l => l
  | a :: l, m => a :: appL l m
theorem appL_eq {α : Type} : ∀ l m : List α, appL l m = l ++ m
  | [], m => rfl
  | a :: l, m => by simp [appL, appL_eq l m]
def selL : List SC → List SC → List RSrc
  | c :: l, d :: m => appL (selC c d) (selL l m)
  | _, _ => []
def selA : SA → SA → List RSrc
  | .one c, .one d => selC c d
  | .agg l, .agg m => selL l m
  | _, _ => []
def selAs : List SA → List SA → List RSrc
  | c :: l, d :: m => appL (selA c d) (selAs l m)
  | _, _ => []
def selV : SV → SV → List RSrc
  | .pt a, .pt b => selA a b
  | .tup l, .tup m => selAs l m
  | _, _ => []
def chkC (sel : List RSrc) : SC → SC → Prop
  | .rs q, .rs i => nth sel i = some (.own q)
  | .sl k 0 n c, .rs i => nth sel i = some (.blk k n c)
  | .val (.slice none 0 0), .rs i => nth sel i = some .nil
  | c, d => c.free = true ∧ leCell c d
def chkL (sel : List RSrc) : List SC → List SC → Prop
  | [], [] => True
  | c :: l, d :: m => chkC sel c d ∧ chkL sel l m
  | _, _ => False
def chkA (sel : List RSrc) : SA → SA → Prop
  | .one c, .one d => chkC sel c d
  | .agg l, .agg m => chkL sel l m
  | _, _ => False
def chkAs (sel : List RSrc) : List SA → List SA → Prop
  | [], [] => True
  | c :: l, d :: m => chkA sel c d ∧ chkAs sel l m
  | _, _ => False
def chkV (sel : List RSrc) : SV → SV → Prop
  | .pt a, .pt b => chkA sel a b
  | .tup l, .tup m => chkAs sel l m
  | _, _ => False
/-- A literal's cells as a row's. -/
structure BlkLe (cs : List SC) (n c : Nat) (R : ORow) : Prop where
  hn : n = R.n
  nc : n ≤ c
  cb : c ≤ 1073741824
  len : c * R.es ≤ cs.length
  free : freeL cs = true
  solid : solidL cs = true
  el : ∀ j, j < n → leCL (cutL cs (j * R.es) R.es) (R.el j)
structure NilLe (R : ORow) : Prop where
  n : R.n = 0
def srcP (st : St) : RSrc → ORow → Prop
  | .own q, R => match nth st.r q with | some (some R0) => RowLe R0 R | _ => False
  | .blk k n c, R => match nth st.h k with | some (some cs) => BlkLe cs n c R | _ => False
  | .nil, R => NilLe R
def srcPs (st : St) : List RSrc → List ORow → Prop
  | [], [] => True
  | s :: l, R :: r => srcP st s R ∧ srcPs st l r
  | _, _ => False
def hasS : List RSrc → RSrc → Bool
  | [], _ => false
  | .own q :: l, .own q' => decide (q = q') || hasS l (.own q')
  | .blk k _ _ :: l, .blk k' n c => decide (k = k') || hasS l (.blk k' n c)
  | _ :: l, s => hasS l s
def ndS : List RSrc → Bool
  | [] => true
  | s :: l => !hasS l s && ndS l

section
variable {P : Program} {Q : Exit → Act → World → Prop} {c : Nat → Nat → Row} {w0 : Base} {T : Tb}
def RSrc.val (e : Env) : RSrc → Value
  | .own q => (e.sg[q]?).getD undef
  | .blk k n c => .slice (some ⟨(e.rho[k]?).getD 0, 0, none⟩) n c
  | .nil => .slice none 0 0
theorem chkC_is {e : Env} {sel : List RSrc} {x y : SC} {v : Value} (hc : e.chi = c) (h : chkC sel x y) (hx : x.is e v) : y.is ⟨[], c, sel.map (RSrc.val e)⟩ v := by
  unfold chkC at h
  split at h
  · rw [nth_eq] at h
    refine ⟨?_, hx.2⟩
    simp only [List.getElem?_map, h, Option.map_some, RSrc.val]
    rw [hx.1]; rfl
  · rw [nth_eq] at h
    obtain ⟨b, hb, rfl⟩ := hx
    refine ⟨?_, rfl⟩
    simp only [List.getElem?_map, h, Option.map_some, RSrc.val]
    rw [hb]; rfl
  · rw [nth_eq] at h
    have hx : v = _ := hx
    subst hx
    refine ⟨?_, rfl⟩
    simp only [List.getElem?_map, h, Option.map_some, RSrc.val]
  · have := free_nil h.1 hx
    rw [hc] at this
    exact SC.is_nil (leCell_is h.2 this)
theorem chkL_is {e : Env} {sel : List RSrc} (hc : e.chi = c) : ∀ {x y : List SC} {v : List Value}, chkL sel x y → isL e x v → isL ⟨[], c, sel.map (RSrc.val e)⟩ y v
  | [], [], [], _, _ => trivial
  | _ :: _, _ :: _, _ :: _, h, hx => ⟨chkC_is hc h.1 hx.1, chkL_is hc h.2 hx.2⟩
  | [], _ :: _, _, h, _ => h.elim
  | _ :: _, [], _, h, _ => h.elim
  | _ :: _, _ :: _, [], _, h => h.elim
  | [], [], _ :: _, _, h => h.elim
theorem chkA_is {e : Env} {sel : List RSrc} {x y : SA} {v : Value} (hc : e.chi = c) (h : chkA sel x y) (hx : x.is e v) : y.is ⟨[], c, sel.map (RSrc.val e)⟩ v := by
  unfold chkA at h
  split at h
  · exact chkC_is hc h hx
  · obtain ⟨vs, rfl, hl⟩ := hx; exact ⟨vs, rfl, chkL_is hc h hl⟩
  · exact h.elim
theorem chkAs_is {e : Env} {sel : List RSrc} (hc : e.chi = c) : ∀ {x y : List SA} {v : List Value}, chkAs sel x y → isA e x v → isA ⟨[], c, sel.map (RSrc.val e)⟩ y v
  | [], [], [], _, _ => trivial
  | _ :: _, _ :: _, _ :: _, h, hx => ⟨chkA_is hc h.1 hx.1, chkAs_is hc h.2 hx.2⟩
  | [], _ :: _, _, h, _ => h.elim
  | _ :: _, [], _, h, _ => h.elim
  | _ :: _, _ :: _, [], _, h => h.elim
  | [], [], _ :: _, _, h => h.elim
theorem chkV_is {e : Env} {sel : List RSrc} {x y : SV} {v : Value} (hc : e.chi = c) (h : chkV sel x y) (hx : x.is e v) : y.is ⟨[], c, sel.map (RSrc.val e)⟩ v := by
  unfold chkV at h
  split at h
  · exact chkA_is hc h hx
  · obtain ⟨vs, rfl, hl⟩ := hx; exact ⟨vs, rfl, chkAs_is hc h hl⟩
  · exact h.elim
theorem BlkLe.own {e : Env} {st : St} {a : Act} {s : List Act} {w : World} (F : Fit e w0 st a s w) {k n c' : Nat} {cs : List SC} {R : ORow} (hk : st.h[k]? = some (some cs)) (h : BlkLe cs n c' R) :
    ∃ b xs, e.rho[k]? = some b ∧ OwnR w R.es (.slice (some ⟨b, 0, none⟩) n c') R.n xs ∧ ElsIs e.chi R xs := by
  have hkl : k < e.rho.length := by rw [F.len]; exact (List.getElem?_eq_some_iff.1 hk).1
  obtain ⟨b, hb⟩ : ∃ b, e.rho[k]? = some b := ⟨_, List.getElem?_eq_getElem hkl⟩
  obtain ⟨vs, t, hw, hl⟩ := F.cells k b cs hb hk
  have hlen := isL_length hl
  simp only [Array.length_toList] at hlen
  have hnc := Nat.mul_le_mul_right R.es h.nc
  have h1 := h.len
  refine ⟨b, vs.toList.take (n * R.es), hb, ?_, ?_⟩
  · rw [← h.hn]
    refine ⟨by simp; omega, fun u hu => solidL_one hl h.solid u (List.mem_of_mem_take hu), .inr ⟨b, 0, c', vs, t, rfl, hw, h.nc, by simp only [maxLen]; have := h.cb; omega, by omega, by simp⟩⟩
  · intro j hj
    rw [← h.hn] at hj
    have hje : (j + 1) * R.es ≤ n * R.es := Nat.mul_le_mul_right _ hj
    rw [Nat.succ_mul] at hje
    have := leCL_is (h.el j hj) (isL_cut (freeL_nil h.free hl) (j * R.es) R.es)
    refine Eq.mp ?_ this
    congr 1
    rw [List.drop_take, List.take_take]
    congr 1
    omega
theorem ret_rows {e : Env} {st : St} {a : Act} {s : List Act} {w w' : World} (F : Fit e ⟨w, []⟩ st a s w') {X x : SV} {r : List ORow} {sel : List RSrc} {v : Value} (hc : e.chi = c) (hX : X.is e v) (hx : chkV sel X x) (hr : srcPs st sel r) (hn : ndS sel = true) : RetR w c x r (.returned v) w' := by
  have hsrc : ∀ (sel : List RSrc) (r : List ORow), srcPs st sel r → sel.length = r.length ∧ ∀ (i : Nat) (R : ORow), r[i]? = some R → ∃ s, sel[i]? = some s ∧ srcP st s R := by
    intro sel
    induction sel with
    | nil => intro r h; cases r with
      | nil => exact ⟨rfl, fun i R hi => by simp at hi⟩
      | cons => exact h.elim
    | cons s l ih => intro r h; cases r with
      | nil => exact h.elim
      | cons R r =>
        obtain ⟨h1, h2⟩ := ih r h.2
        refine ⟨by simp [h1], fun i R' hi => ?_⟩
        cases i with
        | zero => simp at hi; subst hi; exact ⟨s, by simp, h.1⟩
        | succ i => simpa using h2 i R' (by simpa using hi)
  obtain ⟨hlen, hsrc⟩ := hsrc sel r hr
  have key : ∀ (i : Nat) (R : ORow), r[i]? = some R → ∃ s xs, sel[i]? = some s ∧ OwnR w' R.es (s.val e) R.n xs ∧ ElsIs c R xs ∧ ∀ b, (s.val e).ownBlock = some b → (w.heap.size ≤ b ∧ b < w'.heap.size) ∧ ((∃ q, s = .own q ∧ HasR e st q b) ∨ ∃ k n c, s = .blk k n c ∧ HasH e st k b) := by
    intro i R hi
    obtain ⟨s, h1, h2⟩ := hsrc i R hi
    cases s with
    | own q =>
      simp only [srcP, nth_eq] at h2
      split at h2
      · rename_i R0 hq
        obtain ⟨v, xs, h3, h4, h5⟩ := F.rows.row q R0 hq
        refine ⟨_, xs, h1, ?_, ?_, fun b hb => ?_⟩
        · simp only [RSrc.val, h3, Option.getD_some, ← h2.n, ← h2.es]; exact h4
        · rw [← hc]; exact h2.els h5
        · simp only [RSrc.val, h3, Option.getD_some] at hb
          have hR : HasR e st q b := ⟨R0, v, hq, h3, hb⟩
          refine ⟨⟨?_, F.rows.hi q b hR⟩, .inl ⟨q, rfl, hR⟩⟩
          rcases F.rows.lo q b hR with h | h
          · exact h
          · simp at h
      · exact h2.elim
    | blk k n c' =>
      simp only [srcP, nth_eq] at h2
      split at h2
      · rename_i cs hk
        obtain ⟨b, xs, h3, h4, h5⟩ := h2.own F hk
        refine ⟨_, xs, h1, ?_, by rw [← hc]; exact h5, fun b' hb => ?_⟩
        · simp only [RSrc.val, h3, Option.getD_some]; exact h4
        · simp only [RSrc.val, h3, Option.getD_some, Value.ownBlock, Option.some.injEq] at hb
          subst hb
          refine ⟨⟨?_, F.hi k b h3⟩, .inr ⟨k, n, c', rfl, cs, hk, h3⟩⟩
          rcases F.lo k b h3 with h | h
          · exact h
          · simp at h
      · exact h2.elim
    | nil =>
      have h0 : R.n = 0 := NilLe.n h2
      exact ⟨_, [], h1, ⟨by simp [h0], by simp, .inl ⟨rfl, h0⟩⟩, fun j hj => by omega, fun b hb => by simp [RSrc.val, Value.ownBlock] at hb⟩
  have hnd : ∀ (l : List RSrc), ndS l = true → ∀ (i j : Nat), i < j → ∀ (s s' : RSrc), l[i]? = some s → l[j]? = some s' → (∀ q, s = .own q → s' ≠ .own q) ∧ (∀ k n c, s = .blk k n c → ∀ n' c', s' ≠ .blk k n' c') := by
    have hh : ∀ (l : List RSrc) (s : RSrc), hasS l s = false → ∀ (j : Nat) (s' : RSrc), l[j]? = some s' → (∀ q, s = .own q → s' ≠ .own q) ∧ (∀ k n c, s = .blk k n c → ∀ n' c', s' ≠ .blk k n' c') := by
      intro l
      induction l with
      | nil => intro s _ j s' hj; simp at hj
      | cons t l ih =>
        intro s hs j s' hj
        cases j with
        | zero =>
          simp at hj; subst hj
          cases s <;> cases t <;> simp_all [hasS]
        | succ j =>
          refine ih s ?_ j s' (by simpa using hj)
          cases s <;> cases t <;> simp_all [hasS]
    intro l
    induction l with
    | nil => intro _ i j _ s s' hi; simp at hi
    | cons t l ih =>
      intro hl i j hij s s' hi hj
      simp only [ndS, Bool.and_eq_true, Bool.not_eq_true'] at hl
      obtain ⟨j', rfl⟩ : ∃ j', j = j' + 1 := ⟨j - 1, by omega⟩
      simp only [List.getElem?_cons_succ] at hj
      cases i with
      | zero => simp at hi; subst hi; exact hh l t hl.1 j' s' hj
      | succ i => exact ih hl.2 i j' (by omega) s s' (by simpa using hi) hj
  refine ⟨v, sel.map (RSrc.val e), rfl, F.blw.below, ⟨by simp [hlen], fun i R hi => ?_, fun i j b u u' hi hj hu hu' => ?_⟩, chkV_is hc hx hX⟩
  · obtain ⟨s, xs, h1, h2, h3, h4⟩ := key i R hi
    exact ⟨s.val e, xs, by simp [h1], h2, h3, fun b hb => (h4 b hb).1⟩
  · simp only [List.getElem?_map, Option.map_eq_some_iff] at hi hj
    obtain ⟨s, hs, rfl⟩ := hi
    obtain ⟨s', hs', rfl⟩ := hj
    have hil : i < r.length := by rw [← hlen]; exact (List.getElem?_eq_some_iff.1 hs).1
    have hjl : j < r.length := by rw [← hlen]; exact (List.getElem?_eq_some_iff.1 hs').1
    obtain ⟨t, _, h1, _, _, h2⟩ := key i _ (List.getElem?_eq_getElem hil)
    obtain ⟨t', _, h1', _, _, h2'⟩ := key j _ (List.getElem?_eq_getElem hjl)
    rw [hs] at h1; cases h1
    rw [hs'] at h1'; cases h1'
    have hd := hnd sel hn
    have sym : ∀ (i j : Nat) (s s' : RSrc), i < j → sel[i]? = some s → sel[j]? = some s' → (s.val e).ownBlock = some b → (s'.val e).ownBlock = some b → ((∃ q, s = .own q ∧ HasR e st q b) ∨ ∃ k n c, s = .blk k n c ∧ HasH e st k b) → ((∃ q, s' = .own q ∧ HasR e st q b) ∨ ∃ k n c, s' = .blk k n c ∧ HasH e st k b) → False := by
      intro i j s s' hij hs hs' _ _ g1 g2
      have := hd i j hij s s' hs hs'
      rcases g1 with ⟨q, rfl, g1⟩ | ⟨k, n, c', rfl, g1⟩ <;> rcases g2 with ⟨q', rfl, g2⟩ | ⟨k', n', c'', rfl, g2⟩
      · have := F.rows.nd q q' b g1 g2
        subst this
        exact (hd i j hij _ _ hs hs').1 q rfl rfl
      · exact F.rows.no q b g1 k' g2
      · exact F.rows.no q' b g2 k g1
      · obtain ⟨_, _, g3⟩ := g1
        obtain ⟨_, _, g4⟩ := g2
        have := F.nd k k' b g3 g4
        subst this
        exact (hd i j hij _ _ hs hs').2 k n c' rfl n' c'' rfl
    rcases Nat.lt_trichotomy i j with h | h | h
    · exact (sym i j s s' h hs hs' hu hu' (h2 b hu).2 (h2' b hu').2).elim
    · exact h
    · exact (sym j i s' s h hs' hs hu' hu (h2' b hu').2 (h2 b hu).2).elim
theorem go_ret_rows (hT : TOk P T) {w : World} {fn : Func} {st : St} {X x : SV} {r : List ORow} {sel : List RSrc} (h : resE T c st fn.results.toList = some X) (hs : selV X x = sel) (hx : chkV sel X x) (hr : srcPs st sel r) (hn : ndS sel = true) : OutOk P (bodyPost P fn (RetR w c x r)) c ⟨w, []⟩ (.ret st) :=
  go_ret_any hT h fun _ _ _ _ _ hc F hv => ret_rows F hc hv hx hr hn
theorem go_fin_rows (hT : TOk P T) {w : World} {fn : Func} {st : St} {X x : SV} {r : List ORow} {sel : List RSrc} (h : resE T c st fn.results.toList = some X) (hs : selV X x = sel) (hx : chkV sel X x) (hr : srcPs st sel r) (hn : ndS sel = true) : OutOk P (bodyPost P fn (RetR w c x r)) c ⟨w, []⟩ (.fin st) :=
  go_fin_any hT h fun _ _ _ _ _ hc F hv => ret_rows F hc hv hx hr hn

/-! Calls. -/
def toCR (S : Nat → Value) (c : Nat → Nat → Row) : SC → Option Value
  | .rs q => some (S q)
  | x => toC c x
def toCsR (S : Nat → Value) (c : Nat → Nat → Row) : List SC → Option (List Value)
  | [] => some []
  | x :: l => match toCR S c x, toCsR S c l with
    | some v, some r => some (v :: r)
    | _, _ => none
def toSR (S : Nat → Value) (c : Nat → Nat → Row) : SV → Option Value
  | .pt (.one x) => toCR S c x
  | .pt (.agg l) => match toCsR S c l with | some r => some (.agg r.toArray) | none => none
  | .tup _ => none
def toVsR (S : Nat → Value) (c : Nat → Nat → Row) : List SV → Option (List Value)
  | [] => some []
  | x :: l => match toSR S c x, toVsR S c l with
    | some v, some r => some (v :: r)
    | _, _ => none
theorem toCR_is {e : Env} {S : Nat → Value} (hc : e.chi = c) (hS : ∀ q v, e.sg[q]? = some v → S q = v) {x : SC} {v u : Value} (h : toCR S c x = some v) (hu : x.is e u) : u = v := by
  unfold toCR at h
  split at h
  · cases h; exact (hS _ _ hu.1).symm
  · exact toC_is hc h hu
theorem toCsR_is {e : Env} {S : Nat → Value} (hc : e.chi = c) (hS : ∀ q v, e.sg[q]? = some v → S q = v) : ∀ {l : List SC} {vs us : List Value}, toCsR S c l = some vs → isL e l us → us = vs
  | [], vs, [], h, _ => by simp [toCsR] at h; exact h.symm
  | x :: l, vs, u :: us, h, hi => by
    simp only [toCsR] at h
    split at h
    · rename_i v r h1 h2
      cases h
      rw [toCR_is hc hS h1 hi.1, toCsR_is hc hS h2 hi.2]
    · cases h
  | [], _, _ :: _, _, h => h.elim
  | _ :: _, _, [], _, h => h.elim
theorem toVsR_is {e : Env} {S : Nat → Value} (hc : e.chi = c) (hS : ∀ q v, e.sg[q]? = some v → S q = v) : ∀ {l : List SV} {vs us : List Value}, toVsR S c l = some vs → isV e l us → us = vs
  | [], vs, [], h, _ => by simp [toVsR] at h; exact h.symm
  | x :: l, vs, u :: us, h, hi => by
    simp only [toVsR] at h
    split at h
    · rename_i v r h1 h2
      cases h
      rw [toVsR_is hc hS h2 hi.2]
      congr 1
      have hi1 := hi.1
      unfold toSR at h1
      split at h1
      · exact toCR_is hc hS h1 hi1
      · split at h1
        · rename_i r' h3
          cases h1
          obtain ⟨ws, rfl, hl⟩ := hi1
          rw [← toCsR_is hc hS h3 hl]
        · cases h1
      · cases h1
    · cases h
  | [], _, _ :: _, _, h => h.elim
  | _ :: _, _, [], _, h => h.elim
def SC.shR (n : Nat) : SC → SC
  | .rs q => .rs (n + q)
  | c => c
def shL (n : Nat) : List SC → List SC
  | [] => []
  | c :: l => c.shR n :: shL n l
def SA.shR (n : Nat) : SA → SA
  | .one c => .one (c.shR n)
  | .agg l => .agg (shL n l)
def shA (n : Nat) : List SA → List SA
  | [] => []
  | c :: l => c.shR n :: shA n l
def SV.shR (n : Nat) : SV → SV
  | .pt a => .pt (a.shR n)
  | .tup l => .tup (shA n l)
/-- Nothing but rows and what needs no environment. -/
def SC.rsOk : SC → Bool
  | .rs _ => true
  | .int .. | .bool _ | .lit _ | .val _ | .xs .. | .any => true
  | _ => false
def rsOkL : List SC → Bool
  | [] => true
  | c :: l => c.rsOk && rsOkL l
def SA.rsOk : SA → Bool
  | .one c => c.rsOk
  | .agg l => rsOkL l
def rsOkA : List SA → Bool
  | [] => true
  | c :: l => c.rsOk && rsOkA l
def SV.rsOk : SV → Bool
  | .pt a => a.rsOk
  | .tup l => rsOkA l
def Env.adds (e : Env) (g : List Value) : Env := ⟨e.rho, e.chi, e.sg ++ g⟩
theorem to_adds (e : Env) (g : List Value) : e.To (e.adds g) := ⟨fun _ _ h => h, rfl, fun q u h => by
  have hlt : q < e.sg.length := (List.getElem?_eq_some_iff.1 h).1
  simp [Env.adds, List.getElem?_append_left hlt, h]⟩
theorem shC_is {e : Env} {g : List Value} {x : SC} {v : Value} (hk : x.rsOk = true) (h : x.is ⟨[], e.chi, g⟩ v) : (x.shR e.sg.length).is (e.adds g) v := by
  cases x <;> first | exact h | (simp [SC.rsOk] at hk; done) | skip
  case rs q =>
    refine ⟨?_, h.2⟩
    simp only [Env.adds]
    rw [List.getElem?_append_right (by omega), Nat.add_sub_cancel_left]
    exact h.1
theorem shL_is {e : Env} {g : List Value} : ∀ {x : List SC} {v : List Value}, rsOkL x = true → isL ⟨[], e.chi, g⟩ x v → isL (e.adds g) (shL e.sg.length x) v
  | [], [], _, _ => trivial
  | _ :: _, _ :: _, hk, h => by
    simp only [rsOkL, Bool.and_eq_true] at hk
    exact ⟨shC_is hk.1 h.1, shL_is hk.2 h.2⟩
  | [], _ :: _, _, h => h.elim
  | _ :: _, [], _, h => h.elim
theorem shA_is' {e : Env} {g : List Value} {x : SA} {v : Value} (hk : x.rsOk = true) (h : x.is ⟨[], e.chi, g⟩ v) : (x.shR e.sg.length).is (e.adds g) v := by
  cases x
  · exact shC_is hk h
  · obtain ⟨vs, rfl, hl⟩ := h; exact ⟨vs, rfl, shL_is hk hl⟩
theorem shAs_is {e : Env} {g : List Value} : ∀ {x : List SA} {v : List Value}, rsOkA x = true → isA ⟨[], e.chi, g⟩ x v → isA (e.adds g) (shA e.sg.length x) v
  | [], [], _, _ => trivial
  | _ :: _, _ :: _, hk, h => by
    simp only [rsOkA, Bool.and_eq_true] at hk
    exact ⟨shA_is' hk.1 h.1, shAs_is hk.2 h.2⟩
  | [], _ :: _, _, h => h.elim
  | _ :: _, [], _, h => h.elim
theorem shV_is {e : Env} {g : List Value} {x : SV} {v : Value} (hk : x.rsOk = true) (h : x.is ⟨[], e.chi, g⟩ v) : (x.shR e.sg.length).is (e.adds g) v := by
  cases x
  · exact shA_is' hk h
  · obtain ⟨vs, rfl, hl⟩ := h; exact ⟨vs, rfl, shAs_is hk hl⟩
def someR : List ORow → List (Option ORow)
  | [] => []
  | R :: l => some R :: someR l
theorem someR_eq : ∀ l : List ORow, someR l = l.map some
  | [] => rfl
  | R :: l => by simp [someR, someR_eq l]
theorem Fit.adds {e : Env} {st : St} {a : Act} {s : List Act} {w w' : World} (F : Fit e w0 st a s w) (hb : Below w.heap.size w w') {g : List Value} {r : List ORow} (hg : RowsAt w' e.chi w.heap.size g r) : Fit (e.adds g) w0 { st with r := st.r ++ someR r } a s w' := by
  have F' := F.later hb
  have hl := F.rows.len
  have hto := to_adds e g
  have hold : ∀ q b, HasR (e.adds g) { st with r := st.r ++ someR r } q b → HasR e st q b ∨ (w.heap.size ≤ b ∧ b < w'.heap.size ∧ st.r.length ≤ q ∧ ∃ v, g[q - st.r.length]? = some v ∧ v.ownBlock = some b) := by
    rintro q b ⟨R, v, h1, h2, h3⟩
    simp only [Env.adds] at h1 h2
    by_cases hq : q < st.r.length
    · rw [List.getElem?_append_left hq] at h1
      rw [List.getElem?_append_left (by omega)] at h2
      exact .inl ⟨R, v, h1, h2, h3⟩
    · rw [List.getElem?_append_right (by omega)] at h1 h2
      rw [hl] at h2
      simp only [someR_eq, List.getElem?_map, Option.map_eq_some_iff] at h1
      obtain ⟨R0, h4, h5⟩ := h1
      obtain ⟨v', xs, h6, _, _, h7⟩ := hg.row _ R0 h4
      rw [h2] at h6; cases h6
      obtain ⟨h8, h9⟩ := h7 b h3
      exact .inr ⟨h8, h9, by omega, v, h2, h3⟩
  refine ⟨isVs_to hto F'.fr, F'.dfr, isV_to hto F'.tm, F'.blw, F'.lo, F'.hi, F'.nd, F'.len, fun k b cs h1 h2 => ?_, F.ext.kept rfl hb.size (fun b h _ _ _ => hb.block b h) (fun k b h => .inl h) (fun q b h => ?_), F'.pre, ?_⟩
  · obtain ⟨vs, t, h3, h4⟩ := F'.cells k b cs h1 h2
    exact ⟨vs, t, h3, isL_to hto h4⟩
  · rcases hold q b h with h | ⟨h, _⟩
    · exact .inl h
    · exact .inr (.inr h)
  · refine ⟨by simp [Env.adds, someR_eq, hl, hg.len], fun q R hq => ?_, fun q b hq => ?_, fun q b hq => ?_, fun q q' b h1 h2 => ?_, fun q b hq k hk => ?_⟩
    · simp only at hq
      by_cases hlt : q < st.r.length
      · rw [List.getElem?_append_left hlt] at hq
        obtain ⟨v, xs, h1, h2, h3⟩ := F'.rows.row q R hq
        exact ⟨v, xs, hto.sg q v h1, h2, h3⟩
      · rw [List.getElem?_append_right (by omega)] at hq
        simp only [someR_eq, List.getElem?_map, Option.map_eq_some_iff, Option.some.injEq] at hq
        obtain ⟨R0, h4, rfl⟩ := hq
        obtain ⟨v, xs, h6, h7, h8, _⟩ := hg.row _ R0 h4
        refine ⟨v, xs, ?_, h7, h8⟩
        simp only [Env.adds]
        rw [List.getElem?_append_right (by omega), hl]; exact h6
    · rcases hold q b hq with h | ⟨h, _⟩
      · exact F.rows.lo q b h
      · exact .inl (Nat.le_trans F.blw.size h)
    · rcases hold q b hq with h | ⟨_, h, _⟩
      · exact Nat.lt_of_lt_of_le (F.rows.hi q b h) hb.size
      · exact h
    · rcases hold q b h1 with g1 | ⟨g1, _, g2, v, g3, g4⟩ <;> rcases hold q' b h2 with g1' | ⟨g1', _, g2', v', g3', g4'⟩
      · exact F.rows.nd q q' b g1 g1'
      · have := F.rows.hi q b g1; omega
      · have := F.rows.hi q' b g1'; omega
      · have := hg.nd _ _ b v v' g3 g3' g4 g4'; omega
    · rcases hold q b hq with h | ⟨h, _⟩
      · exact F.rows.no q b h k hk
      · obtain ⟨cs, _, h4⟩ := hk
        have := F.hi k b h4; omega
/-- A call that is handed rows, and hands back rows. -/
theorem go_callR {f : Nat} {args : List SV} {dst : Option Nat} {k : List Item} {st : St} {vs : (Nat → Value) → List Value} {x : SV} {r : List ORow} (hv : ∀ S : Nat → Value, toVsR S c args = some (vs S)) (hf : ∀ (args : Array Value) (w : World), (callFunc f args).run P w = .ok (.enter f args) w)
    (hC : ∀ (w : World) (S : Nat → Value), KB w0 w → XOk ⟨[], c, []⟩ ⟨w, []⟩ → (∀ q R, nth st.r q = some (some R) → RowIs c w R (S q)) → Calls P f (vs S).toArray w (RetR w c x r)) (hk : x.rsOk = true)
    (h : Goes P Q c w0 k (({ st with r := st.r ++ someR r } : St).put dst (x.shR (lenM st.r)))) : OutOk P Q c w0 (.call f args dst k st) := ⟨fun e s a w hc F us hu => by
  rw [toVsR_is hc (S := fun q => (e.sg[q]?).getD undef) (fun q v hq => by simp only [hq, Option.getD_some]) (hv _) hu]
  refine ⟨hf _ _, (hC w _ F.blw (F.ext.xok0 hc) fun q R hq => ?_).mono fun en w' ⟨v, g, he, hb, hg, hx⟩ => ⟨v, he, ?_⟩⟩
  · rw [nth_eq] at hq
    obtain ⟨v, xs, h1, h2, h3⟩ := F.rows.row q R hq
    simp only [h1, Option.getD_some]
    exact ⟨xs, h2, by rw [← hc]; exact h3, fun b hb => F.rows.hi q b ⟨R, v, hq, h1, hb⟩⟩
  · subst hc
    have hsh := shV_is hk hx
    rw [F.rows.len] at hsh
    rw [lenM_eq] at h
    exact h.run (e.adds g) s _ _ rfl ((F.adds hb hg).put hsh)⟩
/-- A call that is handed rows, and hands back a value. -/
theorem go_callRv {f : Nat} {args : List SV} {dst : Option Nat} {k : List Item} {st : St} {vs : (Nat → Value) → List Value} {v : Value} (hv : ∀ S : Nat → Value, toVsR S c args = some (vs S)) (hf : ∀ (args : Array Value) (w : World), (callFunc f args).run P w = .ok (.enter f args) w)
    (hC : ∀ (w : World) (S : Nat → Value), KB w0 w → XOk ⟨[], c, []⟩ ⟨w, []⟩ → (∀ q R, nth st.r q = some (some R) → RowIs c w R (S q)) → Calls P f (vs S).toArray w (Ret w v))
    (h : Goes P Q c w0 k (st.put dst (ofR v))) : OutOk P Q c w0 (.call f args dst k st) := ⟨fun e s a w hc F us hu => by
  rw [toVsR_is hc (S := fun q => (e.sg[q]?).getD undef) (fun q v hq => by simp only [hq, Option.getD_some]) (hv _) hu]
  refine ⟨hf _ _, (hC w _ F.blw (F.ext.xok0 hc) fun q R hq => ?_).mono fun en w' ⟨he, hb⟩ => ⟨v, he, ?_⟩⟩
  · rw [nth_eq] at hq
    obtain ⟨v, xs, h1, h2, h3⟩ := F.rows.row q R hq
    simp only [h1, Option.getD_some]
    exact ⟨xs, h2, by rw [← hc]; exact h3, fun b hb => F.rows.hi q b ⟨R, v, hq, h1, hb⟩⟩
  · exact h.run e s _ _ hc ((F.later hb).put (ofR_is e v))⟩
/-- Whatever holds of a state holds of one that says more. -/
theorem out_loop {body : Code} {k : List Item} {st st' : St} (hF : ∀ (e : Env) (s : List Act) (a : Act) (w : World), e.chi = c → Fit e w0 st a s w → ∃ e' : Env, e'.chi = c ∧ Fit e' w0 st' a s w) (h : OutOk P Q c w0 (.loop body k st')) : OutOk P Q c w0 (.loop body k st) :=
  ⟨fun e s a w hc F => by
    obtain ⟨e', h1, h2⟩ := hF e s a w hc F
    exact h.ok e' s a w h1 h2⟩
/-- What a slot holds, as a row: nil, or a literal. -/
def asRow (st : St) (es : Nat) : SV → Option (ORow × Option Nat)
  | .pt (.one (.val (.slice none 0 0))) => some (⟨0, es, fun _ => []⟩, none)
  | .pt (.one (.sl k 0 n c)) => match nth st.h k with
    | some (some cs) => if n = c then (if c ≤ 1073741824 then (if c * es ≤ cs.length then (if freeL cs && solidL cs then some (⟨n, es, fun j => cutL cs (j * es) es⟩, some k) else none) else none) else none) else none
    | _ => none
  | _ => none
def St.rowed (st : St) (i es : Nat) : Option St := match nth st.t i with
  | some x => match asRow st es x with
    | some (R, lost) => some ((st.row (lenM st.r) R lost).put (some i) (.pt (.one (.rs (lenM st.r)))))
    | none => none
  | none => none
theorem Fit.slot {e : Env} {st : St} {a : Act} {s : List Act} {w : World} (F : Fit e w0 st a s w) {i : Nat} {x : SV} {v : Value} (hv : a.tmps[i]? = some v) (hx : x.is e v) : Fit e w0 (st.put (some i) x) a s w := by
  have := F.put (d := some i) hx
  have e2 : a.put (some i) v = a := by
    obtain ⟨tm, df⟩ := a
    simp only [Act.put] at hv ⊢
    congr 1
    apply Array.ext_getElem?
    intro j
    rw [Array.getElem?_setIfInBounds]
    split
    · rename_i hj; subst hj
      split
      · exact hv.symm
      · rename_i hlt; rw [Array.getElem?_eq_none (by omega)]
    · rfl
  rw [e2] at this
  exact this
theorem fit_rowed {e : Env} {st st' : St} {a : Act} {s : List Act} {w : World} (F : Fit e w0 st a s w) (i es : Nat) (h : st.rowed i es = some st') : ∃ e' : Env, e'.chi = e.chi ∧ Fit e' w0 st' a s w := by
  unfold St.rowed at h
  split at h
  · rename_i x hx
    split at h
    · rename_i R lost hR
      cases h
      rw [nth_eq] at hx
      obtain ⟨v, hv, hxv⟩ := isV_get F.tm hx
      have hv' : a.tmps[i]? = some v := by simpa using hv
      have hrow : RowOk e st w st.r.length R (.pt (.one (.rs st.r.length))) lost v w := by
        unfold asRow at hR
        split at hR
        · simp only [Option.some.injEq, Prod.mk.injEq] at hR
          obtain ⟨rfl, rfl⟩ := hR
          have hxv : v = .slice none 0 0 := hxv
          subst hxv
          refine ⟨.slice none 0 0, [], none, ?_, ⟨by simp, by simp, .inl ⟨rfl, rfl⟩⟩, fun j hj => by simp at hj, ⟨rfl, rfl, rfl, Nat.le_refl _, fun _ _ _ => rfl⟩, fun g hg => (by cases hg), fun g hg => (by simp [Value.ownBlock] at hg), Nat.le_refl _, fun h => absurd h (Nat.lt_irrefl _)⟩
          rw [if_neg (Nat.lt_irrefl _)]
          exact ⟨by simp [Env.addS, ← F.rows.len], rfl⟩
        · rename_i k n c'
          split at hR
          · rename_i cs hk
            split at hR
            · rename_i hnc
              split at hR
              · rename_i hcb
                split at hR
                · rename_i hle
                  split at hR
                  · rename_i hfs
                    simp only [Option.some.injEq, Prod.mk.injEq] at hR
                    obtain ⟨rfl, rfl⟩ := hR
                    rw [nth_eq] at hk
                    simp only [Bool.and_eq_true] at hfs
                    have hB : BlkLe cs n c' ⟨n, es, fun j => cutL cs (j * es) es⟩ := ⟨rfl, by omega, hcb, hle, hfs.1, hfs.2, fun j _ => by
                      have : ∀ l : List SC, leCL l l := by
                        intro l
                        induction l with
                        | nil => trivial
                        | cons c l ih => exact ⟨by cases c <;> simp [leCell], ih⟩
                      exact this _⟩
                    obtain ⟨b, xs, h1, h2, h3⟩ := hB.own F hk
                    obtain ⟨b', h4, rfl⟩ := hxv
                    rw [h1] at h4; cases h4
                    have hH : HasH e st k b := ⟨cs, hk, h1⟩
                    refine ⟨_, xs, none, ?_, h2, h3, ⟨rfl, rfl, rfl, Nat.le_refl _, fun _ _ _ => rfl⟩, fun g hg => (by cases hg), fun g hg => ?_, Nat.le_refl _, fun h => absurd h (Nat.lt_irrefl _)⟩
                    · rw [if_neg (Nat.lt_irrefl _)]
                      exact ⟨by simp [Env.addS, ← F.rows.len], rfl⟩
                    · simp only [Value.ownBlock, Option.some.injEq] at hg
                      subst hg
                      exact ⟨F.hi k b h1, .inr (.inr ⟨k, rfl, hH⟩)⟩
                  · cases hR
                · cases hR
              · cases hR
            · cases hR
          · cases hR
        · cases hR
      obtain ⟨e', h1, h2, h3⟩ := F.rowed hrow
      rw [lenM_eq]
      exact ⟨e', h1, h3.slot hv' h2⟩
    · cases h
  · cases h
theorem go_row (i es : Nat) {body : Code} {k : List Item} {st st' : St} (h : st.rowed i es = some st') (hg : OutOk P Q c w0 (.loop body k st')) : OutOk P Q c w0 (.loop body k st) :=
  out_loop (fun e s a w hc F => let ⟨e', h1, h2⟩ := fit_rowed F i es h; ⟨e', h1.trans hc, h2⟩) hg

theorem go_ob {ob : Prop} {k : List Item} {st : St} (h : ob) (hg : Goes P Q c w0 k st) : OutOk P Q c w0 (.row ob k st) := ⟨h, hg⟩
/-! Rows told anew. -/
theorem leCL_rfl : ∀ l : List SC, leCL l l
  | [] => trivial
  | c :: l => ⟨by cases c <;> simp [leCell], leCL_rfl l⟩
theorem RowLe.rfl' (R : ORow) : RowLe R R := ⟨rfl, rfl, fun _ _ => leCL_rfl _⟩
theorem rowLe_of {n n' es : Nat} {f g : Nat → List SC} (hn : n = n') (h : ∀ j, j < n → leCL (f j) (g j)) : RowLe ⟨n, es, f⟩ ⟨n', es, g⟩ := ⟨hn, rfl, h⟩
/-- One more at the end. -/
theorem rowLe_snoc {pl : Nat → Nat → Nat} {jn : Nat → (Nat → List SC) → (Nat → List SC) → Nat → List SC} (hpl : pl = fun x y => x + y) (hjn : jn = rJn) {n n' es : Nat} {f g h : Nat → List SC} (hn : n' = n + 1) (h1 : ∀ j, j < n → leCL (f j) (h j)) (h2 : leCL (g 0) (h n)) : RowLe ⟨pl n 1, es, jn n f g⟩ ⟨n', es, h⟩ := by
  subst hpl hjn hn
  refine ⟨rfl, rfl, fun j hj => ?_⟩
  have hj : j < n + 1 := hj
  simp only [rJn]
  split
  · rename_i hlt; exact h1 j hlt
  · rename_i hlt
    have : j = n := by omega
    subst this
    rw [Nat.sub_self]; exact h2
/-- Many more at the end. -/
theorem rowLe_join {pl : Nat → Nat → Nat} {jn : Nat → (Nat → List SC) → (Nat → List SC) → Nat → List SC} (hpl : pl = fun x y => x + y) (hjn : jn = rJn) {n m n' es : Nat} {f g h : Nat → List SC} (hn : n' = n + m) (h1 : ∀ j, j < n → leCL (f j) (h j)) (h2 : ∀ j, j < m → leCL (g j) (h (n + j))) : RowLe ⟨pl n m, es, jn n f g⟩ ⟨n', es, h⟩ := by
  subst hpl hjn hn
  refine ⟨rfl, rfl, fun j hj => ?_⟩
  have hj : j < n + m := hj
  simp only [rJn]
  split
  · rename_i hlt; exact h1 j hlt
  · rename_i hlt
    have := h2 (j - n) (by omega)
    rw [show n + (j - n) = j from by omega] at this
    exact this
/-- One turned. -/
theorem rowLe_up {up : (Nat → List SC) → Nat → Nat → List SC → Nat → List SC} (hup : up = rUp) {n n' es i o : Nat} {f h : Nat → List SC} {l : List SC} (hn : n = n') (h1 : ∀ j, j < n → j ≠ i → leCL (f j) (h j)) (h2 : i < n → leCL (pasteL (f i) o l) (h i)) : RowLe ⟨n, es, up f i o l⟩ ⟨n', es, h⟩ := by
  subst hup hn
  refine ⟨rfl, rfl, fun j hj => ?_⟩
  simp only [rUp]
  split
  · rename_i hji; subst hji; exact h2 hj
  · rename_i hji; exact h1 j hj hji
/-- The first ones left out. -/
theorem rowLe_dp {mi : Nat → Nat → Nat} {dp : Nat → (Nat → List SC) → Nat → List SC} (hmi : mi = fun x y => x - y) (hdp : dp = rDp) {n l n' es : Nat} {f h : Nat → List SC} (hn : n' = n - l) (h1 : ∀ j, j < n - l → leCL (f (j + l)) (h j)) : RowLe ⟨mi n l, es, dp l f⟩ ⟨n', es, h⟩ := by
  subst hmi hdp hn
  exact ⟨rfl, rfl, fun j hj => h1 j hj⟩
end

/-! A slice that was handed over, seen as a row of the outside. -/
def plainC : SC → Bool
  | .int .. | .bool _ | .lit _ | .val _ => true
  | _ => false
def plainL : List SC → Bool
  | [] => true
  | c :: l => plainC c && plainL l
theorem plainC_is {e e' : Env} {c : SC} {v : Value} (h : plainC c = true) (hi : c.is e v) : c.is e' v := by
  cases c <;> first | exact hi | (simp [plainC] at h)
theorem plainL_is {e e' : Env} : ∀ {l : List SC} {vs : List Value}, plainL l = true → isL e l vs → isL e' l vs
  | [], [], _, _ => trivial
  | c :: l, v :: vs, h, hi => by
    simp only [plainL, Bool.and_eq_true] at h
    exact ⟨plainC_is h.1 hi.1, plainL_is h.2 hi.2⟩
  | [], _ :: _, _, h => h.elim
  | _ :: _, [], _, h => h.elim
theorem RowIs.form {c : Nat → Nat → Row} {w : World} {R : ORow} {v : Value} (h : RowIs c w R v) : ∃ a n, v = .slice a R.n n := by
  obtain ⟨xs, hO, _⟩ := h; exact hO.form
/-- What such a slice gives to the rows of the outside. -/
theorem RowIs.row {c c' : Nat → Nat → Row} {w : World} {R : ORow} {a : Option Addr} {cap : Nat} (h : RowIs c w R (.slice a R.n cap)) (hp : ∀ j, j < R.n → plainL (R.el j) = true) {j : Nat} (hj : j < R.n) :
    ∃ b p, a = some ⟨b, p, none⟩ ∧ b < w.heap.size ∧ ∃ vs, isL ⟨[], c', []⟩ (R.el j) vs ∧ ∀ (t : Nat) (v : Value), vs[t]? = some v → w.cell? ⟨b, p + (j * R.es + t), none⟩ = some v := by
  obtain ⟨xs, hO, hE, hb⟩ := h
  rcases hO.2.2 with ⟨_, h0⟩ | ⟨g, o, cap', cur, ty, hv, hg, rest⟩
  · omega
  · cases hv
    refine ⟨g, o, rfl, hb g rfl, _, plainL_is (hp j hj) (hE j hj), fun t v ht => ?_⟩
    simp only [List.getElem?_take, List.getElem?_drop] at ht
    split at ht
    · exact hO.cell ht
    · cases ht

end Go.Proofs.Ytbimggeapaaliaa
