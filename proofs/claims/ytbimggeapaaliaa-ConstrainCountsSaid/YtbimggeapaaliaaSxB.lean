/- A second way to walk, its laws, first part: lists, what data says of values, types, memory. No condition. -/
import Derived.Test.YtbimggeapaaliaaSxA
import Derived.Laws.StructEq
namespace Go.Proofs.Ytbimggeapaaliaa
open Go.RowKit
set_option linter.unusedVariables false
set_option linter.unusedSimpArgs false

theorem nth_eq {α : Type} : ∀ (l : List α) (n : Nat), nth l n = l[n]?
  | [], n => by simp [nth]
  | a :: l, 0 => by simp [nth]
  | a :: l, n + 1 => by simp [nth, nth_eq l n]
theorem setN_eq {α : Type} : ∀ (l : List α) (n : Nat) (b : α), setN l n b = l.set n b
  | [], n, b => by simp [setN]
  | a :: l, 0, b => by simp [setN]
  | a :: l, n + 1, b => by simp [setN, setN_eq l n b]
theorem cutL_eq {α : Type} : ∀ (l : List α) (o n : Nat), cutL l o n = (l.drop o).take n
  | [], 0, 0 => by simp [cutL]
  | [], 0, n + 1 => by simp [cutL]
  | [], o + 1, n => by simp [cutL]
  | a :: l, 0, 0 => by simp [cutL]
  | a :: l, 0, n + 1 => by simp [cutL, cutL_eq l 0 n]
  | a :: l, o + 1, n => by simp [cutL, cutL_eq l o n]
theorem pasteL_length {α : Type} : ∀ (l : List α) (o : Nat) (bs : List α), (pasteL l o bs).length = l.length
  | l, o, [] => by cases l <;> simp [pasteL]
  | [], o, b :: bs => by simp [pasteL]
  | a :: l, 0, b :: bs => by simp [pasteL, pasteL_length l 0 bs]
  | a :: l, o + 1, b :: bs => by simp [pasteL, pasteL_length l o (b :: bs)]
theorem pasteL_get {α : Type} : ∀ (l : List α) (o : Nat) (bs : List α) (j : Nat), o + bs.length ≤ l.length →
    (pasteL l o bs)[j]? = if j < o then l[j]? else if j < o + bs.length then bs[j - o]? else l[j]?
  | l, o, [], j, _ => by
    have : pasteL l o [] = l := by cases l <;> simp [pasteL]
    rw [this]
    by_cases g1 : j < o
    · simp [g1]
    · simp only [g1, if_false, List.length_nil, Nat.add_zero]
  | [], o, b :: bs, j, h => by simp at h
  | a :: l, 0, b :: bs, 0, h => by simp [pasteL]
  | a :: l, 0, b :: bs, j + 1, h => by
    have ih := pasteL_get l 0 bs j (by simp at h ⊢; omega)
    simp [pasteL, ih]
  | a :: l, o + 1, b :: bs, 0, h => by simp [pasteL]
  | a :: l, o + 1, b :: bs, j + 1, h => by
    have ih := pasteL_get l o (b :: bs) j (by simp at h ⊢; omega)
    simp only [pasteL, List.getElem?_cons_succ, ih, List.length_cons, Nat.add_lt_add_iff_right]
    split
    · rfl
    · have e : j + 1 - (o + 1) = j - o := by omega
      rw [e]
      have e2 : (j + 1 < o + 1 + (bs.length + 1)) = (j < o + (bs.length + 1)) := by apply propext; omega
      simp only [e2]

theorem isL_length {e : Env} : ∀ {l : List SC} {vs : List Value}, isL e l vs → l.length = vs.length
  | [], [], _ => rfl
  | c :: l, v :: vs, h => by simp [isL_length h.2]
  | [], _ :: _, h => h.elim
  | _ :: _, [], h => h.elim
theorem isL_get {e : Env} : ∀ {l : List SC} {vs : List Value}, isL e l vs → ∀ {j : Nat} {c : SC}, l[j]? = some c → ∃ v, vs[j]? = some v ∧ c.is e v
  | [], [], _, j, c, hc => by simp at hc
  | c :: l, v :: vs, h, 0, c', hc => by simp at hc; subst hc; exact ⟨v, by simp, h.1⟩
  | c :: l, v :: vs, h, j + 1, c', hc => by simp at hc; simpa using isL_get h.2 hc
  | [], _ :: _, h, _, _, _ => h.elim
  | _ :: _, [], h, _, _, _ => h.elim
theorem isL_of {e : Env} : ∀ {l : List SC} {vs : List Value}, l.length = vs.length → (∀ (j : Nat) (c : SC) (v : Value), l[j]? = some c → vs[j]? = some v → c.is e v) → isL e l vs
  | [], [], _, _ => trivial
  | c :: l, v :: vs, hl, h => ⟨h 0 c v (by simp) (by simp), isL_of (by simpa using hl) (fun j c' v' h1 h2 => h (j + 1) c' v' (by simpa using h1) (by simpa using h2))⟩
  | [], _ :: _, hl, _ => by simp at hl
  | _ :: _, [], hl, _ => by simp at hl
theorem isL_at {e : Env} {l : List SC} {vs : List Value} (h : isL e l vs) {j : Nat} {c : SC} {v : Value} (h1 : l[j]? = some c) (h2 : vs[j]? = some v) : c.is e v := by
  obtain ⟨u, hu, hc⟩ := isL_get h h1
  rw [h2] at hu
  cases hu
  exact hc
theorem isL_append {e : Env} : ∀ {l l' : List SC} {vs vs' : List Value}, isL e l vs → isL e l' vs' → isL e (l ++ l') (vs ++ vs')
  | [], _, [], _, _, h' => h'
  | c :: l, _, v :: vs, _, h, h' => ⟨h.1, isL_append h.2 h'⟩
  | [], _, _ :: _, _, h, _ => h.elim
  | _ :: _, _, [], _, h, _ => h.elim
theorem isL_cut {e : Env} {l : List SC} {vs : List Value} (h : isL e l vs) (o n : Nat) : isL e (cutL l o n) ((vs.drop o).take n) := by
  have hl := isL_length h
  rw [cutL_eq]
  refine isL_of (by simp [hl]) (fun j c v h1 h2 => ?_)
  simp only [List.getElem?_take, List.getElem?_drop] at h1 h2
  split at h1
  · rw [if_pos ‹_›] at h2; exact isL_at h h1 h2
  · simp at h1
theorem isL_paste {e : Env} {l l' : List SC} {vs vs' : List Value} (h : isL e l vs) (h' : isL e l' vs') (o : Nat) (ho : o + l'.length ≤ l.length) : isL e (pasteL l o l') (pasteL vs o vs') := by
  have hl := isL_length h
  have hl' := isL_length h'
  refine isL_of (by simp [pasteL_length, hl]) (fun j c v h1 h2 => ?_)
  rw [pasteL_get _ _ _ _ ho] at h1
  rw [pasteL_get _ _ _ _ (by omega)] at h2
  by_cases g1 : j < o
  · rw [if_pos g1] at h1 h2; exact isL_at h h1 h2
  · rw [if_neg g1] at h1 h2
    by_cases g2 : j < o + l'.length
    · rw [if_pos g2] at h1; rw [if_pos (by omega)] at h2; exact isL_at h' h1 h2
    · rw [if_neg g2] at h1; rw [if_neg (by omega)] at h2; exact isL_at h h1 h2
theorem isV_get {e : Env} : ∀ {l : List SV} {vs : List Value}, isV e l vs → ∀ {j : Nat} {c : SV}, l[j]? = some c → ∃ v, vs[j]? = some v ∧ c.is e v
  | [], [], _, j, c, hc => by simp at hc
  | c :: l, v :: vs, h, 0, c', hc => by simp at hc; subst hc; exact ⟨v, by simp, h.1⟩
  | c :: l, v :: vs, h, j + 1, c', hc => by simp at hc; simpa using isV_get h.2 hc
  | [], _ :: _, h, _, _, _ => h.elim
  | _ :: _, [], h, _, _, _ => h.elim
theorem isV_length {e : Env} : ∀ {l : List SV} {vs : List Value}, isV e l vs → l.length = vs.length
  | [], [], _ => rfl
  | c :: l, v :: vs, h => by simp [isV_length h.2]
  | [], _ :: _, h => h.elim
  | _ :: _, [], h => h.elim
theorem isV_set {e : Env} : ∀ {l : List SV} {vs : List Value}, isV e l vs → ∀ (j : Nat) {c : SV} {v : Value}, c.is e v → isV e (setN l j c) (vs.set j v)
  | [], [], _, j, c, v, _ => by simp [setN, isV]
  | c :: l, u :: vs, h, 0, c', v, hc => by simpa [setN] using ⟨hc, h.2⟩
  | c :: l, u :: vs, h, j + 1, c', v, hc => by simpa [setN] using ⟨h.1, isV_set h.2 j hc⟩
  | [], _ :: _, h, _, _, _, _ => h.elim
  | _ :: _, [], h, _, _, _, _ => h.elim
theorem isV_append {e : Env} : ∀ {l l' : List SV} {vs vs' : List Value}, isV e l vs → isV e l' vs' → isV e (l ++ l') (vs ++ vs')
  | [], _, [], _, _, h' => h'
  | c :: l, _, v :: vs, _, h, h' => ⟨h.1, isV_append h.2 h'⟩
  | [], _, _ :: _, _, h, _ => h.elim
  | _ :: _, _, [], _, h, _ => h.elim
theorem isA_get {e : Env} : ∀ {l : List SA} {vs : List Value}, isA e l vs → ∀ {j : Nat} {c : SA}, l[j]? = some c → ∃ v, vs[j]? = some v ∧ c.is e v
  | [], [], _, j, c, hc => by simp at hc
  | c :: l, v :: vs, h, 0, c', hc => by simp at hc; subst hc; exact ⟨v, by simp, h.1⟩
  | c :: l, v :: vs, h, j + 1, c', hc => by simp at hc; simpa using isA_get h.2 hc
  | [], _ :: _, h, _, _, _ => h.elim
  | _ :: _, [], h, _, _, _ => h.elim

/-! More blocks: what was said is said still. -/
def Env.more (e : Env) (b : Nat) : Env := ⟨e.rho ++ [b], e.chi, e.sg⟩
theorem rho_more {e : Env} {b k x : Nat} (h : e.rho[k]? = some x) : (e.more b).rho[k]? = some x := by
  have hlt : k < e.rho.length := (List.getElem?_eq_some_iff.1 h).1
  simp [Env.more, List.getElem?_append_left hlt, h]
theorem capIs_more {e : Env} {b : Nat} : ∀ {l : List (Nat × Nat)} {vs : List Value}, capIs e l vs → capIs (e.more b) l vs
  | [], [], _ => trivial
  | (k, o) :: l, v :: vs, ⟨⟨x, hx, hv⟩, h⟩ => ⟨⟨x, rho_more hx, hv⟩, capIs_more h⟩
  | [], _ :: _, h => h.elim
  | _ :: _, [], h => h.elim
theorem SC.is_more {e : Env} {b : Nat} {c : SC} {v : Value} (h : c.is e v) : c.is (e.more b) v := by
  cases c <;> try exact h
  case ptr k o => obtain ⟨x, hx, hv⟩ := h; exact ⟨x, rho_more hx, hv⟩
  case pi k o => obtain ⟨x, hx, hv⟩ := h; exact ⟨x, rho_more hx, hv⟩
  case sl k o n c => obtain ⟨x, hx, hv⟩ := h; exact ⟨x, rho_more hx, hv⟩
  case fn f cap => obtain ⟨vs, hv, hc⟩ := h; exact ⟨vs, hv, capIs_more hc⟩
theorem isL_more {e : Env} {b : Nat} : ∀ {l : List SC} {vs : List Value}, isL e l vs → isL (e.more b) l vs
  | [], [], _ => trivial
  | c :: l, v :: vs, h => ⟨SC.is_more h.1, isL_more h.2⟩
  | [], _ :: _, h => h.elim
  | _ :: _, [], h => h.elim
theorem SA.is_more {e : Env} {b : Nat} {c : SA} {v : Value} (h : c.is e v) : c.is (e.more b) v := by
  cases c
  · exact SC.is_more h
  · obtain ⟨vs, hv, hl⟩ := h; exact ⟨vs, hv, isL_more hl⟩
theorem isA_more {e : Env} {b : Nat} : ∀ {l : List SA} {vs : List Value}, isA e l vs → isA (e.more b) l vs
  | [], [], _ => trivial
  | c :: l, v :: vs, h => ⟨SA.is_more h.1, isA_more h.2⟩
  | [], _ :: _, h => h.elim
  | _ :: _, [], h => h.elim
theorem SV.is_more {e : Env} {b : Nat} {c : SV} {v : Value} (h : c.is e v) : c.is (e.more b) v := by
  cases c
  · exact SA.is_more h
  · obtain ⟨vs, hv, hl⟩ := h; exact ⟨vs, hv, isA_more hl⟩
theorem isV_more {e : Env} {b : Nat} : ∀ {l : List SV} {vs : List Value}, isV e l vs → isV (e.more b) l vs
  | [], [], _ => trivial
  | c :: l, v :: vs, h => ⟨SV.is_more h.1, isV_more h.2⟩
  | [], _ :: _, h => h.elim
  | _ :: _, [], h => h.elim

/-! One row more; another value for a row. -/
def Env.addS (e : Env) (v : Value) : Env := ⟨e.rho, e.chi, e.sg ++ [v]⟩
def Env.putS (e : Env) (q : Nat) (v : Value) : Env := ⟨e.rho, e.chi, e.sg.set q v⟩
/-- What was said is said still, if what is looked up is found still. -/
structure Env.To (e e' : Env) : Prop where
  rho : ∀ (k x : Nat), e.rho[k]? = some x → e'.rho[k]? = some x
  chi : e'.chi = e.chi
  sg : ∀ (q : Nat) (v : Value), e.sg[q]? = some v → e'.sg[q]? = some v
theorem capIs_to {e e' : Env} (t : e.To e') : ∀ {l : List (Nat × Nat)} {vs : List Value}, capIs e l vs → capIs e' l vs
  | [], [], _ => trivial
  | (k, o) :: l, v :: vs, ⟨⟨x, hx, hv⟩, h⟩ => ⟨⟨x, t.rho k x hx, hv⟩, capIs_to t h⟩
  | [], _ :: _, h => h.elim
  | _ :: _, [], h => h.elim
theorem SC.is_to {e e' : Env} (t : e.To e') {c : SC} {v : Value} (h : c.is e v) : c.is e' v := by
  cases c <;> try exact h
  case ptr k o => obtain ⟨x, hx, hv⟩ := h; exact ⟨x, t.rho _ _ hx, hv⟩
  case pi k o => obtain ⟨x, hx, hv⟩ := h; exact ⟨x, t.rho _ _ hx, hv⟩
  case sl k o n c => obtain ⟨x, hx, hv⟩ := h; exact ⟨x, t.rho _ _ hx, hv⟩
  case xs q i => simp only [SC.is, t.chi] at h ⊢; exact h
  case xp q i j o => simp only [SC.is, t.chi] at h ⊢; exact h
  case rs q => exact ⟨t.sg _ _ h.1, h.2⟩
  case rp q es j o => obtain ⟨b, p, n, c, h1, h2, h3⟩ := h; exact ⟨b, p, n, c, t.sg _ _ h1, h2, h3⟩
  case fn f cap => obtain ⟨vs, hv, hc⟩ := h; exact ⟨vs, hv, capIs_to t hc⟩
theorem isL_to {e e' : Env} (t : e.To e') : ∀ {l : List SC} {vs : List Value}, isL e l vs → isL e' l vs
  | [], [], _ => trivial
  | c :: l, v :: vs, h => ⟨SC.is_to t h.1, isL_to t h.2⟩
  | [], _ :: _, h => h.elim
  | _ :: _, [], h => h.elim
theorem SA.is_to {e e' : Env} (t : e.To e') {c : SA} {v : Value} (h : c.is e v) : c.is e' v := by
  cases c
  · exact SC.is_to t h
  · obtain ⟨vs, hv, hl⟩ := h; exact ⟨vs, hv, isL_to t hl⟩
theorem isA_to {e e' : Env} (t : e.To e') : ∀ {l : List SA} {vs : List Value}, isA e l vs → isA e' l vs
  | [], [], _ => trivial
  | c :: l, v :: vs, h => ⟨SA.is_to t h.1, isA_to t h.2⟩
  | [], _ :: _, h => h.elim
  | _ :: _, [], h => h.elim
theorem SV.is_to {e e' : Env} (t : e.To e') {c : SV} {v : Value} (h : c.is e v) : c.is e' v := by
  cases c
  · exact SA.is_to t h
  · obtain ⟨vs, hv, hl⟩ := h; exact ⟨vs, hv, isA_to t hl⟩
theorem isV_to {e e' : Env} (t : e.To e') : ∀ {l : List SV} {vs : List Value}, isV e l vs → isV e' l vs
  | [], [], _ => trivial
  | c :: l, v :: vs, h => ⟨SV.is_to t h.1, isV_to t h.2⟩
  | [], _ :: _, h => h.elim
  | _ :: _, [], h => h.elim
theorem to_addS (e : Env) (v : Value) : e.To (e.addS v) := ⟨fun _ _ h => h, rfl, fun q u h => by
  have hlt : q < e.sg.length := (List.getElem?_eq_some_iff.1 h).1
  simp [Env.addS, List.getElem?_append_left hlt, h]⟩
theorem to_more (e : Env) (b : Nat) : e.To (e.more b) := ⟨fun _ _ h => rho_more h, rfl, fun _ _ h => h⟩
theorem capIs_put {e : Env} {q : Nat} {v : Value} : ∀ {l : List (Nat × Nat)} {vs : List Value}, capIs e l vs → capIs (e.putS q v) l vs
  | [], [], _ => trivial
  | (k, o) :: l, v :: vs, ⟨⟨x, hx, hv⟩, h⟩ => ⟨⟨x, hx, hv⟩, capIs_put h⟩
  | [], _ :: _, h => h.elim
  | _ :: _, [], h => h.elim
theorem putS_ne {e : Env} {q k : Nat} {u : Value} (h : ¬ k = q) : (e.putS q u).sg[k]? = e.sg[k]? := by
  simp [Env.putS, List.getElem?_set_ne (fun hh => h hh.symm)]
theorem SC.is_kill {e : Env} {q : Nat} {u : Value} {c : SC} {v : Value} (h : c.is e v) : (c.kill q).is (e.putS q u) v := by
  cases c <;> try exact h
  case rs k =>
    simp only [SC.kill]
    split
    · trivial
    · rename_i hk; exact ⟨by rw [putS_ne hk]; exact h.1, h.2⟩
  case rp k es j o =>
    simp only [SC.kill]
    split
    · trivial
    · rename_i hk; obtain ⟨b, p, n, c, h1, h2, h3⟩ := h; exact ⟨b, p, n, c, by rw [putS_ne hk]; exact h1, h2, h3⟩
  case fn f cap => obtain ⟨vs, hv, hc⟩ := h; exact ⟨vs, hv, capIs_put hc⟩
theorem isL_kill {e : Env} {q : Nat} {u : Value} : ∀ {l : List SC} {vs : List Value}, isL e l vs → isL (e.putS q u) (killL q l) vs
  | [], [], _ => trivial
  | c :: l, v :: vs, h => ⟨SC.is_kill h.1, isL_kill h.2⟩
  | [], _ :: _, h => h.elim
  | _ :: _, [], h => h.elim
theorem SA.is_kill {e : Env} {q : Nat} {u : Value} {c : SA} {v : Value} (h : c.is e v) : (c.kill q).is (e.putS q u) v := by
  cases c
  · exact SC.is_kill h
  · obtain ⟨vs, hv, hl⟩ := h; exact ⟨vs, hv, isL_kill hl⟩
theorem isA_kill {e : Env} {q : Nat} {u : Value} : ∀ {l : List SA} {vs : List Value}, isA e l vs → isA (e.putS q u) (killA q l) vs
  | [], [], _ => trivial
  | c :: l, v :: vs, h => ⟨SA.is_kill h.1, isA_kill h.2⟩
  | [], _ :: _, h => h.elim
  | _ :: _, [], h => h.elim
theorem SV.is_kill {e : Env} {q : Nat} {u : Value} {c : SV} {v : Value} (h : c.is e v) : (c.kill q).is (e.putS q u) v := by
  cases c
  · exact SA.is_kill h
  · obtain ⟨vs, hv, hl⟩ := h; exact ⟨vs, hv, isA_kill hl⟩
theorem isV_kill {e : Env} {q : Nat} {u : Value} : ∀ {l : List SV} {vs : List Value}, isV e l vs → isV (e.putS q u) (killV q l) vs
  | [], [], _ => trivial
  | c :: l, v :: vs, h => ⟨SV.is_kill h.1, isV_kill h.2⟩
  | [], _ :: _, h => h.elim
  | _ :: _, [], h => h.elim

theorem solid_one {e : Env} {c : SC} {v : Value} (h : c.is e v) (hs : c.solid = true) : v.oneCell' = true := by
  cases c <;> simp only [SC.is] at h
  case int => subst h; rfl
  case bool => subst h; rfl
  case lit => subst h; rfl
  case ptr => obtain ⟨x, _, rfl⟩ := h; rfl
  case pi => obtain ⟨x, _, rfl⟩ := h; rfl
  case sl => obtain ⟨x, _, rfl⟩ := h; rfl
  case xs => subst h; rfl
  case xp => obtain ⟨_, b, p, _, rfl⟩ := h; rfl
  case rs => exact h.2
  case rp => obtain ⟨b, p, n, c, _, _, rfl⟩ := h; rfl
  case fn => obtain ⟨vs, rfl, _⟩ := h; rfl
  case val => subst h; exact hs
  case any => simp [SC.solid] at hs
theorem solidL_one {e : Env} : ∀ {l : List SC} {vs : List Value}, isL e l vs → solidL l = true → ∀ v ∈ vs, v.oneCell' = true
  | [], [], _, _, v, hv => by simp at hv
  | c :: l, u :: vs, h, hs, v, hv => by
    simp only [solidL, Bool.and_eq_true] at hs
    rcases List.mem_cons.1 hv with rfl | hv
    · exact solid_one h.1 hs.1
    · exact solidL_one h.2 hs.2 v hv
  | [], _ :: _, h, _, _, _ => h.elim
  | _ :: _, [], h, _, _, _ => h.elim
theorem cells_of_one {v : Value} (h : v.oneCell' = true) : v.cells = #[v] := by
  cases v <;> simp_all [Value.cells, Value.oneCell']
/-- The cells of a value by its data. -/
theorem SV.cells_is {e : Env} {x : SV} {v : Value} {cs : List SC} (h : x.is e v) (hc : x.cells = some cs) : isL e cs v.cells.toList ∧ (∀ u ∈ v.cells.toList, u.oneCell' = true) := by
  unfold SV.cells at hc
  split at hc
  · split at hc
    · cases hc
      rename_i c hs
      have := solid_one h hs
      rw [cells_of_one this]
      refine ⟨⟨h, trivial⟩, ?_⟩
      intro u hu
      simp at hu; subst hu; exact this
    · cases hc
  · split at hc
    · cases hc
      obtain ⟨vs, rfl, hl⟩ := h
      exact ⟨hl, solidL_one hl (by assumption)⟩
    · cases hc
  · cases hc

/-! Constants and operands. -/
theorem ofC_is (e : Env) (v : Value) : (ofC v).is e v := by cases v <;> simp [ofC, SC.is]
theorem ofCs_is (e : Env) : ∀ vs : List Value, isL e (ofCs vs) vs
  | [] => trivial
  | v :: vs => ⟨ofC_is e v, ofCs_is e vs⟩
theorem ofV_is (e : Env) (v : Value) : (ofV v).is e v := by
  unfold ofV
  split
  · exact ⟨_, rfl, ofCs_is e _⟩
  · trivial
  · exact ofC_is e v
theorem evO_is {e : Env} {st : St} {a : Act} (ht : isV e st.t a.tmps.toList) (x : Operand) : (evO st x).is e (a.eval x) := by
  cases x with
  | tmp t =>
    simp only [evO, nth_eq, Act.eval]
    cases h : st.t[t]? with
    | none => trivial
    | some y =>
      obtain ⟨v, hv, hy⟩ := isV_get ht h
      simp only [Array.getElem?_toList] at hv
      rw [Array.getD_eq_getD_getElem?, hv]
      exact hy
  | const v => exact ofV_is e v
  | global g => trivial
  | func f => exact ⟨#[], rfl, trivial⟩
theorem evOs_is {e : Env} {st : St} {a : Act} (ht : isV e st.t a.tmps.toList) : ∀ l : List Operand, isV e (evOs st l) (l.map a.eval)
  | [] => trivial
  | x :: l => ⟨evO_is ht x, evOs_is ht l⟩

end Go.Proofs.Ytbimggeapaaliaa
