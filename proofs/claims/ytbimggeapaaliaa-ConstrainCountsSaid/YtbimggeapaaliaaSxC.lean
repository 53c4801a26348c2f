/- A second way to walk, its laws, second part: types, memory, single operations. No condition. -/
import Derived.Test.YtbimggeapaaliaaSxB
namespace Go.Proofs.Ytbimggeapaaliaa
open Go.RowKit
set_option linter.unusedVariables false
set_option linter.unusedSimpArgs false

/-! Types: a Bool over the program's rows. -/
def scB : SC → Value → Bool
  | .int k x, .int k' y => k == k' && x == y
  | .lit b, .bool c => b == c
  | .val (.slice none 0 0), .slice none 0 0 => true
  | .val (.pointer none), .pointer none => true
  | .val .nilFunc, .nilFunc => true
  | _, _ => false
def scsB : List SC → List Value → Bool
  | [], [] => true
  | c :: l, v :: vs => scB c v && scsB l vs
  | _, _ => false
def elB (P : Program) (t n : Nat) (g : Bool) : Bool := match P.info? t, P.underlying t with
  | some i, some d => i.size == n && d.isRow == g && decide (0 < n) && (g || n == 1)
  | _, _ => false
def fieldsB (P : Program) : List Field → List (Nat × Nat × Bool) → Bool
  | [], [] => true
  | f :: fs, (o, n, g) :: l => f.offset == o && elB P f.type n g && fieldsB P fs l
  | _, _ => false
def tyB (P : Program) (t : Nat) (y : Ty) : Bool := match P.info? t, P.underlying t with
  | some i, some d => i.size == y.size && decide (0 < y.size) && d.isRow == y.agg && (match i.zero with | some z => scsB y.zero z.cells.toList | none => false) &&
    (match y with
      | .one (.int k _) => match d with | .int k' => k == k' | _ => false
      | .one _ => true
      | .struct _ _ l _ => match d with | .struct fs => fieldsB P fs.toList l | _ => false
      | .arr n es ea _ => match d with | .array m el => n == m && elB P el es ea | _ => false
      | .slice es ea z => match d with | .slice el => elB P el es ea && (match P.info? el with | some j => (match j.zero with | some u => scsB z u.cells.toList && z.length == es && decide (j.bytes ≤ 65536) | none => false) | none => false) | _ => false)
  | _, _ => false
def goC (P : Program) (r : Nat → List SC → Bool) : List Field → List SC → Nat → Bool
  | [], z, _ => z.isEmpty
  | f :: fs, z, o => decide (f.name ≠ "_") && f.offset == o && (match P.info? f.type, P.underlying f.type with
    | some i, some u => (u.isRow || i.size == 1) && decide (i.size ≤ z.length) && r f.type (z.take i.size) && goC P r fs (z.drop i.size) (o + i.size)
    | _, _ => false)
def cmpB (P : Program) : Nat → Nat → List SC → Bool
  | 0, _, _ => false
  | d + 1, t, z => match P.underlying t with
    | some .bool => (match z with | [.lit _] => true | _ => false)
    | some (.int k) => (match z with | [.int k' _] => k == k' | _ => false)
    | some (.struct fs) => !P.stoodInHeld t && !P.eqGuardType P.depth t && goC P (cmpB P d) fs.toList z 0
    | _ => false

theorem scB_is {c : SC} {v : Value} (h : scB c v = true) (e : Env) : c.is e v := by
  unfold scB at h
  split at h <;> simp_all [SC.is]
theorem scsB_is (e : Env) : ∀ {l : List SC} {vs : List Value}, scsB l vs = true → isL e l vs
  | [], [], _ => trivial
  | c :: l, v :: vs, h => by
    simp only [scsB, Bool.and_eq_true] at h
    exact ⟨scB_is h.1 e, scsB_is e h.2⟩
  | [], _ :: _, h => by simp [scsB] at h
  | _ :: _, [], h => by simp [scsB] at h

variable {P : Program} {w : World}
theorem elB_spec {t n : Nat} {g : Bool} (h : elB P t n g = true) : ∃ i d, P.info? t = some i ∧ P.underlying t = some d ∧ i.size = n ∧ d.isRow = g ∧ 0 < n ∧ (g = false → n = 1) := by
  unfold elB at h
  split at h
  · rename_i i d h1 h2
    simp only [Bool.and_eq_true, beq_iff_eq, decide_eq_true_eq, Bool.or_eq_true] at h
    refine ⟨i, d, h1, h2, h.1.1.1, h.1.1.2, h.1.2, fun hg => ?_⟩
    rcases h.2 with h' | h'
    · rw [hg] at h'; cases h'
    · exact h'
  · cases h
theorem run_isAgg {t : Nat} {d : TypeDesc} (h : P.underlying t = some d) (w : World) : (isAgg t).run P w = .ok d.isRow w := by
  unfold isAgg
  rw [Sem.run_bind, run_underlying h w]
  cases d <;> simp_all
theorem run_sizeOf' {t : Nat} {i : TypeInfo} (h : P.info? t = some i) (w : World) : (sizeOf t).run P w = .ok i.size w := by
  simp [sizeOf, typeInfo, h]
theorem fieldsB_get : ∀ {fs : List Field} {l : List (Nat × Nat × Bool)}, fieldsB P fs l = true → ∀ {j : Nat} {p : Nat × Nat × Bool}, l[j]? = some p →
    ∃ f, fs[j]? = some f ∧ f.offset = p.1 ∧ elB P f.type p.2.1 p.2.2 = true
  | [], [], _, j, p, hp => by simp at hp
  | f :: fs, (o, n, g) :: l, h, 0, p, hp => by
    simp only [fieldsB, Bool.and_eq_true, beq_iff_eq] at h
    simp at hp; subst hp
    exact ⟨f, by simp, h.1.1, h.1.2⟩
  | f :: fs, (o, n, g) :: l, h, j + 1, p, hp => by
    simp only [fieldsB, Bool.and_eq_true, beq_iff_eq] at h
    simp at hp
    simpa using fieldsB_get h.2 hp
  | [], _ :: _, h, _, _, _ => by simp [fieldsB] at h
  | _ :: _, [], h, _, _, _ => by simp [fieldsB] at h
structure TyF (P : Program) (t : Nat) (y : Ty) : Prop where
  ex : ∃ i d z, P.info? t = some i ∧ P.underlying t = some d ∧ i.size = y.size ∧ 0 < y.size ∧ d.isRow = y.agg ∧ i.zero = some z ∧ scsB y.zero z.cells.toList = true ∧
    (match y with
      | .one (.int k _) => d = .int k
      | .one _ => True
      | .struct _ _ l _ => ∃ fs, d = .struct fs ∧ fieldsB P fs.toList l = true
      | .arr n es ea _ => ∃ el, d = .array n el ∧ elB P el es ea = true
      | .slice es ea z => ∃ el j u, d = .slice el ∧ elB P el es ea = true ∧ P.info? el = some j ∧ j.zero = some u ∧ scsB z u.cells.toList = true ∧ z.length = es ∧ j.bytes ≤ 65536)
theorem tyB_spec {t : Nat} {y : Ty} (h : tyB P t y = true) : TyF P t y := by
  unfold tyB at h
  split at h
  · rename_i i d h1 h2
    simp only [Bool.and_eq_true, beq_iff_eq, decide_eq_true_eq] at h
    obtain ⟨⟨⟨⟨g1, g2⟩, g3⟩, g4⟩, g5⟩ := h
    split at g4
    · rename_i z hz
      refine ⟨i, d, z, h1, h2, g1, g2, g3, hz, g4, ?_⟩
      cases y with
      | one c =>
        cases c with
        | int k n =>
          simp only at g5 ⊢
          split at g5
          · rw [beq_iff_eq] at g5; rw [g5]
          · cases g5
        | _ => trivial
      | struct s zz l cmp => 
        simp only at g5 ⊢
        split at g5
        · exact ⟨_, rfl, g5⟩
        · cases g5
      | arr n es ea zz =>
        simp only at g5 ⊢
        split at g5
        · simp only [Bool.and_eq_true, beq_iff_eq] at g5
          obtain ⟨rfl, g6⟩ := g5
          exact ⟨_, rfl, g6⟩
        · cases g5
      | slice es ea zz =>
        simp only at g5 ⊢
        split at g5
        · simp only [Bool.and_eq_true] at g5
          obtain ⟨g6, g7⟩ := g5
          split at g7
          · rename_i j hj
            split at g7
            · rename_i u hu
              simp only [Bool.and_eq_true, beq_iff_eq, decide_eq_true_eq] at g7
              exact ⟨_, j, u, rfl, g6, hj, hu, g7.1.1, g7.1.2, g7.2⟩
            · cases g7
          · cases g7
        · cases g5
    · cases g4
  · cases h
/-- The table is the program's. -/
structure TOk (P : Program) (T : Tb) : Prop where
  ty : ∀ t y, T.ty t = some y → tyB P t y = true
  cmp : ∀ t s z l, T.ty t = some (.struct s z l true) → cmpB P 5 t z = true
  nd : T.nd = and
  nt : T.nt = not
  ar : T.ar = rAr
  cm : T.cm = rCm
  mx : T.mx = rMx
  mn : T.mn = rMn
  pl : T.pl = fun x y => x + y
  jn : T.jn = rJn
  up : T.up = rUp
  mi : T.mi = fun x y => x - y
  dp : T.dp = rDp

theorem run_zero {t : Nat} {y : Ty} (h : TyF P t y) (e : Env) : ∃ z, (∀ w, (zeroValue t).run P w = .ok z w) ∧ isL e y.zero z.cells.toList := by
  obtain ⟨i, d, z, h1, _, _, _, _, hz, hs, _⟩ := h.ex
  exact ⟨z, fun w => by simp [zeroValue, typeInfo, h1, hz], scsB_is e hs⟩

/-! Memory. -/
/-- Where the walk began, and which of the blocks that were there it may write. -/
structure Base where
  w : World
  mo : List Nat
structure KB (w0 : Base) (w : World) : Prop where
  os : w.os = w0.w.os
  tape : w.tape = w0.w.tape
  output : w.output = w0.w.output
  size : w0.w.heap.size ≤ w.heap.size
  block : ∀ k, k < w0.w.heap.size → k ∉ w0.mo → w.heap[k]? = w0.w.heap[k]?
theorem KB.refl (w0 : Base) : KB w0 w0.w := ⟨rfl, rfl, rfl, Nat.le_refl _, fun _ _ _ => rfl⟩
theorem KB.later {w0 : Base} {w w' : World} (h : KB w0 w) (hb : Below w.heap.size w w') : KB w0 w' :=
  ⟨hb.os.trans h.os, hb.tape.trans h.tape, hb.output.trans h.output, Nat.le_trans h.size hb.size, fun k hk hm => (hb.block k (Nat.lt_of_lt_of_le hk h.size)).trans (h.block k hk hm)⟩
theorem KB.below {w w' : World} (h : KB ⟨w, []⟩ w') : Below w.heap.size w w' := ⟨h.os, h.tape, h.output, h.size, fun k hk => h.block k hk (by simp)⟩
theorem KB.cell {w0 : Base} {w : World} (h : KB w0 w) {p : Addr} (hp : p.block < w0.w.heap.size) (hm : p.block ∉ w0.mo) : w.cell? p = w0.w.cell? p := World.cell?_of_block (w := w0.w) (h.block p.block hp hm)
def XOk (e : Env) (w0 : Base) : Prop := ∀ q i j, j < (e.chi q i).n → ∃ b p, (e.chi q i).a = some ⟨b, p, none⟩ ∧ b < w0.w.heap.size ∧ b ∉ w0.mo ∧
  ∃ vs, isL ⟨[], e.chi, []⟩ ((e.chi q i).el j) vs ∧ ∀ (t : Nat) (v : Value), vs[t]? = some v → w0.w.cell? ⟨b, p + (j * (e.chi q i).size + t), none⟩ = some v
def isVs (e : Env) : List (List SV) → List Act → Prop
  | [], [] => True
  | t :: ts, a :: us => (a.defers = [] ∧ isV e t a.tmps.toList) ∧ isVs e ts us
  | _, _ => False
/-- A row of the call's own as it lies in memory: nil, or the first n elements of what a block holds from a place on. -/
def OwnR (w : World) (es : Nat) (v : Value) (n : Nat) (xs : List Value) : Prop :=
  xs.length = n * es ∧ (∀ u ∈ xs, u.oneCell' = true) ∧
  ((v = .slice none 0 0 ∧ n = 0) ∨ ∃ g o cap cur ty, v = .slice (some ⟨g, o, none⟩) n cap ∧ w.heap[g]? = some (.cells cur ty (0, 0)) ∧ n ≤ cap ∧ cap ≤ maxLen ∧ o + cap * es ≤ cur.size ∧ (cur.toList.drop o).take (n * es) = xs)
/-- What the elements are. -/
def ElsIs (c : Nat → Nat → Row) (R : ORow) (xs : List Value) : Prop := ∀ j, j < R.n → isL ⟨[], c, []⟩ (R.el j) ((xs.drop (j * R.es)).take R.es)
/-- The row q lives, and block b is its. -/
def HasR (e : Env) (st : St) (q b : Nat) : Prop := ∃ R v, st.r[q]? = some (some R) ∧ e.sg[q]? = some v ∧ v.ownBlock = some b
/-- The block k lives, and is b. -/
def HasH (e : Env) (st : St) (k b : Nat) : Prop := ∃ cs, st.h[k]? = some (some cs) ∧ e.rho[k]? = some b
structure Rows (e : Env) (w0 : Base) (st : St) (w : World) : Prop where
  len : e.sg.length = st.r.length
  row : ∀ (q : Nat) (R : ORow), st.r[q]? = some (some R) → ∃ v xs, e.sg[q]? = some v ∧ OwnR w R.es v R.n xs ∧ ElsIs e.chi R xs
  lo : ∀ q b, HasR e st q b → w0.w.heap.size ≤ b ∨ b ∈ w0.mo
  hi : ∀ q b, HasR e st q b → b < w.heap.size
  nd : ∀ q q' b, HasR e st q b → HasR e st q' b → q = q'
  no : ∀ q b, HasR e st q b → ∀ k, ¬ HasH e st k b
/-- The rows of the outside lie in memory, in blocks that are not the call's own. -/
structure Ext (e : Env) (w0 : Base) (st : St) (w : World) : Prop where
  ok : ∀ q i j, j < (e.chi q i).n → ∃ b p, (e.chi q i).a = some ⟨b, p, none⟩ ∧ b < w.heap.size ∧ b ∉ w0.mo ∧ (∀ k, ¬ HasH e st k b) ∧ (∀ q', ¬ HasR e st q' b) ∧
    ∃ vs, isL ⟨[], e.chi, []⟩ ((e.chi q i).el j) vs ∧ ∀ (t : Nat) (v : Value), vs[t]? = some v → w.cell? ⟨b, p + (j * (e.chi q i).size + t), none⟩ = some v
structure Fit (e : Env) (w0 : Base) (st : St) (a : Act) (s : List Act) (w : World) : Prop where
  fr : isVs e st.fr s
  dfr : a.defers = []
  tm : isV e st.t a.tmps.toList
  blw : KB w0 w
  lo : ∀ (k b : Nat), e.rho[k]? = some b → w0.w.heap.size ≤ b ∨ b ∈ w0.mo
  hi : ∀ (k b : Nat), e.rho[k]? = some b → b < w.heap.size
  nd : ∀ (j k b : Nat), e.rho[j]? = some b → e.rho[k]? = some b → j = k
  len : e.rho.length = st.h.length
  cells : ∀ (k b : Nat) (cs : List SC), e.rho[k]? = some b → st.h[k]? = some (some cs) → ∃ vs t, w.heap[b]? = some (.cells vs t (0, 0)) ∧ isL e cs vs.toList
  ext : Ext e w0 st w
  pre : ∀ (i b : Nat), w0.mo[i]? = some b → e.rho[i]? = some b
  rows : Rows e w0 st w
theorem OwnR.form {w : World} {es n : Nat} {v : Value} {xs : List Value} (h : OwnR w es v n xs) : ∃ a c, v = .slice a n c := by
  rcases h.2.2 with ⟨rfl, rfl⟩ | ⟨g, o, cap, cur, ty, rfl, _⟩
  · exact ⟨_, _, rfl⟩
  · exact ⟨_, _, rfl⟩
theorem OwnR.kept {w w' : World} {es n : Nat} {v : Value} {xs : List Value} (h : OwnR w es v n xs) (hk : ∀ b, v.ownBlock = some b → w'.heap[b]? = w.heap[b]?) : OwnR w' es v n xs := by
  refine ⟨h.1, h.2.1, ?_⟩
  rcases h.2.2 with hn | ⟨g, o, cap, cur, ty, rfl, hg, rest⟩
  · exact .inl hn
  · exact .inr ⟨g, o, cap, cur, ty, rfl, by rw [hk g rfl]; exact hg, rest⟩
/-- Rows stay where their blocks do. -/
theorem Rows.kept {e e' : Env} {w0 : Base} {st st' : St} {w w' : World} (h : Rows e w0 st w) (hs : e'.sg = e.sg) (hc : e'.chi = e.chi) (hr : st'.r = st.r) (hsz : w.heap.size ≤ w'.heap.size) (hb : ∀ q b, HasR e st q b → w'.heap[b]? = w.heap[b]?)
    (hH : ∀ k b, HasH e' st' k b → HasH e st k b ∨ w.heap.size ≤ b) : Rows e' w0 st' w' := by
  have hR : ∀ q b, HasR e' st' q b → HasR e st q b := fun q b ⟨R, v, h1, h2, h3⟩ => ⟨R, v, hr ▸ h1, hs ▸ h2, h3⟩
  refine ⟨by rw [hs, hr]; exact h.len, fun q R hq => ?_, fun q b hq => h.lo q b (hR q b hq), fun q b hq => Nat.lt_of_lt_of_le (h.hi q b (hR q b hq)) hsz, fun q q' b h1 h2 => h.nd q q' b (hR q b h1) (hR q' b h2), fun q b hq k hk => ?_⟩
  · rw [hr] at hq
    obtain ⟨v, xs, h1, h2, h3⟩ := h.row q R hq
    refine ⟨v, xs, by rw [hs]; exact h1, h2.kept fun b hv => hb q b ⟨R, v, hq, h1, hv⟩, ?_⟩
    rw [hc]; exact h3
  · rcases hH k b hk with g | g
    · exact h.no q b (hR q b hq) k g
    · have := h.hi q b (hR q b hq); omega
/-- The rows of the outside stay where their blocks do. -/
theorem Ext.kept {e e' : Env} {w0 : Base} {st st' : St} {w w' : World} (h : Ext e w0 st w) (hc : e'.chi = e.chi) (hsz : w.heap.size ≤ w'.heap.size) (hb : ∀ b, b < w.heap.size → b ∉ w0.mo → (∀ k, ¬ HasH e st k b) → (∀ q, ¬ HasR e st q b) → w'.heap[b]? = w.heap[b]?)
    (hH : ∀ k b, HasH e' st' k b → HasH e st k b ∨ w.heap.size ≤ b) (hR : ∀ q b, HasR e' st' q b → HasR e st q b ∨ (∃ k, HasH e st k b) ∨ w.heap.size ≤ b) : Ext e' w0 st' w' := by
  refine ⟨fun q i j hj => ?_⟩
  rw [hc] at hj ⊢
  obtain ⟨b, p, h1, h2, h3, h4, h5, vs, h6, h7⟩ := h.ok q i j hj
  refine ⟨b, p, h1, by omega, h3, fun k hk => ?_, fun q' hq => ?_, vs, h6, fun t v ht => ?_⟩
  · rcases hH k b hk with g | g
    · exact h4 k g
    · omega
  · rcases hR q' b hq with g | ⟨k, g⟩ | g
    · exact h5 q' g
    · exact h4 k g
    · omega
  · rw [World.cell?_of_block (w := w) (hb b h2 h3 h4 h5)]
    exact h7 t v ht

theorem capIs_nil {c : Nat → Nat → Row} {r : List Nat} {g : List Value} : ∀ {l : List (Nat × Nat)} {vs : List Value}, capIs ⟨[], c, []⟩ l vs → capIs ⟨r, c, g⟩ l vs
  | [], [], _ => trivial
  | (k, o) :: l, v :: vs, ⟨⟨x, hx, _⟩, _⟩ => by simp at hx
  | [], _ :: _, h => h.elim
  | _ :: _, [], h => h.elim
theorem SC.is_nil {c : Nat → Nat → Row} {r : List Nat} {g : List Value} {x : SC} {v : Value} (h : x.is ⟨[], c, []⟩ v) : x.is ⟨r, c, g⟩ v := by
  cases x <;> try exact h
  case ptr k o => obtain ⟨x, hx, _⟩ := h; simp at hx
  case pi k o => obtain ⟨x, hx, _⟩ := h; simp at hx
  case sl k o n c => obtain ⟨x, hx, _⟩ := h; simp at hx
  case rs q => obtain ⟨h1, _⟩ := h; simp at h1
  case rp q es j o => obtain ⟨_, _, _, _, h1, _⟩ := h; simp at h1
  case fn f cap => obtain ⟨vs, hv, hc⟩ := h; exact ⟨vs, hv, capIs_nil hc⟩
theorem isL_nil {c : Nat → Nat → Row} {r : List Nat} {g : List Value} : ∀ {l : List SC} {vs : List Value}, isL ⟨[], c, []⟩ l vs → isL ⟨r, c, g⟩ l vs
  | [], [], _ => trivial
  | c :: l, v :: vs, h => ⟨SC.is_nil h.1, isL_nil h.2⟩
  | [], _ :: _, h => h.elim
  | _ :: _, [], h => h.elim

theorem add_lit' (b o n : Nat) : Addr.add ⟨b, o, none⟩ n = ⟨b, o + n, none⟩ := Addr.add_mid b o n

/-- Cells that lie in a row, read as a variable of a type. -/
theorem run_loadVar_cells {t : Nat} {y : Ty} (hT : TyF P t y) {e : Env} {cs : List SC} {vs : List Value} {x : SV} (hl : isL e cs vs) (hn : cs.length = y.size) (hx : ofCells y.agg cs = some x) {b o : Nat}
    (hc : ∀ (j : Nat) (v : Value), vs[j]? = some v → w.cell? ⟨b, o + j, none⟩ = some v) :
    ∃ v, x.is e v ∧ (Instr.loadAt t (.pointer (some ⟨b, o, none⟩))).run P w = .ok v w := by
  obtain ⟨i, d, z, h1, h2, h3, h4, h5, _⟩ := hT.ex
  have hlen := isL_length hl
  unfold ofCells at hx
  cases ha : y.agg with
  | true =>
    rw [ha] at hx
    simp only [if_true] at hx
    cases hx
    refine ⟨.agg vs.toArray, ⟨_, rfl, by simpa using hl⟩, ?_⟩
    exact run_loadAt_mid w b o t vs d hc h2 (by rw [h5, ha]) (by simp [h1, h3]; omega)
  | false =>
    rw [ha] at hx
    simp only [Bool.false_eq_true, if_false] at hx
    split at hx
    · cases hx
      match vs, hl with
      | [v], hl =>
        have hv := hc 0 v (by simp)
        refine ⟨v, hl.1, ?_⟩
        simp only [Instr.loadAt, Instr.sureAddr, Sem.run_bind, Sem.run_pure, Result.andThen_ok, loadVar, run_isAgg h2, h5, ha, Bool.false_eq_true, if_false]
        simp only [Nat.add_zero] at hv
        simp [hv]
    · cases hx

/-- Values stored on end. -/
theorem run_storeCells_own : ∀ (vs : List Value) (i : Nat) (w : World) (b o : Nat) (old : Array Value) (t : TypeId), w.heap[b]? = some (.cells old t (0, 0)) → o + i + vs.length ≤ old.size → (∀ v ∈ vs, v.oneCell' = true) →
    ∃ w', (storeCells ⟨b, o, none⟩ vs i).run P w = .ok () w' ∧ w'.heap[b]? = some (.cells (pasteL old.toList (o + i) vs).toArray t (0, 0)) ∧ (∀ k, k ≠ b → w'.heap[k]? = w.heap[k]?) ∧ w'.heap.size = w.heap.size ∧ w'.os = w.os ∧ w'.tape = w.tape ∧ w'.output = w.output
  | [], i, w, b, o, old, t, hb, _, _ => by
    refine ⟨w, rfl, ?_, fun _ _ => rfl, rfl, rfl, rfl, rfl⟩
    have : pasteL old.toList (o + i) ([] : List Value) = old.toList := by cases old.toList <;> simp [pasteL]
    rw [this]; simpa using hb
  | v :: vs, i, w, b, o, old, t, hb, hn, h1 => by
    simp only [List.length_cons] at hn
    have hc : w.cell? ⟨b, o + i, none⟩ = some (old[o + i]'(by omega)) := by
      rw [cell_of_row w b (o + i) old t (0, 0) hb]; simp
    have hf : w.frozen? ⟨b, o + i, none⟩ = false := by simp [World.frozen?, hb]
    have hst : (store ((⟨b, o, none⟩ : Addr).add i) v).run P w = .ok () (w.setCell ⟨b, o + i, none⟩ v) := by
      rw [add_lit', run_store P w _ v _ (h1 v (by simp)), hc, hf]; rfl
    have hlt : b < w.heap.size := (Array.getElem?_eq_some_iff.1 hb).1
    have hb' : (w.setCell ⟨b, o + i, none⟩ v).heap[b]? = some (.cells (old.setIfInBounds (o + i) v) t (0, 0)) := by
      simp only [World.setCell, Array.getElem?_modify, hb]
      simp
    obtain ⟨w', e1, e2, e3, e4, e5, e6, e7⟩ := run_storeCells_own vs (i + 1) _ b o _ t hb' (by simp; omega) (fun u hu => h1 u (by simp [hu]))
    refine ⟨w', ?_, ?_, fun k hk => ?_, ?_, e5.trans rfl, e6.trans rfl, e7.trans rfl⟩
    · simp only [storeCells, Sem.run_bind, hst, Result.andThen_ok, e1]
    · rw [e2]
      congr 2
      apply Array.ext_getElem?
      intro j
      simp only [List.getElem?_toArray, Array.toList_setIfInBounds]
      rw [pasteL_get _ _ _ _ (by simp; omega), pasteL_get _ _ _ _ (by simp; omega)]
      simp only [List.length_cons, List.getElem?_set, Array.length_toList]
      by_cases g0 : j = o + i
      · subst g0
        have : o + i < o + (i + 1) := by omega
        simp [this]
        omega
      · have g0' : ¬ o + i = j := fun e => g0 e.symm
        by_cases g1 : j < o + i
        · have : j < o + (i + 1) := by omega
          simp [g1, this, g0']
        · have g2 : ¬ j < o + (i + 1) := by omega
          simp only [g1, g2, if_false, g0']
          by_cases g3 : j < o + (i + 1) + vs.length
          · rw [if_pos g3, if_pos (by omega)]
            have : j - (o + i) = (j - (o + (i + 1))) + 1 := by omega
            rw [this]; simp
          · rw [if_neg g3, if_neg (by omega)]
    · rw [e3 k hk, Below.heap_setCell _ _ _ _ (by simpa using hk)]
    · rw [e4]; simp [World.setCell]

end Go.Proofs.Ytbimggeapaaliaa
