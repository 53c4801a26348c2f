/- A second way to walk, its laws, last part: calls that write blocks of the caller. No condition. -/
import Derived.Test.YtbimggeapaaliaaSxH
import Derived.IntWalk
namespace Go.Proofs.Ytbimggeapaaliaa
open Go.RowKit
set_option linter.unusedVariables false
set_option linter.unusedSimpArgs false

/-- Data of a callee in its caller's numbers: `q` says which blocks they are. -/
def reP (q : List Nat) : List (Nat × Nat) → List (Nat × Nat)
  | [] => []
  | (k, o) :: l => (match nth q k with | some k' => k' | none => 0, o) :: reP q l
def SC.re (q : List Nat) : SC → SC
  | .ptr k o => match nth q k with | some k' => .ptr k' o | none => .any
  | .pi k o => match nth q k with | some k' => .pi k' o | none => .any
  | .sl k o n c => match nth q k with | some k' => .sl k' o n c | none => .any
  | .fn f cap => .fn f (reP q cap)
  | c => c
def reL (q : List Nat) : List SC → List SC
  | [] => []
  | c :: l => c.re q :: reL q l
def SA.re (q : List Nat) : SA → SA
  | .one c => .one (c.re q)
  | .agg l => .agg (reL q l)
def SV.re (q : List Nat) : SV → SV
  | .pt a => .pt (a.re q)
  | .tup _ => .pt (.one .any)
def reV (q : List Nat) : List SV → List SV
  | [] => []
  | c :: l => c.re q :: reV q l
def noTup : List SV → Bool
  | [] => true
  | .pt _ :: l => noTup l
  | .tup _ :: _ => false
/-- The callee's blocks are these of the caller's. -/
structure Sub (e : Env) (q bs : List Nat) : Prop where
  len : bs.length = q.length
  at_ : ∀ (i k : Nat), q[i]? = some k → ∃ b, e.rho[k]? = some b ∧ bs[i]? = some b
section
variable {e : Env} {q bs : List Nat}
theorem capIs_in (S : Sub e q bs) : ∀ {l : List (Nat × Nat)} {vs : List Value}, bndP q.length l = true → capIs e (reP q l) vs → capIs ⟨bs, e.chi, []⟩ l vs
  | [], [], _, _ => trivial
  | (k, o) :: l, v :: vs, hb, h => by
    simp only [bndP, Bool.and_eq_true, decide_eq_true_eq] at hb
    obtain ⟨k', hk⟩ : ∃ k', q[k]? = some k' := ⟨_, List.getElem?_eq_getElem hb.1⟩
    simp only [reP, nth_eq, hk] at h
    obtain ⟨⟨b, h1, h2⟩, h3⟩ := h
    obtain ⟨b', g1, g2⟩ := S.at_ k k' hk
    rw [h1] at g1; cases g1
    exact ⟨⟨b, g2, h2⟩, capIs_in S hb.2 h3⟩
  | [], _ :: _, _, h => h.elim
  | (_, _) :: _, [], _, h => h.elim
theorem capIs_out (S : Sub e q bs) : ∀ {l : List (Nat × Nat)} {vs : List Value}, capIs ⟨bs, e.chi, []⟩ l vs → capIs e (reP q l) vs
  | [], [], _ => trivial
  | (k, o) :: l, v :: vs, ⟨⟨b, h1, h2⟩, h3⟩ => by
    have hlt : k < bs.length := (List.getElem?_eq_some_iff.1 h1).1
    obtain ⟨k', hk⟩ : ∃ k', q[k]? = some k' := ⟨_, List.getElem?_eq_getElem (by rw [← S.len]; exact hlt)⟩
    obtain ⟨b', g1, g2⟩ := S.at_ k k' hk
    have h1 : bs[k]? = some b := h1
    rw [h1] at g2; cases g2
    simp only [reP, nth_eq, hk]
    exact ⟨⟨b, g1, h2⟩, capIs_out S h3⟩
  | [], _ :: _, h => h.elim
  | (_, _) :: _, [], h => h.elim
theorem SC.is_in (S : Sub e q bs) {c : SC} {v : Value} (hb : c.bnd q.length 0 = true) (h : (c.re q).is e v) : c.is ⟨bs, e.chi, []⟩ v := by
  have key : ∀ k : Nat, decide (k < q.length) = true → ∃ k' b, q[k]? = some k' ∧ e.rho[k']? = some b ∧ bs[k]? = some b := by
    intro k hk
    simp only [decide_eq_true_eq] at hk
    obtain ⟨b, g1, g2⟩ := S.at_ k _ (List.getElem?_eq_getElem hk)
    exact ⟨_, b, List.getElem?_eq_getElem hk, g1, g2⟩
  cases c <;> try exact h
  case ptr k o =>
    obtain ⟨k', b, g1, g2, g3⟩ := key k hb
    simp only [SC.re, nth_eq, g1] at h
    obtain ⟨x, h1, h2⟩ := h
    rw [g2] at h1; cases h1
    exact ⟨b, g3, h2⟩
  case pi k o =>
    obtain ⟨k', b, g1, g2, g3⟩ := key k hb
    simp only [SC.re, nth_eq, g1] at h
    obtain ⟨x, h1, h2⟩ := h
    rw [g2] at h1; cases h1
    exact ⟨b, g3, h2⟩
  case sl k o n c =>
    obtain ⟨k', b, g1, g2, g3⟩ := key k hb
    simp only [SC.re, nth_eq, g1] at h
    obtain ⟨x, h1, h2⟩ := h
    rw [g2] at h1; cases h1
    exact ⟨b, g3, h2⟩
  case rs q => simp [SC.bnd] at hb
  case rp q es j o => simp [SC.bnd] at hb
  case fn f cap =>
    obtain ⟨vs, h1, h2⟩ := h
    exact ⟨vs, h1, capIs_in S hb h2⟩
theorem SC.is_out (S : Sub e q bs) {c : SC} {v : Value} (h : c.is ⟨bs, e.chi, []⟩ v) : (c.re q).is e v := by
  have key : ∀ (k b : Nat), bs[k]? = some b → ∃ k', q[k]? = some k' ∧ e.rho[k']? = some b := by
    intro k b hk
    have hlt : k < bs.length := (List.getElem?_eq_some_iff.1 hk).1
    obtain ⟨b', g1, g2⟩ := S.at_ k _ (List.getElem?_eq_getElem (by rw [← S.len]; exact hlt))
    rw [hk] at g2; cases g2
    exact ⟨_, List.getElem?_eq_getElem (by rw [← S.len]; exact hlt), g1⟩
  cases c <;> try exact h
  case ptr k o =>
    obtain ⟨b, h1, h2⟩ := h
    obtain ⟨k', g1, g2⟩ := key k b h1
    simp only [SC.re, nth_eq, g1]
    exact ⟨b, g2, h2⟩
  case pi k o =>
    obtain ⟨b, h1, h2⟩ := h
    obtain ⟨k', g1, g2⟩ := key k b h1
    simp only [SC.re, nth_eq, g1]
    exact ⟨b, g2, h2⟩
  case sl k o n c =>
    obtain ⟨b, h1, h2⟩ := h
    obtain ⟨k', g1, g2⟩ := key k b h1
    simp only [SC.re, nth_eq, g1]
    exact ⟨b, g2, h2⟩
  case rs q => have := h.1; simp at this
  case rp q es j o => obtain ⟨_, _, _, _, h1, _⟩ := h; simp at h1
  case fn f cap =>
    obtain ⟨vs, h1, h2⟩ := h
    exact ⟨vs, h1, capIs_out S h2⟩
theorem isL_in (S : Sub e q bs) : ∀ {l : List SC} {vs : List Value}, bndL q.length 0 l = true → isL e (reL q l) vs → isL ⟨bs, e.chi, []⟩ l vs
  | [], [], _, _ => trivial
  | c :: l, v :: vs, hb, h => by
    simp only [bndL, Bool.and_eq_true] at hb
    exact ⟨SC.is_in S hb.1 h.1, isL_in S hb.2 h.2⟩
  | [], _ :: _, _, h => h.elim
  | _ :: _, [], _, h => h.elim
theorem isL_out (S : Sub e q bs) : ∀ {l : List SC} {vs : List Value}, isL ⟨bs, e.chi, []⟩ l vs → isL e (reL q l) vs
  | [], [], _ => trivial
  | c :: l, v :: vs, h => ⟨SC.is_out S h.1, isL_out S h.2⟩
  | [], _ :: _, h => h.elim
  | _ :: _, [], h => h.elim
theorem isV_in (S : Sub e q bs) : ∀ {l : List SV} {vs : List Value}, noTup l = true → bndV q.length 0 l = true → isV e (reV q l) vs → isV ⟨bs, e.chi, []⟩ l vs
  | [], [], _, _, _ => trivial
  | .pt c :: l, v :: vs, hn, hb, h => by
    simp only [bndV, Bool.and_eq_true] at hb
    refine ⟨?_, isV_in S hn hb.2 h.2⟩
    cases c with
    | one c => exact SC.is_in S hb.1 h.1
    | agg l =>
      obtain ⟨us, h1, h2⟩ := h.1
      exact ⟨us, h1, isL_in S hb.1 h2⟩
  | .tup _ :: _, _ :: _, hn, _, _ => by simp [noTup] at hn
  | [], _ :: _, _, _, h => h.elim
  | .pt _ :: _, [], _, _, h => h.elim
  | .tup _ :: _, [], hn, _, _ => by simp [noTup] at hn
end

/-- Blocks and what they hold. -/
def HsAt (c : Nat → Nat → Row) (w : World) (bs : List Nat) (hs : List (List SC)) : Prop := ∀ (i b : Nat) (cs : List SC), bs[i]? = some b → hs[i]? = some cs → b < w.heap.size ∧ ∃ vs t, w.heap[b]? = some (.cells vs t (0, 0)) ∧ isL ⟨bs, c, []⟩ cs vs.toList
/-- A call that turns these blocks' contents, and nothing else that was there. -/
def EffC (P : Program) (f : Nat) (c : Nat → Nat → Row) (args : List SV) (hs hs' : List (List SC)) (v : Value) : Prop :=
  ∀ (w : World) (bs : List Nat) (vals : List Value), bs.length = hs.length → (∀ (i j b : Nat), bs[i]? = some b → bs[j]? = some b → i = j) → HsAt c w bs hs → XOk ⟨[], c, []⟩ ⟨w, bs⟩ → isV ⟨bs, c, []⟩ args vals →
    Calls P f vals.toArray w (fun e w' => e = .returned v ∧ KB ⟨w, bs⟩ w' ∧ HsAt c w' bs hs')
def getH (h : List (Option (List SC))) : List Nat → Option (List (List SC))
  | [] => some []
  | k :: l => match nth h k, getH h l with
    | some (some cs), some r => some (cs :: r)
    | _, _ => none
def setH : List (Option (List SC)) → List Nat → List (List SC) → List (Option (List SC))
  | h, k :: l, cs :: r => setH (setN h k (some cs)) l r
  | h, _, _ => h
def reLs (q : List Nat) : List (List SC) → List (List SC)
  | [] => []
  | l :: r => reL q l :: reLs q r
def someL : List (List SC) → List (Option (List SC))
  | [] => []
  | l :: r => some l :: someL r
theorem someL_get {r : List (List SC)} {i : Nat} {cs : List SC} (h : r[i]? = some cs) : (someL r)[i]? = some (some cs) := by
  induction r generalizing i with
  | nil => simp at h
  | cons l r ih =>
    cases i with
    | zero => simp at h; subst h; simp [someL]
    | succ i => simpa [someL] using ih (by simpa using h)
def bndLs (n : Nat) : List (List SC) → Bool
  | [] => true
  | l :: r => bndL n 0 l && bndLs n r
theorem getH_spec {h : List (Option (List SC))} : ∀ {q : List Nat} {hs : List (List SC)}, getH h q = some hs → q.length = hs.length ∧ ∀ (i k : Nat) (cs : List SC), q[i]? = some k → hs[i]? = some cs → h[k]? = some (some cs)
  | [], hs, hh => by simp [getH] at hh; subst hh; exact ⟨rfl, fun i k cs hi => by simp at hi⟩
  | k :: l, hs, hh => by
    simp only [getH, nth_eq] at hh
    split at hh
    · rename_i cs r h1 h2
      cases hh
      obtain ⟨g1, g2⟩ := getH_spec h2
      refine ⟨by simp [g1], fun i k' cs' hi hc => ?_⟩
      cases i with
      | zero => simp at hi hc; subst hi; subst hc; exact h1
      | succ i => exact g2 i k' cs' (by simpa using hi) (by simpa using hc)
    · cases hh
theorem setH_spec : ∀ {q : List Nat} {hs : List (List SC)} {h : List (Option (List SC))}, q.length = hs.length → q.Nodup → (setH h q hs).length = h.length ∧ ∀ (k : Nat) (cs : List SC), (setH h q hs)[k]? = some (some cs) → (∃ i : Nat, q[i]? = some k ∧ hs[i]? = some cs) ∨ (k ∉ q ∧ h[k]? = some (some cs))
  | [], [], h, _, _ => ⟨rfl, fun k cs hk => .inr ⟨by simp, hk⟩⟩
  | k0 :: l, c0 :: r, h, hl, hn => by
    rw [List.nodup_cons] at hn
    obtain ⟨g1, g2⟩ := setH_spec (q := l) (hs := r) (h := setN h k0 (some c0)) (by simpa using hl) hn.2
    refine ⟨by simp only [setH, g1]; simp [setN_eq], fun k cs hk => ?_⟩
    simp only [setH] at hk
    rcases g2 k cs hk with ⟨i, h1, h2⟩ | ⟨h1, h2⟩
    · exact .inl ⟨i + 1, by simpa using h1, by simpa using h2⟩
    · rw [setN_eq, List.getElem?_set] at h2
      split at h2
      · rename_i e
        subst e
        split at h2
        · cases h2; exact .inl ⟨0, by simp, by simp⟩
        · cases h2
      · rename_i hne
        exact .inr ⟨by simp only [List.mem_cons, not_or]; exact ⟨fun e => hne e.symm, h1⟩, h2⟩
  | [], _ :: _, _, hl, _ => by simp at hl
  | _ :: _, [], _, hl, _ => by simp at hl
theorem nodup_idx : ∀ {q : List Nat}, q.Nodup → ∀ {i j k : Nat}, q[i]? = some k → q[j]? = some k → i = j
  | [], _, i, j, k, h, _ => by simp at h
  | x :: q, hn, 0, 0, k, _, _ => rfl
  | x :: q, hn, 0, j + 1, k, hi, hj => by
    rw [List.nodup_cons] at hn
    simp at hi hj; subst hi
    exact absurd (List.mem_iff_getElem?.2 ⟨j, hj⟩) hn.1
  | x :: q, hn, i + 1, 0, k, hi, hj => by
    rw [List.nodup_cons] at hn
    simp at hi hj; subst hj
    exact absurd (List.mem_iff_getElem?.2 ⟨i, hi⟩) hn.1
  | x :: q, hn, i + 1, j + 1, k, hi, hj => by
    rw [List.nodup_cons] at hn
    rw [nodup_idx hn.2 (i := i) (j := j) (k := k) (by simpa using hi) (by simpa using hj)]
theorem reLs_get {q : List Nat} : ∀ {r : List (List SC)} {i : Nat} {cs : List SC}, (reLs q r)[i]? = some cs → ∃ cs0, r[i]? = some cs0 ∧ cs = reL q cs0
  | [], i, cs, h => by simp [reLs] at h
  | l :: r, 0, cs, h => by simp [reLs] at h; exact ⟨l, by simp, h.symm⟩
  | l :: r, i + 1, cs, h => by simp [reLs] at h; simpa using reLs_get h
theorem reLs_length {q : List Nat} : ∀ r : List (List SC), (reLs q r).length = r.length
  | [] => rfl
  | l :: r => by simp [reLs, reLs_length r]
theorem reLs_of {q : List Nat} {r : List (List SC)} {i : Nat} {cs : List SC} (h : r[i]? = some cs) : (reLs q r)[i]? = some (reL q cs) := by
  induction r generalizing i with
  | nil => simp at h
  | cons l r ih =>
    cases i with
    | zero => simp at h; subst h; simp [reLs]
    | succ i => simpa [reLs] using ih (by simpa using h)
theorem bndLs_get {n : Nat} : ∀ {r : List (List SC)} {i : Nat} {cs : List SC}, bndLs n r = true → r[i]? = some cs → bndL n 0 cs = true
  | [], i, cs, _, h => by simp at h
  | l :: r, 0, cs, hb, h => by simp only [bndLs, Bool.and_eq_true] at hb; simp at h; subst h; exact hb.1
  | l :: r, i + 1, cs, hb, h => by simp only [bndLs, Bool.and_eq_true] at hb; exact bndLs_get hb.2 (by simpa using h)

section
variable {P : Program} {Q : Exit → Act → World → Prop} {c : Nat → Nat → Row} {w0 : Base} {T : Tb}
theorem XOk.at {e : Env} {w : World} (bs : List Nat) (h : XOk ⟨[], c, []⟩ w0) (hw : KB w0 w) (hb : ∀ b ∈ bs, w0.w.heap.size ≤ b ∨ b ∈ w0.mo) : XOk ⟨[], c, []⟩ ⟨w, bs⟩ := by
  intro q i j hj
  obtain ⟨b, p, h1, h2, h3, vs, h4, h5⟩ := h q i j hj
  refine ⟨b, p, h1, Nat.lt_of_lt_of_le h2 hw.size, fun hm => ?_, vs, h4, fun t v ht => ?_⟩
  · rcases hb b hm with g | g
    · exact absurd h2 (by omega)
    · exact h3 g
  · have := h5 t v ht
    show w.cell? _ = _
    rw [hw.cell h2 h3]
    exact this
/-- A call that turns blocks of the caller. -/
theorem go_call_eff {f : Nat} {args : List SV} {dst : Option Nat} {k : List Item} {st : St} {v : Value} {argsC : List SV} {hs hs' : List (List SC)} (q : List Nat) (hC : EffC P f c argsC hs hs' v)
    (hf : ∀ (args : Array Value) (w : World), (callFunc f args).run P w = .ok (.enter f args) w) (ha : leT args (reV q argsC)) {hs0 : List (List SC)} (hh : getH st.h q = some hs0) (hle : leH (someL hs0) (someL (reLs q hs))) (hnt : noTup argsC = true) (hb1 : bndV (lenN q) 0 argsC = true) (hb2 : bndLs (lenN q) hs = true) (hn : q.Nodup)
    (hl : lenN hs' = lenN q) (hl2 : lenN hs = lenN q)
    (h : Goes P Q c w0 k (({ st with h := setH st.h q (reLs q hs') } : St).put dst (ofR v))) : OutOk P Q c w0 (.call f args dst k st) := ⟨fun e s a w hc F us hu => by
  obtain ⟨g1, g20⟩ := getH_spec hh
  have hsl : ∀ l : List (List SC), (someL l).length = l.length := by
    intro l; induction l with
    | nil => rfl
    | cons a l ih => simp [someL, ih]
  have hlen2 := (leH_get hle).1
  rw [hsl, hsl, reLs_length] at hlen2
  have g2 : ∀ (i k : Nat) (cs : List SC), q[i]? = some k → (reLs q hs)[i]? = some cs → ∃ cs0, st.h[k]? = some (some cs0) ∧ leCL cs0 cs := by
    intro i k cs hi hcs
    obtain ⟨cs0, h1, h2⟩ := (leH_get hle).2 i cs (someL_get hcs)
    have : hs0[i]? = some cs0 := by
      have h3 : ∀ (l : List (List SC)) (k : Nat), (someL l)[k]? = some (some cs0) → l[k]? = some cs0 := by
        intro l
        induction l with
        | nil => intro k h; simp [someL] at h
        | cons a l ih =>
          intro k h
          cases k with
          | zero => simp [someL] at h; simp [h]
          | succ k => simpa using ih k (by simpa [someL] using h)
      exact h3 hs0 i h1
    exact ⟨cs0, g20 i k cs0 hi this, h2⟩
  rw [lenN_eq] at hb1 hb2
  rw [lenN_eq, lenN_eq] at hl hl2
  have hlt : ∀ (i k : Nat), q[i]? = some k → k < e.rho.length := by
    intro i k hi
    have : i < (reLs q hs).length := by rw [reLs_length]; have := (List.getElem?_eq_some_iff.1 hi).1; omega
    obtain ⟨cs0, this, _⟩ := g2 i k _ hi (List.getElem?_eq_getElem this)
    rw [F.len]
    exact (List.getElem?_eq_some_iff.1 this).1
  have hS : Sub e q (q.map fun k => e.rho.getD k 0) := ⟨by simp, fun i k hi => ⟨e.rho.getD k 0, by have := hlt i k hi; simp [this], by simp [hi]⟩⟩
  have hbs : ∀ (i b : Nat), (q.map fun k => e.rho.getD k 0)[i]? = some b → ∃ k, q[i]? = some k ∧ e.rho[k]? = some b := by
    intro i b hi
    simp only [List.getElem?_map, Option.map_eq_some_iff] at hi
    obtain ⟨k, h1, h2⟩ := hi
    have := hlt i k h1
    exact ⟨k, h1, by rw [← h2]; simp [this]⟩
  have hbsm : ∀ b ∈ (q.map fun k => e.rho.getD k 0), w0.w.heap.size ≤ b ∨ b ∈ w0.mo := by
    intro b hb
    obtain ⟨i, hi⟩ := List.mem_iff_getElem?.1 hb
    obtain ⟨k, _, hk⟩ := hbs i b hi
    exact F.lo k b hk
  have hbsH : ∀ b ∈ (q.map fun k => e.rho.getD k 0), ∃ k, HasH e st k b := by
    intro b hb
    obtain ⟨i, hi⟩ := List.mem_iff_getElem?.1 hb
    obtain ⟨k, h1, h2⟩ := hbs i b hi
    have : i < (reLs q hs).length := by rw [reLs_length]; have := (List.getElem?_eq_some_iff.1 h1).1; omega
    obtain ⟨cs0, h3, _⟩ := g2 i k _ h1 (List.getElem?_eq_getElem this)
    exact ⟨k, cs0, h3, h2⟩
  have hx : XOk ⟨[], c, []⟩ ⟨w, q.map fun k => e.rho.getD k 0⟩ := by
    subst hc; exact F.ext.xok _ hbsH
  have hat : HsAt c w (q.map fun k => e.rho.getD k 0) hs := by
    intro i b cs hi hcs
    obtain ⟨k, h1, h2⟩ := hbs i b hi
    obtain ⟨cs0, this, hle0⟩ := g2 i k _ h1 (reLs_of hcs)
    obtain ⟨vs, t, h3, h4⟩ := F.cells k b _ h2 this
    refine ⟨F.hi k b h2, vs, t, h3, ?_⟩
    have := isL_in hS (bndLs_get hb2 hcs) (leCL_is hle0 h4)
    rw [hc] at this
    exact this
  have hargs : isV ⟨q.map fun k => e.rho.getD k 0, c, []⟩ argsC us := by
    have := isV_in hS hnt hb1 (leT_is ha hu)
    rw [hc] at this
    exact this
  refine ⟨hf _ _, (hC w _ us (by simp [hl2]) ?_ hat hx hargs).mono fun en w' ⟨he, hk, hat'⟩ => ⟨v, he, ?_⟩⟩
  · intro i j b hi hj
    obtain ⟨k, h1, h2⟩ := hbs i b hi
    obtain ⟨k', h1', h2'⟩ := hbs j b hj
    have := F.nd k k' b h2 h2'
    subst this
    exact nodup_idx hn h1 h1'
  · obtain ⟨s1, s2⟩ := setH_spec (q := q) (hs := reLs q hs') (h := st.h) (by rw [reLs_length]; omega) hn
    have hHq : ∀ k b, HasH e { st with h := setH st.h q (reLs q hs') } k b → HasH e st k b := by
      rintro k b ⟨cs, h1, h2⟩
      rcases s2 k cs h1 with ⟨i, h3, _⟩ | ⟨_, h3⟩
      · have : i < (reLs q hs).length := by rw [reLs_length]; have := (List.getElem?_eq_some_iff.1 h3).1; omega
        obtain ⟨cs0, h4, _⟩ := g2 i k _ h3 (List.getElem?_eq_getElem this)
        exact ⟨cs0, h4, h2⟩
      · exact ⟨cs, h3, h2⟩
    have F' : Fit e w0 { st with h := setH st.h q (reLs q hs') } a s w' := by
      refine ⟨F.fr, F.dfr, F.tm, ?_, F.lo, fun k b hb => Nat.lt_of_lt_of_le (F.hi k b hb) hk.size, F.nd, by simp only [s1]; exact F.len, ?_, F.ext.kept rfl hk.size (fun b hb _ hn _ => hk.block b hb fun hmem => (hbsH b hmem).elim fun k h => hn k h) (fun k b h => .inl (hHq k b h)) (fun q b h => .inl h), F.pre,
        F.rows.kept rfl rfl rfl hk.size (fun q' b hq => hk.block b (F.rows.hi q' b hq) fun hmem => (hbsH b hmem).elim fun k h => F.rows.no q' b hq k h) (fun k b h => .inl (hHq k b h))⟩
      · refine ⟨hk.os.trans F.blw.os, hk.tape.trans F.blw.tape, hk.output.trans F.blw.output, Nat.le_trans F.blw.size hk.size, fun j hj hm => ?_⟩
        rw [← F.blw.block j hj hm]
        refine hk.block j (Nat.lt_of_lt_of_le hj F.blw.size) (fun hmem => ?_)
        rcases hbsm j hmem with g | g
        · omega
        · exact hm g
      · intro k b cs hb hcs
        rcases s2 k cs hcs with ⟨i, h1, h2⟩ | ⟨h1, h2⟩
        · obtain ⟨cs0, h3, rfl⟩ := reLs_get h2
          obtain ⟨b', h4, h5⟩ := hS.at_ i k h1
          rw [hb] at h4; cases h4
          obtain ⟨_, vs, t, h6, h7⟩ := hat' i b cs0 h5 h3
          refine ⟨vs, t, h6, isL_out hS ?_⟩
          rw [hc]; exact h7
        · obtain ⟨vs, t, h3, h4⟩ := F.cells k b cs hb h2
          refine ⟨vs, t, ?_, h4⟩
          rw [← h3]
          refine hk.block b (F.hi k b hb) (fun hmem => ?_)
          obtain ⟨i, hi⟩ := List.mem_iff_getElem?.1 hmem
          obtain ⟨k', h5, h6⟩ := hbs i b hi
          have := F.nd k k' b hb h6
          subst this
          exact h1 (List.mem_iff_getElem?.2 ⟨i, h5⟩)
    exact h.run e s _ _ hc (F'.put (ofR_is e v))⟩
/-- The walk of such a callee. -/
theorem go_start_eff {f : Nat} {fn : Func} {body : Code} {args : List SV} {hs hs' : List (List SC)} {v : Value} (hf : P.funcs[f]? = some fn) (hb : fn.body = some body) {n : Nat} (hn : fn.ntmps - args.length = n)
    (h : ∀ w bs, bs.length = hs.length → Goes P (bodyPost P fn (fun e w' => e = .returned v ∧ KB ⟨w, bs⟩ w' ∧ HsAt c w' bs hs')) c ⟨w, bs⟩ [.code body] ⟨args ++ undefs n, someL hs, [], []⟩) : EffC P f c args hs hs' v := by
  intro w bs vals hlen hnd hat hX hi
  refine calls_of_wp hf hb ?_
  have hl := isV_length hi
  refine (h w bs hlen).run ⟨bs, c, []⟩ [] _ w rfl ⟨trivial, rfl, ?_, KB.refl _, ?_, ?_, ?_, ?_, ?_, XOk.ext hX rfl (fun k b ⟨cs, h1, h2⟩ => List.mem_iff_getElem?.2 ⟨k, h2⟩) (fun q b ⟨R, v, h1, h2, h3⟩ => by simp at h1), fun i b h => h, rows_none _ _ _ _ rfl rfl⟩
  · simp only [Array.toList_append, Array.toList_replicate, List.size_toArray]
    rw [← hl, hn]
    exact isV_append hi (undefs_is _ _)
  · intro k b hk; exact .inr (List.mem_iff_getElem?.2 ⟨k, hk⟩)
  · intro k b hk
    have hk : bs[k]? = some b := hk
    have hlt : k < hs.length := by have := (List.getElem?_eq_some_iff.1 hk).1; omega
    exact (hat k b _ hk (List.getElem?_eq_getElem hlt)).1
  · intro j k b hj hk; exact hnd j k b hj hk
  · have : ∀ l : List (List SC), (someL l).length = l.length := by
      intro l; induction l with
      | nil => rfl
      | cons a l ih => simp [someL, ih]
    simp [hlen, this]
  · intro k b cs hk hc
    have : ∀ (l : List (List SC)) (k : Nat), (someL l)[k]? = some (some cs) → l[k]? = some cs := by
      intro l
      induction l with
      | nil => intro k h; simp [someL] at h
      | cons a l ih =>
        intro k h
        cases k with
        | zero => simp [someL] at h; simp [h]
        | succ k => simpa using ih k (by simpa [someL] using h)
    exact (hat k b cs hk (this hs k hc)).2
/-- Its end. -/
theorem ret_eff (hT : TOk P T) {fn : Func} {bs : List Nat} {w : World} {hs' : List (List SC)} {v u : Value} {st : St} {x : SV} (hlen : bs.length = lenN hs') (h : resE T c st fn.results.toList = some x) (hv : toV c x = some u) (hu : u = v) (hh : leH st.h (someL hs')) (hb : bndLs (lenN hs') hs' = true) :
    ∀ (e : Env) (s : List Act) (a : Act) (w' : World), e.chi = c → Fit e ⟨w, bs⟩ st a s w' → a.defers = [] ∧ ∃ r, (results fn a.tmps).run P w' = .ok r w' ∧ (Ending.returned r = .returned v ∧ KB ⟨w, bs⟩ w' ∧ HsAt c w' bs hs') := by
  intro e s a w' hc F
  rw [← hc] at h
  obtain ⟨r, h1, h2⟩ := resE_is (P := P) hT F h
  rw [lenN_eq] at hlen hb
  refine ⟨F.dfr, r, h1, by rw [toV_is hc hv h2, hu], F.blw, fun i b cs hi hcs => ?_⟩
  have hr := F.pre i b hi
  obtain ⟨cs0, hk0, hle⟩ := (leH_get hh).2 i cs (someL_get hcs)
  obtain ⟨vs, t, h3, h40⟩ := F.cells i b cs0 hr hk0
  have h4 := leCL_is hle h40
  refine ⟨F.hi i b hr, vs, t, h3, ?_⟩
  have hcut : ∀ k b', bs[k]? = some b' → e.rho[k]? = some b' := fun k b' hk => F.pre k b' hk
  have hS : Sub e (List.range bs.length) bs := ⟨by simp, fun i k hi => by
    obtain ⟨hlt, rfl⟩ := List.getElem?_eq_some_iff.1 hi
    simp only [List.length_range] at hlt
    simp only [List.getElem_range]
    exact ⟨_, hcut i _ (List.getElem?_eq_getElem hlt), List.getElem?_eq_getElem hlt⟩⟩
  have hid : ∀ l : List SC, bndL bs.length 0 l = true → reL (List.range bs.length) l = l := by
    have hn : ∀ k, decide (k < bs.length) = true → nth (List.range bs.length) k = some k := by
      intro k hk
      simp only [decide_eq_true_eq] at hk
      rw [nth_eq]; simp [hk]
    have hp : ∀ l : List (Nat × Nat), bndP bs.length l = true → reP (List.range bs.length) l = l := by
      intro l
      induction l with
      | nil => intro _; rfl
      | cons p l ih =>
        intro hb
        obtain ⟨k, o⟩ := p
        simp only [bndP, Bool.and_eq_true] at hb
        simp only [reP, hn k hb.1, ih hb.2]
    intro l
    induction l with
    | nil => intro _; rfl
    | cons c l ih =>
      intro hb
      simp only [bndL, Bool.and_eq_true] at hb
      simp only [reL, ih hb.2]
      congr 1
      cases c <;> first | rfl | (simp only [SC.re, hn _ hb.1]) | (simp only [SC.re]; rw [hp _ hb.1])
  have h4' : isL e (reL (List.range bs.length) cs) vs.toList := by rw [hid cs (bndLs_get (by rw [hlen]; exact hb) hcs)]; exact h4
  have := isL_in hS (by rw [List.length_range]; exact bndLs_get (by rw [hlen]; exact hb) hcs) h4'
  rw [hc] at this
  exact this
theorem go_ret_eff (hT : TOk P T) {fn : Func} {bs : List Nat} {w : World} {hs' : List (List SC)} {v u : Value} {st : St} {x : SV} (hlen : bs.length = lenN hs') (h : resE T c st fn.results.toList = some x) (hv : toV c x = some u) (hu : u = v) (hh : leH st.h (someL hs')) (hb : bndLs (lenN hs') hs' = true) :
    OutOk P (bodyPost P fn (fun e w' => e = .returned v ∧ KB ⟨w, bs⟩ w' ∧ HsAt c w' bs hs')) c ⟨w, bs⟩ (.ret st) := ⟨fun e s a w' hc F => ret_eff hT hlen h hv hu hh hb e s a w' hc F⟩
theorem go_fin_eff (hT : TOk P T) {fn : Func} {bs : List Nat} {w : World} {hs' : List (List SC)} {v u : Value} {st : St} {x : SV} (hlen : bs.length = lenN hs') (h : resE T c st fn.results.toList = some x) (hv : toV c x = some u) (hu : u = v) (hh : leH st.h (someL hs')) (hb : bndLs (lenN hs') hs' = true) :
    OutOk P (bodyPost P fn (fun e w' => e = .returned v ∧ KB ⟨w, bs⟩ w' ∧ HsAt c w' bs hs')) c ⟨w, bs⟩ (.fin st) := ⟨fun e s a w' hc F => ret_eff hT hlen h hv hu hh hb e s a w' hc F⟩

/-! Negations; loops over a counter. -/
theorem go_brn {nt : Bool → Bool} (hnt : nt = not) {b : Bool} {kt kf : List Item} {s1 s2 : St} (h1 : b = false → Goes P Q c w0 kt s1) (h2 : b = true → Goes P Q c w0 kf s2) : OutOk P Q c w0 (.br (nt b) kt s1 kf s2) :=
  go_br (fun h => h1 (by rw [hnt] at h; simpa using h)) (fun h => h2 (by rw [hnt] at h; simpa using h))
theorem go_brl {cm : BinOp → Int → Int → Bool} (hcm : cm = rCm) {i n : Nat} {kt kf : List Item} {s1 s2 : St} (h1 : i < n → Goes P Q c w0 kt s1) (h2 : n ≤ i → Goes P Q c w0 kf s2) : OutOk P Q c w0 (.br (cm .lss (.ofNat i) (.ofNat n)) kt s1 kf s2) :=
  go_br (fun h => h1 (by rw [hcm] at h; simpa [rCm] using h)) (fun h => h2 (by rw [hcm] at h; simpa [rCm] using h))
theorem go_brnt {nt : Bool → Bool} (hnt : nt = not) {b : Bool} {kt kf : List Item} {s1 s2 : St} (hb : b = false) (h1 : Goes P Q c w0 kt s1) : OutOk P Q c w0 (.br (nt b) kt s1 kf s2) := go_brt (by rw [hnt, hb]; rfl) h1
theorem go_brnf {nt : Bool → Bool} (hnt : nt = not) {b : Bool} {kt kf : List Item} {s1 s2 : St} (hb : b = true) (h1 : Goes P Q c w0 kf s2) : OutOk P Q c w0 (.br (nt b) kt s1 kf s2) := go_brf (by rw [hnt, hb]; rfl) h1
def wipeL : List SV → List Nat → List SV
  | t, [] => t
  | t, i :: l => wipeL (setN t i undefS) l
def putsL : List SV → List (Nat × SV) → List SV
  | t, [] => t
  | t, (i, x) :: l => putsL (setN t i x) l
def putsH : List (Option (List SC)) → List (Nat × List SC) → List (Option (List SC))
  | h, [] => h
  | h, (i, x) :: l => putsH (setN h i (some x)) l
/-- A state with slots forgotten, slots and blocks laid anew. -/
def putsR : List (Option ORow) → List (Nat × ORow) → List (Option ORow)
  | r, [] => r
  | r, (i, x) :: l => putsR (setN r i (some x)) l
def St.lay (st : St) (ws : List Nat) (ups : List (Nat × SV)) (hups : List (Nat × List SC)) (rups : List (Nat × ORow)) : St := ⟨putsL (wipeL st.t ws) ups, putsH st.h hups, st.fr, putsR st.r rups⟩
theorem go_loopk {σ : Type} (ws : List Nat) (ups : σ → List (Nat × SV)) (hups : σ → List (Nat × List SC)) (rups : σ → List (Nat × ORow)) (μ : σ → Nat) (x0 : σ) {body : Code} {k : List Item} {st : St} (h0 : Le st (st.lay ws (ups x0) (hups x0) (rups x0))) (hb : (st.lay ws (ups x0) (hups x0) (rups x0)).bnd = true)
    (hm : w0.mo.length ≤ (st.lay ws (ups x0) (hups x0) (rups x0)).h.length)
    (hr : ∀ (x : σ) (m : Nat), m = μ x → Goes P Q c w0 (.code body :: .stop (LoopI c w0 (fun x => st.lay ws (ups x) (hups x) (rups x)) μ m) :: k) (st.lay ws (ups x) (hups x) (rups x))) : OutOk P Q c w0 (.loop body k st) := go_loop (fun x => st.lay ws (ups x) (hups x) (rups x)) μ x0 h0 hb hm fun x => hr x _ rfl
theorem bnd_mk {st : St} (h1 : bndV (lenN st.h) (lenN st.r) st.t = true) (h2 : bndH (lenN st.h) (lenN st.r) st.h = true) (h3 : bndF (lenN st.h) (lenN st.r) st.fr = true) : st.bnd = true := by simp [St.bnd, h1, h2, h3]
theorem le_mk {st st' : St} (h1 : leT st.t st'.t) (h2 : leH st.h st'.h) (h3 : leF st.fr st'.fr) (h4 : leR st.r st'.r) : Le st st' := ⟨h1, h2, h3, h4⟩
theorem wrap_nat {ar : BinOp → IntKind → Int → Int → Int} (har : ar = rAr) (i : Nat) (h : i ≤ 9223372036854775806) : ar .add .i64 (.ofNat i) 1 = .ofNat (i + 1) := by
  rw [har]
  show IntKind.i64.wrap ((i : Int) + 1) = ((i + 1 : Nat) : Int)
  rw [Go.IntWalk.i64_in _ (by omega)]
  omega
theorem lss_nat {cm : BinOp → Int → Int → Bool} (hcm : cm = rCm) (i n : Nat) : cm .lss (.ofNat i) (.ofNat n) = decide (i < n) := by
  rw [hcm]
  show decide ((i : Int) < (n : Int)) = _
  simp
end

end Go.Proofs.Ytbimggeapaaliaa
