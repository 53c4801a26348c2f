/- Layer 20: the plain law of the work list. No condition. -/
import Derived.Test.YtcdbaoejakcemaaSolveM
namespace Go.Proofs.Ytcdbaoejakcemaa
open Go.RowKit

def upto {α : Type} (i : Nat) (f : Nat → α) (d : α) (j : Nat) : α := if j < i then f j else d
theorem upto_set {α : Type} {i : Nat} {f : Nat → α} {d : α} (j : Nat) : setAt (upto i f d) i (f i) j = upto (i + 1) f d j := by
  unfold upto
  by_cases e : j = i
  · subst e; rw [setAt_at, if_pos (by omega)]
  · rw [setAt_ne e]
    by_cases h : j < i
    · rw [if_pos h, if_pos (by omega)]
    · rw [if_neg h, if_neg (by omega)]
theorem upto_lt {α : Type} {i j : Nat} {f : Nat → α} {d : α} (h : j < i) : upto i f d j = f j := if_pos h

/-- All truth values of n sets. -/
def tot (X : Nat → Nat → Bool) (m : Nat) : Nat → Nat
  | 0 => 0
  | n + 1 => tot X m n + cnt (X n) m
theorem tot_le (X : Nat → Nat → Bool) (m n : Nat) : tot X m n ≤ n * m := by
  induction n with
  | zero => simp [tot]
  | succ n ih =>
    have := cnt_le (X n) m
    rw [tot, Nat.succ_mul]
    omega
theorem tot_congr {X X' : Nat → Nat → Bool} {m n : Nat} (h : ∀ a, a < n → ∀ j, j < m → X a j = X' a j) : tot X m n = tot X' m n := by
  induction n with
  | zero => rfl
  | succ n ih => rw [tot, tot, ih fun a ha => h a (by omega), cnt_congr (h n (by omega))]
theorem tot_lt {X X' : Nat → Nat → Bool} {m n k : Nat} (hk : k < n) (h : ∀ a, a < n → a ≠ k → ∀ j, j < m → X a j = X' a j) (hc : cnt (X k) m < cnt (X' k) m) : tot X m n < tot X' m n := by
  induction n with
  | zero => omega
  | succ n ih =>
    rw [tot, tot]
    by_cases e : k = n
    · subst e
      have : tot X m k = tot X' m k := tot_congr fun a ha => h a (by omega) (by omega)
      omega
    · have := ih (by omega) fun a ha hne => h a (by omega) hne
      have h2 := cnt_congr (h n (by omega) (fun q => e q.symm))
      omega
theorem cnt_lt {X Y : Nat → Bool} {m : Nat} (h : ∀ j, j < m → X j = true → Y j = true) {j : Nat} (hj : j < m) (h1 : X j = false) (h2 : Y j = true) : cnt X m < cnt Y m := by
  have hs := cnt_set (X := X) (Y := upd X j true) hj h1 upd_at (fun k hk => upd_ne hk)
  have hm : cnt (upd X j true) m ≤ cnt Y m := cnt_mono fun k hk hx => by
    by_cases e : k = j
    · subst e; exact h2
    · rw [upd_ne e] at hx; exact h k hk hx
  omega

/-- The From's of the first k constraints whose To is t. -/
def frl (F T : Nat → Int) (t : Nat) : Nat → List Nat
  | 0 => []
  | k + 1 => if (T k).toNat = t then frl F T t k ++ [(F k).toNat] else frl F T t k
theorem frl_mem {F T : Nat → Int} {t k c : Nat} (hc : c < k) (h : (T c).toNat = t) : (F c).toNat ∈ frl F T t k := by
  induction k with
  | zero => omega
  | succ k ih =>
    rw [frl]
    by_cases e : c = k
    · subst e; rw [if_pos h]; simp
    · have := ih (by omega)
      split
      · simp [this]
      · exact this
theorem frl_of {F T : Nat → Int} {t k f : Nat} (h : f ∈ frl F T t k) : ∃ c, c < k ∧ (T c).toNat = t ∧ (F c).toNat = f := by
  induction k with
  | zero => simp [frl] at h
  | succ k ih =>
    rw [frl] at h
    split at h
    · rename_i ht
      rcases List.mem_append.1 h with h | h
      · obtain ⟨c, hc, h1, h2⟩ := ih h
        exact ⟨c, by omega, h1, h2⟩
      · simp at h
        exact ⟨k, by omega, ht, h.symm⟩
    · obtain ⟨c, hc, h1, h2⟩ := ih h
      exact ⟨c, by omega, h1, h2⟩
theorem frl_len (F T : Nat → Int) (t k : Nat) : (frl F T t k).length ≤ k := by
  induction k with
  | zero => simp [frl]
  | succ k ih =>
    rw [frl]
    split
    · simp; omega
    · omega

/-- Every constraint holds, or what is behind it waits. -/
def Waits (n m nl : Nat) (F T : Nat → Int) (X : Nat → Nat → Bool) (t : Nat) (fs ws : List Nat) : Prop :=
  ∀ c, c < nl → (T c).toNat ∈ ws ∨ ((T c).toNat = t ∧ (F c).toNat ∈ fs) ∨ ∀ j, j < m → X (T c).toNat j = true → X (F c).toNat j = true
def Found (n m nl : Nat) (F T : Nat → Int) (S X : Nat → Nat → Bool) : Prop :=
  (∀ k, k < n → ∀ j, j < m → S k j = true → X k j = true) ∧ ∀ k, k < n → ∀ j, j < m → X k j = true → ∃ i, i < n ∧ Leads nl F T i k ∧ S i j = true

section
variable {n m nl : Nat} {F T : Nat → Int} {S X : Nat → Nat → Bool} {t f : Nat} {fs ws : List Nat}
theorem Waits.begin_ (h : Waits n m nl F T X t [] (t :: ws)) : Waits n m nl F T X t (frl F T t nl) ws := by
  intro c hc
  rcases h c hc with h1 | ⟨_, h1⟩ | h1
  · rcases List.mem_cons.1 h1 with h2 | h2
    · exact .inr (.inl ⟨h2, by exact frl_mem hc h2⟩)
    · exact .inl h2
  · simp at h1
  · exact .inr (.inr h1)
theorem Waits.other (h : Waits n m nl F T X t [] ws) (t' : Nat) : Waits n m nl F T X t' [] ws := by
  intro c hc
  rcases h c hc with h1 | ⟨_, h1⟩ | h1
  · exact .inl h1
  · simp at h1
  · exact .inr (.inr h1)
theorem Waits.self (h : Waits n m nl F T X t (t :: fs) ws) : Waits n m nl F T X t fs ws := by
  intro c hc
  rcases h c hc with h1 | ⟨h1, h2⟩ | h1
  · exact .inl h1
  · rcases List.mem_cons.1 h2 with h3 | h3
    · exact .inr (.inr fun j _ hx => by rw [h3]; rw [h1] at hx; exact hx)
    · exact .inr (.inl ⟨h1, h3⟩)
  · exact .inr (.inr h1)
def joined (X : Nat → Nat → Bool) (f t : Nat) : Nat → Nat → Bool := setAt X f (fun j => X f j || X t j)
theorem joined_mono {k j : Nat} (h : X k j = true) : joined X f t k j = true := by
  unfold joined
  by_cases e : k = f
  · subst e; rw [setAt_at]; simp [h]
  · rw [setAt_ne e]; exact h
theorem Waits.more (h : Waits n m nl F T X t (f :: fs) ws) (hne : f ≠ t) : Waits n m nl F T (joined X f t) t fs (ws ++ [f]) := by
  intro c hc
  rcases h c hc with h1 | ⟨h1, h2⟩ | h1
  · exact .inl (by simp [h1])
  · rcases List.mem_cons.1 h2 with h3 | h3
    · refine .inr (.inr fun j _ hx => ?_)
      unfold joined at hx ⊢
      rw [h1, setAt_ne (fun q => hne q.symm)] at hx
      rw [h3, setAt_at]
      simp [hx]
    · exact .inr (.inl ⟨h1, h3⟩)
  · by_cases e : (T c).toNat = f
    · exact .inl (by simp [e])
    · refine .inr (.inr fun j hj hx => joined_mono (h1 j hj ?_))
      unfold joined at hx
      rw [setAt_ne e] at hx
      exact hx
theorem Waits.still (h : Waits n m nl F T X t (f :: fs) ws) (hne : f ≠ t) (hs : ¬ ∃ j, j < m ∧ X t j = true ∧ X f j = false) : Waits n m nl F T (joined X f t) t fs ws := by
  have same : ∀ j, j < m → joined X f t f j = X f j := by
    intro j hj
    unfold joined
    rw [setAt_at]
    cases hx : X f j with
    | true => simp
    | false =>
      cases ht : X t j with
      | false => rfl
      | true => exact absurd ⟨j, hj, ht, hx⟩ hs
  intro c hc
  rcases h c hc with h1 | ⟨h1, h2⟩ | h1
  · exact .inl h1
  · rcases List.mem_cons.1 h2 with h3 | h3
    · refine .inr (.inr fun j _ hx => ?_)
      unfold joined at hx ⊢
      rw [h1, setAt_ne (fun q => hne q.symm)] at hx
      rw [h3, setAt_at]
      simp [hx]
    · exact .inr (.inl ⟨h1, h3⟩)
  · refine .inr (.inr fun j hj hx => joined_mono (h1 j hj ?_))
    by_cases e : (T c).toNat = f
    · rw [e] at hx ⊢
      rw [same j hj] at hx
      exact hx
    · unfold joined at hx
      rw [setAt_ne e] at hx
      exact hx
theorem Found.join (h : Found n m nl F T S X) {c : Nat} (hc : c < nl) (hf : Fit n nl F T) (ht : (T c).toNat = t) (hff : (F c).toNat = f) : Found n m nl F T S (joined X f t) := by
  refine ⟨fun k hk j hj hs => joined_mono (h.1 k hk j hj hs), fun k hk j hj hx => ?_⟩
  unfold joined at hx
  by_cases e : k = f
  · rw [e, setAt_at] at hx
    rw [Bool.or_eq_true] at hx
    rcases hx with hx | hx
    · rw [e]; exact h.2 f (by omega) j hj hx
    · have hb := hf c hc
      obtain ⟨i, hi, h1, h2⟩ := h.2 t (by omega) j hj hx
      refine ⟨i, hi, ?_, h2⟩
      rw [e, ← hff]
      exact .step c hc h1 (by omega)
  · rw [setAt_ne e] at hx
    exact h.2 k hk j hj hx
theorem Found.sol (h : Found n m nl F T S X) (hw : Waits n m nl F T X t [] []) : IsSol n m nl F T S X := by
  refine IsSol.mk h.1 (fun c hc j hj hx => ?_) h.2
  rcases hw c hc with h1 | ⟨_, h1⟩ | h1
  · simp at h1
  · simp at h1
  · exact h1 j hj hx
theorem Found.start : Found n m nl F T S S := ⟨fun _ _ _ _ h => h, fun k hk j _ h => ⟨k, hk, .refl _, h⟩⟩
theorem Waits.start (hf : Fit n nl F T) (t : Nat) : Waits n m nl F T S t [] (List.range n) := by
  intro c hc
  have := hf c hc
  exact .inl (by simp; omega)
theorem joined_tot {k : Nat} (hk : f < n) (h : ∃ j, j < m ∧ X t j = true ∧ X f j = false) : tot X m n < tot (joined X f t) m n := by
  obtain ⟨j, hj, h1, h2⟩ := h
  refine tot_lt hk (fun a _ hne b _ => by unfold joined; rw [setAt_ne hne]) ?_
  refine cnt_lt (fun b _ hx => joined_mono hx) hj h2 ?_
  unfold joined
  rw [setAt_at]
  simp [h1]
theorem joined_same (h : ¬ ∃ j, j < m ∧ X t j = true ∧ X f j = false) : ∀ a, a < n → ∀ j, j < m → X a j = joined X f t a j := by
  intro a _ j hj
  unfold joined
  by_cases e : a = f
  · subst e
    rw [setAt_at]
    cases hx : X a j with
    | true => simp
    | false =>
      cases ht : X t j with
      | false => rfl
      | true => exact absurd ⟨j, hj, ht, hx⟩ h
  · rw [setAt_ne e]
end

/-- The cells of a list of numbers. -/
def il (l : List Nat) : List Value := l.map fun (f : Nat) => Value.int .i64 ((f : Nat) : Int)
theorem il_len (l : List Nat) : (il l).length = l.length := by simp [il]
theorem il_get {l : List Nat} {k : Nat} (h : k < l.length) : (il l)[k]? = some (.int .i64 (l[k] : Int)) := by simp [il, h]
theorem il_snoc (l : List Nat) (a : Nat) : il l ++ [.int .i64 (a : Int)] = il (l ++ [a]) := by simp [il]
theorem int_info : (Try.prog.info? 3).map (fun i => (i.zero, i.size, i.bytes)) = some (some (.int .i64 0), 1, 8) := by kernel_rfl
theorem ints_info : (Try.prog.info? 47).map (fun i => (i.zero, i.size, i.bytes)) = some (some (.slice none 0 0), 1, 24) := by kernel_rfl
theorem slice_int_ne : 47 ≠ 3 := by decide

theorem Own2.made {w : World} {B : Nat} {E e : TypeId} (n : Nat) (hB : B ≤ w.heap.size) (hn : n ≤ maxLen) (hne : E ≠ e) :
    Own2 (w.alloc (.cells (madeCells #[.slice none 0 0] n) E)) B E e (.slice (some ⟨w.heap.size, 0, none⟩) n n) n (fun _ => .slice none 0 0) (fun _ => 0) (fun _ => []) := by
  have h := World.ownsRow_lit (base := B) (e := E) (size := 1) w (madeCells #[.slice none 0 0] n) n hB hn (by rw [size_madeCells]; omega)
  rw [toList_madeCells_one] at h
  refine ⟨?_, fun i _ => World.ownsRow_nil _ _ _ _, fun i j _ _ _ => .inl rfl, hne⟩
  have e : (List.range n).map (fun _ => Value.slice none 0 0) = List.replicate n (Value.slice none 0 0) := by
    refine List.ext_getElem? fun j => ?_
    by_cases hj : j < n
    · simp [hj]
    · rw [List.getElem?_eq_none (by simp; omega), List.getElem?_eq_none (by simp; omega)]
  rw [e]
  exact h
theorem make_sets {P : Program} (hP : P = Try.prog) (n : Nat) (hn : n ≤ 1000000) (w : World) :
    (Instr.makeSlice 22 (.int .i64 (n : Int)) (.int .i64 (n : Int))).run P w = .ok (.slice (some ⟨w.heap.size, 0, none⟩) n n) (w.alloc (.cells (madeCells #[.slice none 0 0] n) 40)) := by
  subst hP
  exact run_make_row' 22 40 (.slice none 0 0) 24 Try.underlying22 slice_info rfl .i64 .i64 n (by omega) (by omega) w
theorem make_intss {P : Program} (hP : P = Try.prog) (n : Nat) (hn : n ≤ 1000000) (w : World) :
    (Instr.makeSlice 46 (.int .i64 (n : Int)) (.int .i64 (n : Int))).run P w = .ok (.slice (some ⟨w.heap.size, 0, none⟩) n n) (w.alloc (.cells (madeCells #[.slice none 0 0] n) 47)) := by
  subst hP
  exact run_make_row' 46 47 (.slice none 0 0) 24 Try.underlying46 ints_info rfl .i64 .i64 n (by omega) (by omega) w

end Go.Proofs.Ytcdbaoejakcemaa
