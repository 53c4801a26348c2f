/- Sweeping: sets of points that grow along edges, swept until nothing comes. No condition. -/
import Derived.Test.YtbljhhkjjlgnmaaInA
namespace Go.Proofs.Ytbljhhkjjlgnmaa
open Go.RowKit
set_option linter.unusedVariables false
set_option linter.unusedSimpArgs false

structure SwG where
  N : Nat
  sc : Nat → List Nat
  fire : Nat → Bool → Bool
  i0 : Nat → Bool
namespace SwG
variable (G : SwG)
def Z (n : Nat) : Prop := (n < G.N ∧ G.i0 n = true) ∨ ∃ m, m < G.N ∧ G.fire m false = true ∧ n ∈ G.sc m
def R (m n : Nat) : Prop := m < G.N ∧ G.fire m true = true ∧ n ∈ G.sc m
noncomputable def sB (n : Nat) : Bool := clB G.Z G.R n
abbrev SS := (Nat → Bool) × Bool
def put (x : SS) (q : Nat) : SS := (fun j => if j = q then true else x.1 j, x.2 || !x.1 q)
def part (x : SS) (n k : Nat) : SS := ((G.sc n).take k).foldl put x
def node (x : SS) (n : Nat) : SS := if G.fire n (x.1 n) = true then (G.sc n).foldl put x else x
def sweep (S : Nat → Bool) : Nat → SS
  | 0 => (S, false)
  | n + 1 => node G (sweep S n) n
theorem part_zero (x : SS) (n : Nat) : part G x n 0 = x := by simp [part]
theorem part_succ {x : SS} {n k : Nat} (hk : k < (G.sc n).length) : part G x n (k + 1) = put (part G x n k) ((G.sc n).getD k 0) := by
  unfold part
  rw [List.take_add_one, List.foldl_append]
  simp only [List.getElem?_eq_getElem hk, Option.toList_some, List.foldl_cons, List.foldl_nil, List.getD, Option.getD_some]
theorem part_end (x : SS) (n : Nat) : part G x n (G.sc n).length = (G.sc n).foldl put x := by simp [part]
structure PutOk (N : Nat) (L : List Nat) (x y : SS) : Prop where
  up : ∀ j, x.1 j = true → y.1 j = true
  all : ∀ q ∈ L, y.1 q = true
  old : ∀ j, y.1 j = true → x.1 j = true ∨ j ∈ L
  mo : x.2 = true → y.2 = true
  no : y.2 = false → (∀ j, y.1 j = x.1 j)
  le : unmet y.1 N ≤ unmet x.1 N
  lt : (∀ q ∈ L, q < N) → y.2 = true → x.2 = true ∨ unmet y.1 N < unmet x.1 N
theorem unmet_mono {S T : Nat → Bool} (h : ∀ j, S j = true → T j = true) : ∀ m, unmet T m ≤ unmet S m
  | 0 => Nat.le_refl _
  | m + 1 => by
    have := unmet_mono h m
    simp only [unmet]
    by_cases g : S m = true
    · rw [if_pos g, if_pos (h m g)]; omega
    · rw [if_neg g]; split <;> omega
theorem put_one (N : Nat) (x : SS) (q : Nat) : PutOk N [q] x (put x q) := by
  have hup : ∀ j, x.1 j = true → (put x q).1 j = true := fun j h => by simp only [put]; split; rfl; exact h
  refine ⟨hup, fun j hj => ?_, fun j h => ?_, fun h => by simp [put, h], fun h j => ?_, unmet_mono hup N, fun hN h => ?_⟩
  · obtain rfl := List.mem_singleton.1 hj
    simp [put]
  · simp only [put] at h
    split at h
    · rename_i e; exact .inr (by simp [e])
    · exact .inl h
  · simp only [put, Bool.or_eq_false_iff, Bool.not_eq_false'] at h ⊢
    split
    · rename_i e; rw [e, h.2]
    · rfl
  · simp only [put, Bool.or_eq_true, Bool.not_eq_true'] at h
    rcases h with h | h
    · exact .inl h
    · have := unmet_up (S := x.1) (n := q) h N
      rw [if_pos (hN q (by simp))] at this
      refine .inr ?_
      simp only [put]; omega
theorem PutOk.trans {N : Nat} {L L' : List Nat} {x y z : SS} (h1 : PutOk N L x y) (h2 : PutOk N L' y z) : PutOk N (L ++ L') x z := by
  refine ⟨fun j h => h2.up j (h1.up j h), fun q hq => ?_, fun j h => ?_, fun h => h2.mo (h1.mo h), fun h j => ?_, Nat.le_trans h2.le h1.le, fun hN h => ?_⟩
  · rcases List.mem_append.1 hq with hq | hq
    · exact h2.up q (h1.all q hq)
    · exact h2.all q hq
  · rcases h2.old j h with h | h
    · rcases h1.old j h with h | h
      · exact .inl h
      · exact .inr (List.mem_append_left _ h)
    · exact .inr (List.mem_append_right _ h)
  · have hy : y.2 = false := by
      cases hy : y.2
      · rfl
      · rw [h2.mo hy] at h; cases h
    exact (h2.no h j).trans (h1.no hy j)
  · have l1 := h1.le
    have l2 := h2.le
    rcases h2.lt (fun q hq => hN q (List.mem_append_right _ hq)) h with h | h
    · rcases h1.lt (fun q hq => hN q (List.mem_append_left _ hq)) h with h | h
      · exact .inl h
      · exact .inr (by omega)
    · exact .inr (by omega)
theorem PutOk.nil (N : Nat) (x : SS) : PutOk N [] x x := ⟨fun _ h => h, fun _ h => by simp at h, fun _ h => .inl h, fun h => h, fun _ _ => rfl, Nat.le_refl _, fun _ h => .inl h⟩
theorem put_all (N : Nat) : ∀ (L : List Nat) (x : SS), PutOk N L x (L.foldl put x)
  | [], x => .nil N x
  | q :: L, x => by
    rw [List.foldl_cons, show q :: L = [q] ++ L from rfl]
    exact (put_one N x q).trans (put_all N L _)
theorem part_up (x : SS) (n k : Nat) {j : Nat} (h : x.1 j = true) : (part G x n k).1 j = true := (put_all G.N _ x).up j h
structure Inv (S : Nat → Bool) : Prop where
  z : ∀ n, n < G.N → G.i0 n = true → S n = true
  s : ∀ n, n < G.N → S n = true → Cl G.Z G.R n
/-- Nothing more comes. -/
def Shut (S : Nat → Bool) : Prop := ∀ m, m < G.N → G.fire m (S m) = true → ∀ q ∈ G.sc m, S q = true
variable {G}
structure SwpOk (S : Nat → Bool) (n : Nat) : Prop where
  inv : Inv G (sweep G S n).1
  up : ∀ j, S j = true → (sweep G S n).1 j = true
  no : (sweep G S n).2 = false → (∀ j, (sweep G S n).1 j = S j) ∧ ∀ m, m < n → G.fire m (S m) = true → ∀ q ∈ G.sc m, S q = true
  le : unmet (sweep G S n).1 G.N ≤ unmet S G.N
  lt : (sweep G S n).2 = true → unmet (sweep G S n).1 G.N < unmet S G.N
theorem sweep_ok (hf : ∀ m, G.fire m false = true → G.fire m true = true) (hl : ∀ m, m < G.N → ∀ q ∈ G.sc m, q < G.N) {S : Nat → Bool} (h : Inv G S) : ∀ n, n ≤ G.N → SwpOk (G := G) S n
  | 0, _ => ⟨h, fun _ h => h, fun _ => ⟨fun _ => rfl, fun m hm => by omega⟩, Nat.le_refl _, fun h => by simp [sweep] at h⟩
  | n + 1, hn => by
    have ih := sweep_ok hf hl h n (by omega)
    have e : sweep G S (n + 1) = node G (sweep G S n) n := rfl
    by_cases g : G.fire n ((sweep G S n).1 n) = true
    · have e2 : sweep G S (n + 1) = (G.sc n).foldl put (sweep G S n) := by rw [e]; unfold node; rw [if_pos g]
      have hp := put_all G.N (G.sc n) (sweep G S n)
      rw [← e2] at hp
      have l1 := hp.le
      have l2 := ih.le
      refine ⟨⟨fun j hj h0 => hp.up j (ih.inv.z j hj h0), fun j hj hs => ?_⟩, fun j hj => hp.up j (ih.up j hj), fun h2 => ?_, by omega, fun h2 => ?_⟩
      · rcases hp.old j hs with g1 | g1
        · exact ih.inv.s j hj g1
        · cases hb : (sweep G S n).1 n
          · rw [hb] at g; exact .zero (.inr ⟨n, by omega, g, g1⟩)
          · rw [hb] at g; exact .step (ih.inv.s n (by omega) hb) ⟨by omega, g, g1⟩
      · have h3 : (sweep G S n).2 = false := by
          cases hy : (sweep G S n).2
          · rfl
          · rw [hp.mo hy] at h2; cases h2
        obtain ⟨g1, g2⟩ := ih.no h3
        have g3 := hp.no h2
        refine ⟨fun j => (g3 j).trans (g1 j), fun m hm hfi q hq => ?_⟩
        rcases Nat.lt_or_eq_of_le (Nat.le_of_lt_succ hm) with hm | rfl
        · exact g2 m hm hfi q hq
        · have := hp.all q hq
          rw [g3, g1] at this; exact this
      · rcases hp.lt (hl n (by omega)) h2 with g1 | g1
        · have := ih.lt g1; omega
        · omega
    · have e2 : sweep G S (n + 1) = sweep G S n := by rw [e]; unfold node; rw [if_neg g]
      refine ⟨by rw [e2]; exact ih.inv, fun j hj => by rw [e2]; exact ih.up j hj, fun h2 => ?_, by rw [e2]; exact ih.le, fun h2 => by rw [e2] at h2 ⊢; exact ih.lt h2⟩
      rw [e2] at h2 ⊢
      refine ⟨(ih.no h2).1, fun m hm hfi q hq => ?_⟩
      rcases Nat.lt_or_eq_of_le (Nat.le_of_lt_succ hm) with hm | rfl
      · exact (ih.no h2).2 m hm hfi q hq
      · rw [(ih.no h2).1] at g; exact absurd hfi g
theorem shut_eq (hl : ∀ m, m < G.N → ∀ q ∈ G.sc m, q < G.N) {S : Nat → Bool} (hf : ∀ m, G.fire m false = true → G.fire m true = true) (h : Inv G S) (hs : Shut G S) {n : Nat} (hn : n < G.N) : S n = G.sB n := by
  refine cl_eqN (N := G.N) (fun n hz => ?_) (fun m n hr => hl m hr.1 n hr.2.2) h.s (fun n hn hz => ?_) (fun m n hm hn hS hr => hs m hm (by rw [hS]; exact hr.2.1) n hr.2.2) hn
  · rcases hz with hz | ⟨m, h1, _, h2⟩
    · exact hz.1
    · exact hl m h1 n h2
  · rcases hz with hz | ⟨m, h1, h2, h3⟩
    · exact h.z n hn hz.2
    · refine hs m h1 ?_ n h3
      cases hb : S m
      · exact h2
      · exact hf m h2
/-- What is known at the head of a round: the set, and whether there was more. -/
def Head (G : SwG) (x : SS) : Prop := Inv G x.1 ∧ (x.2 = false → Shut G x.1)
def mu (G : SwG) (x : SS) : Nat := if x.2 = true then unmet x.1 G.N + 1 else 0
theorem head_step (hf : ∀ m, G.fire m false = true → G.fire m true = true) (hl : ∀ m, m < G.N → ∀ q ∈ G.sc m, q < G.N) {x : SS} (h : Head G x) (hx : x.2 = true) : Head G (sweep G x.1 G.N) ∧ mu G (sweep G x.1 G.N) < mu G x := by
  have o := sweep_ok hf hl h.1 G.N (Nat.le_refl _)
  refine ⟨⟨o.inv, fun h2 => ?_⟩, ?_⟩
  · obtain ⟨g1, g2⟩ := o.no h2
    intro m hm hfi q hq
    rw [g1] at hfi ⊢
    exact g2 m hm hfi q hq
  · unfold mu
    rw [if_pos hx]
    split
    · rename_i g; have := o.lt g; omega
    · omega
theorem head_end (hf : ∀ m, G.fire m false = true → G.fire m true = true) (hl : ∀ m, m < G.N → ∀ q ∈ G.sc m, q < G.N) {x : SS} (h : Head G x) (hx : x.2 = false) {n : Nat} (hn : n < G.N) : x.1 n = G.sB n := shut_eq hl hf h.1 (h.2 hx) hn
theorem head_first (S : Nat → Bool) (hS : ∀ n, n < G.N → S n = G.i0 n) : Head G (S, true) := ⟨⟨fun n hn h => (hS n hn).trans h, fun n hn h => .zero (.inl ⟨hn, (hS n hn).symm.trans h⟩)⟩, fun h => by cases h⟩
end SwG

end Go.Proofs.Ytbljhhkjjlgnmaa
