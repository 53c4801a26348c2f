/- Arguments opened: lists of sets, lists of constraints, a constraint. The lemma 'open_slice_fields' is the guide's own (extra-structs). No condition. -/
import Derived.Test.YtcdbaoejakcemaaLift
import Derived.Test.YtcdbaoejakcemaaSolveD
import Derived.Deep.Slices
import Derived.Deep.Fields
import Derived.Deep.Grids
import Derived.ChangeSame
namespace Go.Proofs.Ytcdbaoejakcemaa
open Go.ChangeShapes Go.WideShapes Go.Deep

section
variable {H : Type} {enc : TypeId × Value → H} {P : Program} {w : World} {base : Nat} {spare : Nat → Bool} {held : Bool}
theorem open_slice_fields {t e : TypeId} {fs : Array Field} {fuel : Nat} {cs : List Value} {x : DataW H × List MemPlace} (ht : P.underlying t = some (.slice e)) (he : P.underlying e = some (.struct fs))
    (hone : oneCellFields P fs = true) (hC : P.cellsOf e = fs.size) (h : DataW.trod enc P w base spare held fuel t cs = some x) :
    (cs = [.slice none 0 0] ∧ x = (.nil, [])) ∨
    ∃ (a : Addr) (len cap m : Nat) (D : Nat → DataW H) (Pl : Nat → List MemPlace), cs = [.slice (some a) len cap] ∧ base ≤ a.block ∧ len ≤ cap ∧ cap ≤ maxLen ∧ m = (if spare a.block then cap else len) ∧
      x = (.slice ((List.range len).map D) ((List.range (m - len)).map fun j => D (len + j)), MemPlace.row a (m * fs.size) ++ (List.range m).flatMap Pl) ∧
      ∀ i, i < m → ∃ (ys : List (DataW H × List MemPlace)) (n : Nat), D i = .agg (ys.map (·.1)) ∧ Pl i = ys.flatMap (·.2) ∧ ys.length = fs.size ∧
        ∀ (j : Nat) (f : Field), fs[j]? = some f → ∃ (v : Value) (y : DataW H × List MemPlace), w.cell? (a.add (i * fs.size + j)) = some v ∧ ys[j]? = some y ∧ DataW.trod enc P w base spare held n f.type [v] = some y := by
  rcases open_slice ht h with h0 | ⟨a, len, cap, m, n, D, Pl, hcs, hb, hl, hm, hmm, hx, hi⟩
  · exact .inl h0
  · refine .inr ⟨a, len, cap, m, D, Pl, hcs, hb, hl, hm, hmm, by rw [hC] at hx; exact hx, fun i him => ?_⟩
    obtain ⟨cs', hc, ht'⟩ := hi i him
    rw [hC] at hc
    obtain ⟨ys, n', hn', hy, hlen, hyl, hf⟩ := DataW.trod_struct he ht'
    obtain ⟨_, hcl, hat⟩ := World.cells?_some hc
    simp only [Prod.mk.injEq] at hy
    refine ⟨ys, n', hy.1, hy.2, hyl, fun j f hj => ?_⟩
    obtain ⟨ho, hk⟩ := hone_of hone j f hj
    have hjl : j < fs.size := (Array.getElem?_eq_some_iff.1 hj).1
    have hcell := hat j hjl
    have hv : cs'[j]? = some (cs'[j]'(by omega)) := List.getElem?_eq_getElem (by omega)
    have h1 := hf j f hj
    rw [ho, hk] at h1
    have hone' : (cs'.drop j).take 1 = [cs'[j]'(by omega)] := by
      rw [List.drop_eq_getElem_cons (by omega)]
      rfl
    rw [hone'] at h1
    have hys : ys[j]? = some (ys[j]'(by omega)) := List.getElem?_eq_getElem (by omega)
    refine ⟨_, _, ?_, hys, h1.trans hys⟩
    rw [← Go.Deep.add_add, hcell, hv]
end

section
variable {H : Type} {enc : TypeId × Value → H}
theorem open_sets {W : World} {base b0 : Nat} {r : Reach} {v : Value} {d : DataW H} {p : List MemPlace} {held : Bool}
    (h : DataW.Trod enc Try.prog W base (fun _ => true) held 22 v d p) (hv : Value.okWide Try.prog W r b0 22 v) :
    ∃ (A : Option Addr) (n c : Nat) (L : Nat → Nat) (S : Nat → Nat → Bool), v = .slice A n c ∧ n ≤ maxLen ∧ Sets W A n L S := by
  obtain ⟨a0, len0, cap0, rfl⟩ := okWide_slice Try.underlying22 hv
  obtain ⟨fuel, hf⟩ := h
  rcases open_bool_rows Try.underlying22 Try.underlying40 Try.underlying4 (by kernel_rfl) (by kernel_rfl) hf with ⟨hcs, _⟩ | ⟨a, len, cap, R, L, C, X, hcs, _, hl, hm, _, hi⟩
  · simp [Value.cells] at hcs
    obtain ⟨rfl, rfl, rfl⟩ := hcs
    exact ⟨none, 0, 0, fun _ => 0, fun _ _ => false, rfl, by decide, Sets.of_none⟩
  · simp [Value.cells] at hcs
    obtain ⟨rfl, rfl, rfl⟩ := hcs
    refine ⟨some a, len0, cap0, L, X, rfl, by omega, fun hn => ?_⟩
    obtain ⟨h0, _⟩ := hi 0 (by omega)
    obtain ⟨blk, off, spot⟩ := a
    have hspot : spot = none := by simpa [Addr.add] using World.cell?_spot h0
    subst hspot
    have hblk : blk < W.heap.size := by simpa [Addr.add] using World.block_lt_of_cell? W _ h0
    refine ⟨blk, off, rfl, hblk, fun i hil => ?_⟩
    obtain ⟨h1, h2, h3, h4, h5⟩ := hi i (by omega)
    rw [add_plain] at h1
    refine ⟨R i, C i, h1, by omega, fun hp => ?_⟩
    cases hR : R i with
    | none => have := h4 hR; omega
    | some a' =>
      obtain ⟨_, h6⟩ := h5 a' hR
      have h7 := h6 0 (by omega)
      obtain ⟨blk', off', spot'⟩ := a'
      have hspot : spot' = none := by simpa [Addr.add] using World.cell?_spot h7
      subst hspot
      have hblk' : blk' < W.heap.size := by simpa [Addr.add] using World.block_lt_of_cell? W _ h7
      refine ⟨blk', off', rfl, hblk', fun j hj => ?_⟩
      have h8 := h6 j (by omega)
      rw [add_plain] at h8
      exact h8

theorem open_cons {W : World} {base b0 : Nat} {spare : Nat → Bool} {held : Bool} {r : Reach} {v : Value} {d : DataW H} {p : List MemPlace}
    (h : DataW.Trod enc Try.prog W base spare held 23 v d p) (hv : Value.okWide Try.prog W r b0 23 v) :
    ∃ (A : Option Addr) (n cap : Nat) (F T N Y : Nat → Int), v = .slice A n cap ∧ n ≤ maxLen ∧ Cons W A n F T N Y := by
  obtain ⟨a0, len0, cap0, rfl⟩ := okWide_slice Try.underlying23 hv
  obtain ⟨fuel, hf⟩ := h
  rcases open_slice_fields Try.underlying23 Try.underlying42 (by kernel_rfl) (by kernel_rfl) hf with ⟨hcs, _⟩ | ⟨a, len, cap, m, D, Pl, hcs, _, hl, hm, hmm, _, hi⟩
  · simp [Value.cells] at hcs
    obtain ⟨rfl, rfl, rfl⟩ := hcs
    exact ⟨none, 0, 0, fun _ => 0, fun _ => 0, fun _ => 0, fun _ => 0, rfl, by decide, Cons.of_none⟩
  · simp [Value.cells] at hcs
    obtain ⟨rfl, rfl, rfl⟩ := hcs
    have hlm : len0 ≤ m := by rw [hmm]; split <;> omega
    have cellAt : ∀ i, i < len0 → ∃ x : Int × Int × Int × Int, W.cell? (a.add (i * 4)) = some (.int .i64 x.1) ∧ W.cell? (a.add (i * 4 + 1)) = some (.int .i64 x.2.1) ∧ W.cell? (a.add (i * 4 + 2)) = some (.int .i64 x.2.2.1) ∧ W.cell? (a.add (i * 4 + 3)) = some (.int .u8 x.2.2.2) := by
      intro i hil
      obtain ⟨ys, n, _, _, _, hj⟩ := hi i (by omega)
      obtain ⟨v0, y0, hc0, _, ht0⟩ := hj 0 _ rfl
      obtain ⟨v1, y1, hc1, _, ht1⟩ := hj 1 _ rfl
      obtain ⟨v2, y2, hc2, _, ht2⟩ := hj 2 _ rfl
      obtain ⟨v3, y3, hc3, _, ht3⟩ := hj 3 _ rfl
      obtain ⟨k0, e0, _, _⟩ := DataW.trod_int Try.underlying3 ht0
      obtain ⟨k1, e1, _, _⟩ := DataW.trod_int Try.underlying3 ht1
      obtain ⟨k2, e2, _, _⟩ := DataW.trod_int Try.underlying3 ht2
      obtain ⟨k3, e3, _, _⟩ := DataW.trod_int Try.underlying5 ht3
      simp at e0 e1 e2 e3
      subst e0 e1 e2 e3
      exact ⟨(k0, k1, k2, k3), hc0, hc1, hc2, hc3⟩
    refine ⟨some a, len0, cap0, fun i => if h : i < len0 then (cellAt i h).choose.1 else 0, fun i => if h : i < len0 then (cellAt i h).choose.2.1 else 0, fun i => if h : i < len0 then (cellAt i h).choose.2.2.1 else 0, fun i => if h : i < len0 then (cellAt i h).choose.2.2.2 else 0, rfl, by omega, ?_⟩
    intro h0
    obtain ⟨b, off, spot⟩ := a
    have hspot : spot = none := by
      obtain ⟨x, h1, _⟩ := cellAt 0 h0
      simpa [Addr.add] using World.cell?_spot h1
    subst hspot
    have hblk : b < W.heap.size := by
      obtain ⟨x, h1, _⟩ := cellAt 0 h0
      simpa [Addr.add] using World.block_lt_of_cell? W _ h1
    refine ⟨b, off, rfl, hblk, fun i hi' => ?_⟩
    simp only [dif_pos hi']
    have hs := (cellAt i hi').choose_spec
    have q : ∀ k, (⟨b, off + i * 4 + k, none⟩ : Addr) = (⟨b, off, none⟩ : Addr).add (i * 4 + k) := fun k => by rw [add_plain, Nat.add_assoc]
    exact ⟨(congrArg W.cell? (q 0)).trans hs.1, (congrArg W.cell? (q 1)).trans hs.2.1, (congrArg W.cell? (q 2)).trans hs.2.2.1, (congrArg W.cell? (q 3)).trans hs.2.2.2⟩

theorem open_con {W : World} {base b0 : Nat} {spare : Nat → Bool} {held : Bool} {r : Reach} {v : Value} {d : DataW H} {p : List MemPlace}
    (h : DataW.Trod enc Try.prog W base spare held 42 v d p) (hv : Value.okWide Try.prog W r b0 42 v) :
    ∃ f t n y : Int, v = .agg #[.int .i64 f, .int .i64 t, .int .i64 n, .int .u8 y] := by
  obtain ⟨c0, c1, c2, c3, y0, y1, y2, y3, m, rfl, rfl, rfl, hy0, hy1, hy2, hy3⟩ := Go.Joins.open_agg4 Try.underlying42 (by kernel_rfl) (by kernel_rfl) hv h
  obtain ⟨f, e0, _, _⟩ := DataW.trod_int Try.underlying3 hy0
  obtain ⟨t, e1, _, _⟩ := DataW.trod_int Try.underlying3 hy1
  obtain ⟨n, e2, _, _⟩ := DataW.trod_int Try.underlying3 hy2
  obtain ⟨y, e3, _, _⟩ := DataW.trod_int Try.underlying5 hy3
  simp at e0 e1 e2 e3
  subst e0 e1 e2 e3
  exact ⟨f, t, n, y, rfl⟩
end

end Go.Proofs.Ytcdbaoejakcemaa
