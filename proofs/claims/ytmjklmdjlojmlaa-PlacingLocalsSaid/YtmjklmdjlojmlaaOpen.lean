/- Arguments opened: places, slices of types. The lemma 'open_slice_fields' is the guide's own (extra-structs). No condition. -/
import Derived.Test.YtmjklmdjlojmlaaLift
import Derived.Test.YtmjklmdjlojmlaaPlaceA
import Derived.Deep.Slices
import Derived.Deep.Fields
import Derived.ChangeSame
namespace Go.Proofs.Ytmjklmdjlojmlaa
open Go.ChangeShapes Go.WideShapes Go.Deep

section
variable {H : Type} {enc : TypeId × Value → H} {P : Program} {w : World} {base : Nat} {spare : Nat → Bool} {held : Bool}
theorem open_slice_fields {t e : TypeId} {fs : Array Field} {fuel : Nat} {cs : List Value} {x : DataW H × List MemPlace} (ht : P.underlying t = some (.slice e)) (he : P.underlying e = some (.struct fs))
    (hone : oneCellFields P fs = true) (hC : P.cellsOf e = fs.size) (h : DataW.trod enc P w base spare held fuel t cs = some x) :
    (cs = [.slice none 0 0] ∧ x = (.nil, [])) ∨
    ∃ (a : Addr) (len cap m : Nat) (D : Nat → DataW H) (Pl : Nat → List MemPlace), cs = [.slice (some a) len cap] ∧ base ≤ a.block ∧ len ≤ cap ∧ cap ≤ maxLen ∧ m = (if spare a.block then cap else len) ∧
      x = (.slice ((List.range len).map D) ((List.range (m - len)).map fun j => D (len + j)), MemPlace.row a (m * fs.size) ++ (List.range m).flatMap Pl) ∧
      ∀ i, i < m → ∃ (ys : List (DataW H × List MemPlace)) (n : Nat), D i = .agg (ys.map (·.1)) ∧ Pl i = ys.flatMap (·.2) ∧ ys.length = fs.size ∧
        ∀ (j : Nat) (f : Field), fs[j]? = some f → ∃ (v : Value) (y : DataW H × List MemPlace), w.cell? (a.add (i * fs.size + j)) = some v ∧ ys[j]? = some y ∧ DataW.trod enc P w base spare held n f.type [v] = some y := by
  rcases open_slice ht h with h0 | ⟨a, len, cap, m, n, D, Pl, hcs, hb, hl, hm, hmm, hx, hi⟩
  · exact .inl h0
  · refine .inr ⟨a, len, cap, m, D, Pl, hcs, hb, hl, hm, hmm, by rw [hC] at hx; exact hx, fun i him => ?_⟩
    obtain ⟨cs', hc, ht'⟩ := hi i him
    rw [hC] at hc
    obtain ⟨ys, n', hn', hy, hlen, hyl, hf⟩ := DataW.trod_struct he ht'
    obtain ⟨_, hcl, hat⟩ := World.cells?_some hc
    simp only [Prod.mk.injEq] at hy
    refine ⟨ys, n', hy.1, hy.2, hyl, fun j f hj => ?_⟩
    obtain ⟨ho, hk⟩ := hone_of hone j f hj
    have hjl : j < fs.size := (Array.getElem?_eq_some_iff.1 hj).1
    have hcell := hat j hjl
    have hv : cs'[j]? = some (cs'[j]'(by omega)) := List.getElem?_eq_getElem (by omega)
    have h1 := hf j f hj
    rw [ho, hk] at h1
    have hone' : (cs'.drop j).take 1 = [cs'[j]'(by omega)] := by
      rw [List.drop_eq_getElem_cons (by omega)]
      rfl
    rw [hone'] at h1
    have hys : ys[j]? = some (ys[j]'(by omega)) := List.getElem?_eq_getElem (by omega)
    refine ⟨_, _, ?_, hys, h1.trans hys⟩
    rw [← Go.Deep.add_add, hcell, hv]
end

section
variable {H : Type} {enc : TypeId × Value → H}
theorem open_place {W : World} {base b0 : Nat} {spare : Nat → Bool} {held : Bool} {r : Reach} {v : Value} {d : DataW H} {p : List MemPlace}
    (h : DataW.Trod enc Try.prog W base spare held 24 v d p) (hv : Value.okWide Try.prog W r b0 24 v) :
    ∃ (l : Int) (x : Bool) (f : Int), v = .agg #[.int .i64 l, .bool x, .int .u8 f] ∧ -9223372036854775808 ≤ l ∧ l ≤ 9223372036854775807 ∧ 0 ≤ f ∧ f ≤ 255 := by
  obtain ⟨c0, c1, c2, y0, y1, y2, m, rfl, rfl, rfl, hy0, hy1, hy2⟩ := Go.Joins.open_agg3 Try.underlying24 (by kernel_rfl) (by kernel_rfl) hv h
  obtain ⟨l, e0, _, wl⟩ := DataW.trod_int Try.underlying3 hy0
  obtain ⟨x, e1, _⟩ := DataW.trod_bool Try.underlying4 hy1
  obtain ⟨f, e2, _, wf⟩ := DataW.trod_int Try.underlying5 hy2
  simp at e0 e1 e2
  subst e0 e1 e2
  have h1 := bounds_i64 wl
  have h2 := bounds_u8 wf
  exact ⟨l, x, f, rfl, h1.1, h1.2, h2.1, h2.2⟩

theorem open_types {W : World} {base b0 : Nat} {spare : Nat → Bool} {held : Bool} {r : Reach} {v : Value} {d : DataW H} {p : List MemPlace}
    (h : DataW.Trod enc Try.prog W base spare held 22 v d p) (hv : Value.okWide Try.prog W r b0 22 v) :
    ∃ (A : Option Addr) (n cap : Nat) (K T : Nat → Int), v = .slice A n cap ∧ n ≤ maxLen ∧ n ≤ cap ∧ cap ≤ maxLen ∧ Types W A n K T := by
  obtain ⟨a0, len0, cap0, rfl⟩ := okWide_slice Try.underlying22 hv
  obtain ⟨fuel, hf⟩ := h
  rcases open_slice_fields Try.underlying22 Try.underlying27 (by kernel_rfl) (by kernel_rfl) hf with ⟨hcs, _⟩ | ⟨a, len, cap, m, D, Pl, hcs, _, hl, hm, hmm, _, hi⟩
  · simp [Value.cells] at hcs
    obtain ⟨rfl, rfl, rfl⟩ := hcs
    exact ⟨none, 0, 0, fun _ => 0, fun _ => 0, rfl, by decide, by decide, by decide, fun h0 => absurd h0 (by omega)⟩
  · simp [Value.cells] at hcs
    obtain ⟨rfl, rfl, rfl⟩ := hcs
    have hlm : len0 ≤ m := by rw [hmm]; split <;> omega
    have cellAt : ∀ i, i < len0 → ∃ k t : Int, W.cell? (a.add (i * 2)) = some (.int .u8 k) ∧ W.cell? (a.add (i * 2 + 1)) = some (.int .u8 t) ∧ 0 ≤ k ∧ k ≤ 255 ∧ 0 ≤ t ∧ t ≤ 255 := by
      intro i hil
      obtain ⟨ys, n, _, _, _, hj⟩ := hi i (by omega)
      obtain ⟨v0, y0, hc0, _, ht0⟩ := hj 0 _ rfl
      obtain ⟨v1, y1, hc1, _, ht1⟩ := hj 1 _ rfl
      obtain ⟨k, e0, _, wk⟩ := DataW.trod_int Try.underlying5 ht0
      obtain ⟨t, e1, _, wt⟩ := DataW.trod_int Try.underlying5 ht1
      simp at e0 e1
      subst e0 e1
      have h1 := bounds_u8 wk
      have h2 := bounds_u8 wt
      exact ⟨k, t, hc0, hc1, h1.1, h1.2, h2.1, h2.2⟩
    refine ⟨some a, len0, cap0, fun i => if h : i < len0 then (cellAt i h).choose else 0, fun i => if h : i < len0 then (cellAt i h).choose_spec.choose else 0, rfl, by omega, hl, hm, ?_⟩
    intro h0
    obtain ⟨b, off, spot⟩ := a
    have hspot : spot = none := by
      obtain ⟨k, t, h1, _⟩ := cellAt 0 h0
      simpa [Addr.add] using World.cell?_spot h1
    subst hspot
    have hblk : b < W.heap.size := by
      obtain ⟨k, t, h1, _⟩ := cellAt 0 h0
      simpa [Addr.add] using World.block_lt_of_cell? W _ h1
    refine ⟨b, off, rfl, hblk, fun i hi' => ?_⟩
    simp only [dif_pos hi']
    have hs := (cellAt i hi').choose_spec.choose_spec
    exact ⟨(congrArg W.cell? (add_plain b off (i * 2)).symm).trans hs.1, (congrArg W.cell? (show (⟨b, off + i * 2 + 1, none⟩ : Addr) = (⟨b, off, none⟩ : Addr).add (i * 2 + 1) from (add_plain b off (i * 2 + 1)).symm)).trans hs.2.1, hs.2.2⟩
end

end Go.Proofs.Ytmjklmdjlojmlaa
