/- Arguments opened: accesses, loans, bools. No condition. -/
import Derived.Test.YtgoeinkmndicfaaN7
import Derived.Test.YtgoeinkmndicfaaClB
namespace Go.Proofs.Ytgoeinkmndicfaa
open Go.ChangeShapes Go.WideShapes Go.Deep
set_option linter.unusedVariables false
set_option linter.unusedSimpArgs false
set_option maxRecDepth 100000

section
variable {H : Type} {enc : TypeId × Value → H} {W : World} {base b0 : Nat} {spare : Nat → Bool} {held : Bool} {r : Reach} {v : Value} {d : DataW H} {p : List MemPlace}
theorem open_bool (h : DataW.Trod enc Try.prog W base spare held 4 v d p) (hv : Value.okWide Try.prog W r b0 4 v) : ∃ b : Bool, v = .bool b := by
  exact okWide_bool Try.underlying4 hv
theorem open_place (h : DataW.Trod enc Try.prog W base spare held 27 v d p) (hv : Value.okWide Try.prog W r b0 27 v) :
    ∃ (l : Int) (x : Bool) (f : Int), v = .agg #[.int .i64 l, .bool x, .int .u8 f] ∧ -9223372036854775808 ≤ l ∧ l ≤ 9223372036854775807 ∧ 0 ≤ f ∧ f ≤ 255 := by
  obtain ⟨cs, rfl, _⟩ := okWide_struct Try.underlying27 hv
  obtain ⟨fuel, hf⟩ := h
  have hk := flat_is 5 _ [.i .i64, .b, .i .u8] fuel _ _ (by kernel_rfl) hf
  obtain ⟨v0, r0, e0, ⟨n0, rfl, w0⟩, h0⟩ := kIs_cons hk
  obtain ⟨v1, r1, rfl, ⟨n1, rfl⟩, h1⟩ := kIs_cons h0
  obtain ⟨v2, r2, rfl, ⟨n2, rfl, w2⟩, h2⟩ := kIs_cons h1
  obtain rfl := kIs_nil h2
  have b0 := bounds_i64 w0
  have b2 := bounds_u8 w2
  refine ⟨n0, n1, n2, ?_, b0.1, b0.2, b2.1, b2.2⟩
  have e0 : cs.toList = _ := e0
  cases cs
  simp only at e0
  rw [e0]
theorem open_touch (h : DataW.Trod enc Try.prog W base spare held 29 v d p) (hv : Value.okWide Try.prog W r b0 29 v) : ∃ t : GTouch, v = t.val ∧ 0 ≤ t.p.f := by
  obtain ⟨cs, rfl, _⟩ := okWide_struct Try.underlying29 hv
  obtain ⟨fuel, hf⟩ := h
  have hk := flat_is 5 _ [.i .i64, .b, .i .u8, .b, .b] fuel _ _ (by kernel_rfl) hf
  obtain ⟨v0, r0, e0, ⟨n0, rfl, w0⟩, h0⟩ := kIs_cons hk
  obtain ⟨v1, r1, rfl, ⟨n1, rfl⟩, h1⟩ := kIs_cons h0
  obtain ⟨v2, r2, rfl, ⟨n2, rfl, w2⟩, h2⟩ := kIs_cons h1
  obtain ⟨v3, r3, rfl, ⟨n3, rfl⟩, h3⟩ := kIs_cons h2
  obtain ⟨v4, r4, rfl, ⟨n4, rfl⟩, h4⟩ := kIs_cons h3
  obtain rfl := kIs_nil h4
  have b2 := bounds_u8 w2
  refine ⟨⟨⟨n0, n1, n2⟩, n3, n4⟩, ?_, b2.1⟩
  have e0 : cs.toList = _ := e0
  cases cs
  simp only at e0
  rw [e0]; rfl
theorem open_loan (h : DataW.Trod enc Try.prog W base spare held 31 v d p) (hv : Value.okWide Try.prog W r b0 31 v) : ∃ t : GLoan, v = t.val ∧ 0 ≤ t.p.f ∧ 0 ≤ t.bo := by
  obtain ⟨cs, rfl, _⟩ := okWide_struct Try.underlying31 hv
  obtain ⟨fuel, hf⟩ := h
  have hk := flat_is 5 _ [.i .i64, .i .i64, .b, .i .u8, .i .u8, .i .i64] fuel _ _ (by kernel_rfl) hf
  obtain ⟨v0, r0, e0, ⟨n0, rfl, w0⟩, h0⟩ := kIs_cons hk
  obtain ⟨v1, r1, rfl, ⟨n1, rfl, w1⟩, h1⟩ := kIs_cons h0
  obtain ⟨v2, r2, rfl, ⟨n2, rfl⟩, h2⟩ := kIs_cons h1
  obtain ⟨v3, r3, rfl, ⟨n3, rfl, w3⟩, h3⟩ := kIs_cons h2
  obtain ⟨v4, r4, rfl, ⟨n4, rfl, w4⟩, h4⟩ := kIs_cons h3
  obtain ⟨v5, r5, rfl, ⟨n5, rfl, w5⟩, h5⟩ := kIs_cons h4
  obtain rfl := kIs_nil h5
  have b3 := bounds_u8 w3
  have b4 := bounds_u8 w4
  refine ⟨⟨n0, ⟨n1, n2, n3⟩, n4, n5⟩, ?_, b3.1, b4.1⟩
  have e0 : cs.toList = _ := e0
  cases cs
  simp only at e0
  rw [e0]; rfl
theorem open_byte (h : DataW.Trod enc Try.prog W base spare held 5 v d p) (hv : Value.okWide Try.prog W r b0 5 v) : ∃ n : Int, v = .int .u8 n ∧ 0 ≤ n ∧ n ≤ 255 := by
  obtain ⟨n, rfl, rfl, rfl, wn⟩ := open_int Try.underlying5 hv h
  have h1 := bounds_u8 wn
  exact ⟨n, rfl, h1.1, h1.2⟩
end

end Go.Proofs.Ytgoeinkmndicfaa
