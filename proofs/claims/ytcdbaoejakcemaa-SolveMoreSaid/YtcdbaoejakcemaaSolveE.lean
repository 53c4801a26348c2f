/- Layer 20, the reference: what bases and constraints are asked for; Great. No condition. -/
import Derived.Test.YtcdbaoejakcemaaSolveD
namespace Go.Proofs.Ytcdbaoejakcemaa
open Go.RowKit

def muchP (n nl i : Nat) (L : Nat → Nat) : Prop := 592 < n ∨ 1152 < nl ∨ ∃ j, j < i ∧ 600 < L j
theorem muchP_succ {n nl i : Nat} {L : Nat → Nat} : muchP n nl (i + 1) L ↔ muchP n nl i L ∨ 600 < L i := by
  unfold muchP
  constructor
  · rintro (h | h | ⟨j, hj, h⟩)
    · exact .inl (.inl h)
    · exact .inl (.inr (.inl h))
    · rcases Nat.lt_or_eq_of_le (Nat.le_of_lt_succ hj) with h' | rfl
      · exact .inl (.inr (.inr ⟨j, h', h⟩))
      · exact .inr h
  · rintro ((h | h | ⟨j, hj, h⟩) | h)
    · exact .inl h
    · exact .inr (.inl h)
    · exact .inr (.inr ⟨j, by omega, h⟩)
    · exact .inr (.inr ⟨i, by omega, h⟩)
def sameP (i : Nat) (L : Nat → Nat) : Prop := ∀ j, j < i → L j = L 0
theorem sameP_succ {i : Nat} {L : Nat → Nat} : sameP (i + 1) L ↔ sameP i L ∧ L i = L 0 := by
  unfold sameP
  constructor
  · intro h; exact ⟨fun j hj => h j (by omega), h i (by omega)⟩
  · rintro ⟨h, h'⟩ j hj
    rcases Nat.lt_or_eq_of_le (Nat.le_of_lt_succ hj) with h1 | rfl
    · exact h j h1
    · exact h'
def inP (n : Nat) (f t : Int) : Prop := 0 ≤ f ∧ f < n ∧ 0 ≤ t ∧ t < n
def fitP (n m i : Nat) (L : Nat → Nat) (F T : Nat → Int) : Prop := sameP m L ∧ ∀ j, j < i → inP n (F j) (T j)
theorem fitP_succ {n m i : Nat} {L : Nat → Nat} {F T : Nat → Int} : fitP n m (i + 1) L F T ↔ fitP n m i L F T ∧ inP n (F i) (T i) := by
  unfold fitP
  constructor
  · rintro ⟨h0, h⟩; exact ⟨⟨h0, fun j hj => h j (by omega)⟩, h i (by omega)⟩
  · rintro ⟨⟨h0, h⟩, h'⟩
    refine ⟨h0, fun j hj => ?_⟩
    rcases Nat.lt_or_eq_of_le (Nat.le_of_lt_succ hj) with h1 | rfl
    · exact h j h1
    · exact h'

/-- A truth value of a statement. -/
def Tells (b : Bool) (p : Prop) : Prop := b = true ↔ p
theorem Tells.of_true {p : Prop} (h : p) : Tells true p := by simp [Tells, h]
theorem Tells.of_false {p : Prop} (h : ¬ p) : Tells false p := by simp [Tells, h]

set_option maxHeartbeats 4000000 in
theorem asked_any (A A' : Option Addr) (n nl c c' : Nat) (L : Nat → Nat) (S : Nat → Nat → Bool) (F T N Y : Nat → Int) (w : World) (hn : n ≤ maxLen) (hl : nl ≤ maxLen) (hX : Sets w A n L S) (hY : Cons w A' nl F T N Y) :
    Calls Try.prog 15 #[.slice A n c, .slice A' nl c'] w (Ret w (.int .i64 (askV n nl L F T))) := by
  unfold maxLen at hn hl
  obtain ⟨m0, hm0, hq0⟩ : ∃ m : Bool, Tells m (muchP n nl 0 L) ∧ (decide (592 < (n : Int)) = true ∧ m = true ∨ decide (592 < (n : Int)) = false ∧ decide (1152 < (nl : Int)) = m) := by
    by_cases h1 : 592 < n
    · exact ⟨true, .of_true (.inl h1), .inl ⟨by simp; omega, rfl⟩⟩
    · by_cases h2 : 1152 < nl
      · exact ⟨true, .of_true (.inr (.inl h2)), .inr ⟨by simp; omega, by simp; omega⟩⟩
      · exact ⟨false, .of_false (by rintro (h | h | ⟨j, hj, _⟩) <;> omega), .inr ⟨by simp; omega, by simp; omega⟩⟩
  have HX := Lib.hid hX
  have HY := Lib.hid hY
  have Hm0 := Lib.hid hm0
  clear hX hY hm0
  rcases hq0 with ⟨q0, rfl⟩ | ⟨q0, q1⟩
  all_goals
    go_enter Try.func15, Try.ntmps15
    go_wp2
    go_loopw [5, 6, 7] (fun u v t wr => ∃ (i : Nat) (m f : Bool), i ≤ n ∧ u = .bool m ∧ v = .bool f ∧ t = .int .i64 i ∧ Tells m (muchP n nl i L) ∧ Tells f (sameP i L) ∧ Below w.heap.size w wr) (fun _ _ v _ => n - (intOf v).toNat)
    case atStart => exact ⟨0, _, true, by omega, rfl, rfl, rfl, Hm0.out, .of_true (fun j hj => by omega), Below.refl _ _⟩
    case round =>
      obtain ⟨i, m, f, hi, rfl, rfl, rfl, hm, hf, hB⟩ := hrel
      have hz := hB.size
      by_cases hlt : i < n
      · have hdi : decide ((i : Int) < n) = true := by simp; omega
        have hd0 : 0 < n := by omega
        obtain ⟨b, off, rfl, hb, hc⟩ := HX.out (by omega)
        obtain ⟨R, C, e0, hl0, hX0⟩ := hc i hlt
        obtain ⟨R1, C1, e1, hl1, hX1⟩ := hc 0 hd0
        have c0 := (hB.cell (p := ⟨b, _, none⟩) hb).trans e0
        have d0 := Later.cell ((hB.cell (p := ⟨b, _, none⟩) hb).trans e0) (by omega)
        have d1 := Later.cell ((hB.cell (p := ⟨b, _, none⟩) hb).trans e1) (by omega)
        simp only [Nat.add_zero] at d1
        clear hc HX e0 hX0 e1 hX1
        obtain ⟨m1, hm1, hqm⟩ : ∃ m1 : Bool, Tells m1 (muchP n nl (i + 1) L) ∧ (m = true ∧ m1 = true ∨ m = false ∧ decide (600 < (L i : Int)) = m1) := by
          cases m
          · refine ⟨decide (600 < (L i : Int)), ?_, .inr ⟨rfl, rfl⟩⟩
            unfold Tells at hm ⊢
            rw [muchP_succ, ← hm]
            simp; omega
          · refine ⟨true, ?_, .inl ⟨rfl, rfl⟩⟩
            unfold Tells at hm ⊢
            rw [muchP_succ, ← hm]
            simp
        obtain ⟨f1, hf1, hqf⟩ : ∃ f1 : Bool, Tells f1 (sameP (i + 1) L) ∧ (f = false ∧ f1 = false ∨ f = true ∧ ((L i : Int) == L 0) = f1) := by
          cases f
          · refine ⟨false, ?_, .inl ⟨rfl, rfl⟩⟩
            unfold Tells at hf ⊢
            rw [sameP_succ, ← hf]
            simp
          · refine ⟨((L i : Int) == L 0), ?_, .inr ⟨rfl, rfl⟩⟩
            unfold Tells at hf ⊢
            rw [sameP_succ, ← hf]
            simp; omega
        have Hm1 := Lib.hid hm1
        have Hf1 := Lib.hid hf1
        clear hm hf hm1 hf1
        rcases hqm with ⟨rfl, rfl⟩ | ⟨rfl, q5⟩ <;> rcases hqf with ⟨rfl, rfl⟩ | ⟨rfl, q6⟩
        all_goals
          go_wp2
          refine wp_region_later (by kernel_rfl) (by kernel_rfl) ?_
          repeat go_big_quiet_step (fail)
          refine wpQuiet_nil ?_
          rintro _ ⟨x, rfl⟩
          go_wp2
          go_roundw
          case rel => exact ⟨i + 1, _, _, by omega, rfl, rfl, by go_num, Hm1.out, Hf1.out, hB.trans (x.below.mono hB.size)⟩
          case measure => simp [intOf]; omega
      · have : i = n := by omega
        subst this
        have hdi : decide ((i : Int) < i) = false := by simp
        clear hlt
        cases m
        · have Hm := Lib.hid (show ¬ muchP i nl i L from by unfold Tells at hm; rw [← hm]; simp)
          have Hf := Lib.hid hf
          clear hm hf HX
          obtain ⟨wo, ho⟩ : ∃ wo : World, wo = wr := ⟨_, rfl⟩
          subst ho
          go_wp2
          go_loopw [6, 8] (fun v t wr => ∃ (k : Nat) (g : Bool), k ≤ nl ∧ v = .bool g ∧ t = .int .i64 k ∧ Tells g (fitP i i k L F T) ∧ Below w.heap.size w wr) (fun _ v _ => nl - (intOf v).toNat)
          case atStart => exact ⟨0, _, by omega, rfl, rfl, by have := Hf.out; unfold Tells at this ⊢; rw [this, fitP]; simp, hB⟩
          case round =>
            obtain ⟨k, g, hk, rfl, rfl, hg, hB⟩ := hrel
            have hz := hB.size
            by_cases hlt : k < nl
            · have hdi : decide ((k : Int) < nl) = true := by simp; omega
              obtain ⟨b, off, rfl, hb, hc⟩ := HY.out (by omega)
              obtain ⟨e0, e1, e2, e3⟩ := hc k hlt
              have c0 := (hB.cell (p := ⟨b, _, none⟩) hb).trans e0
              have c1 := (hB.cell (p := ⟨b, _, none⟩) hb).trans e1
              clear hc HY e0 e1 e2 e3
              obtain ⟨p, hp, hqp⟩ : ∃ p : Bool, Tells p (fitP i i (k + 1) L F T) ∧ (g = false ∧ p = false ∨ g = true ∧ (decide (0 ≤ F k) = false ∧ p = false ∨ decide (0 ≤ F k) = true ∧ (decide (0 ≤ T k) = false ∧ p = false ∨ decide (0 ≤ T k) = true ∧ (decide (F k < i) = false ∧ p = false ∨ decide (F k < i) = true ∧ decide (T k < i) = p)))) := by
                unfold Tells at hg
                refine ⟨g && (decide (0 ≤ F k) && (decide (0 ≤ T k) && (decide (F k < i) && decide (T k < i)))), ?_, ?_⟩
                · unfold Tells
                  rw [fitP_succ, ← hg, inP]
                  simp
                  intro _
                  omega
                · cases g
                  · exact .inl ⟨rfl, rfl⟩
                  · refine .inr ⟨rfl, ?_⟩
                    cases decide (0 ≤ F k)
                    · exact .inl ⟨rfl, rfl⟩
                    · refine .inr ⟨rfl, ?_⟩
                      cases decide (0 ≤ T k)
                      · exact .inl ⟨rfl, rfl⟩
                      · refine .inr ⟨rfl, ?_⟩
                        cases decide (F k < i)
                        · exact .inl ⟨rfl, rfl⟩
                        · exact .inr ⟨rfl, rfl⟩
              have Hp := Lib.hid hp
              clear hp hg
              rcases hqp with ⟨rfl, rfl⟩ | ⟨rfl, ⟨q7, rfl⟩ | ⟨q7, ⟨q8, rfl⟩ | ⟨q8, ⟨q9, rfl⟩ | ⟨q9, q10⟩⟩⟩⟩
              all_goals
                go_wp2
                go_roundw
                case rel => exact ⟨k + 1, _, by omega, rfl, by go_num, Hp.out, hB⟩
                case measure => simp [intOf]; omega
            · have : k = nl := by omega
              subst this
              have hdi : decide ((k : Int) < k) = false := by simp
              clear hlt
              have H : Hid (askV i k L F T = if g = true then 0 else 2) := by
                have h1 := Hm.out
                unfold muchP at h1
                unfold Tells fitP sameP inP at hg
                cases g
                · rw [if_neg (by simp)]
                  refine ask_bad (by omega) (by omega) (fun j hj => ?_) ?_
                  · have : ¬ 600 < L j := fun h => h1 (.inr (.inr ⟨j, hj, h⟩))
                    omega
                  · by_cases h2 : ∃ j, j < i ∧ L j ≠ L 0
                    · exact .inl h2
                    · refine .inr ?_
                      by_cases h3 : ∃ c, c < k ∧ ¬ (0 ≤ F c ∧ F c < i ∧ 0 ≤ T c ∧ T c < i)
                      · exact h3
                      · exfalso
                        have : false = true := hg.2 ⟨fun j hj => by
                          by_cases h4 : L j = L 0
                          · exact h4
                          · exact absurd ⟨j, hj, h4⟩ h2, fun j hj => by
                          by_cases h4 : 0 ≤ F j ∧ F j < i ∧ 0 ≤ T j ∧ T j < i
                          · exact h4
                          · exact absurd ⟨j, hj, h4⟩ h3⟩
                        cases this
                · rw [if_pos rfl]
                  obtain ⟨h2, h3⟩ := hg.1 rfl
                  exact ask_ok (by omega) (by omega) (fun j hj => by
                    have : ¬ 600 < L j := fun h => h1 (.inr (.inr ⟨j, hj, h⟩))
                    omega) h2 h3
              clear hg
              cases g
              all_goals
                go_wp2
                go_ret
                rw [H.out]
                exact ⟨rfl, hB⟩
        · have H := Lib.hid (show askV i nl L F T = 4 from ask_much (hm.1 rfl))
          clear hm hf HX
          go_wp2
          go_ret
          rw [H.out]
          exact ⟨rfl, hB⟩

/-- What Great tells. -/
def GreatRet (w : World) (n nl : Nat) (L : Nat → Nat) (e : Ending) (w' : World) : Prop :=
  ∃ g : Bool, e = .returned (.bool g) ∧ (g = false → n ≤ 700 ∧ nl ≤ 1300 ∧ ∀ i, i < n → L i ≤ 700) ∧ Below w.heap.size w w'

end Go.Proofs.Ytcdbaoejakcemaa
