/- Layer 20: constraints, as they lie in memory; what bases and constraints are asked for; Great. No condition. -/
import Derived.Test.YtcdbaoejakcemaaSolveC
namespace Go.Proofs.Ytcdbaoejakcemaa
open Go.RowKit

/-- n constraints, as they lie in memory. -/
def Cons (w : World) (A : Option Addr) (n : Nat) (F T N Y : Nat → Int) : Prop :=
  0 < n → ∃ b off, A = some ⟨b, off, none⟩ ∧ b < w.heap.size ∧ ∀ i, i < n →
    w.cell? ⟨b, off + i * 4, none⟩ = some (.int .i64 (F i)) ∧ w.cell? ⟨b, off + i * 4 + 1, none⟩ = some (.int .i64 (T i)) ∧ w.cell? ⟨b, off + i * 4 + 2, none⟩ = some (.int .i64 (N i)) ∧ w.cell? ⟨b, off + i * 4 + 3, none⟩ = some (.int .u8 (Y i))
theorem Cons.below {w w' : World} {A : Option Addr} {n : Nat} {F T N Y : Nat → Int} {B : Nat} (h : Cons w A n F T N Y) (hb : Below B w w') (hB : w.heap.size ≤ B) : Cons w' A n F T N Y := by
  intro hn
  obtain ⟨b, off, rfl, hlt, hc⟩ := h hn
  refine ⟨b, off, rfl, Nat.lt_of_lt_of_le hlt hb.size, fun i hi => ?_⟩
  obtain ⟨c1, c2, c3, c4⟩ := hc i hi
  exact ⟨(hb.cell (p := ⟨b, _, none⟩) (by simp; omega)).trans c1, (hb.cell (p := ⟨b, _, none⟩) (by simp; omega)).trans c2, (hb.cell (p := ⟨b, _, none⟩) (by simp; omega)).trans c3, (hb.cell (p := ⟨b, _, none⟩) (by simp; omega)).trans c4⟩
theorem Cons.below' {w w' : World} {A : Option Addr} {n : Nat} {F T N Y : Nat → Int} (h : Cons w A n F T N Y) (hb : Below w.heap.size w w') : Cons w' A n F T N Y := h.below hb (Nat.le_refl _)
theorem Cons.alloc {w : World} {A : Option Addr} {n : Nat} {F T N Y : Nat → Int} (h : Cons w A n F T N Y) (o : Obj) : Cons (w.alloc o) A n F T N Y := h.below' ((Below.refl _ _).alloc (Nat.le_refl _) o)
theorem Cons.drew {w : World} {A : Option Addr} {n : Nat} {F T N Y : Nat → Int} (h : Cons w A n F T N Y) : Cons w.drew A n F T N Y := h.below' (Below.refl _ _).drew
theorem Cons.of_none {w : World} {F T N Y : Nat → Int} : Cons w none 0 F T N Y := fun h => absurd h (by omega)

set_option maxHeartbeats 2000000 in
theorem scheck_any (A A' : Option Addr) (n nl c c' : Nat) (L : Nat → Nat) (S : Nat → Nat → Bool) (F T N Y : Nat → Int) (w : World) (hn : n ≤ maxLen) (hl : nl ≤ maxLen) (hX : Sets w A n L S) (hY : Cons w A' nl F T N Y) :
    Calls Try.prog 19 #[.slice A n c, .slice A' nl c'] w (Ret w (.int .i64 (askV n nl L F T))) := by
  unfold maxLen at hn hl
  by_cases h1 : 592 < n
  · have H := Lib.hid (ask_much (L := L) (F := F) (T := T) (nl := nl) (.inl h1))
    have q1 : decide (592 < (n : Int)) = true := by simp; omega
    go_enter Try.func19, Try.ntmps19
    go_wp2
    go_ret
    rw [H.out]
    exact ⟨rfl, (by repeat (first | exact Below.refl _ _ | (refine Below.setCell ?_ (by first | omega | (simp; done) | (simp; omega)) _) | (refine Below.alloc ?_ (by first | omega | (simp; done) | (simp; omega)) _) | refine Below.drew ?_))⟩
  have q1 : decide (592 < (n : Int)) = false := by simp; omega
  by_cases h2 : 1152 < nl
  · have H := Lib.hid (ask_much (L := L) (F := F) (T := T) (n := n) (.inr (.inl h2)))
    have q2 : decide (1152 < (nl : Int)) = true := by simp; omega
    go_enter Try.func19, Try.ntmps19
    go_wp2
    go_ret
    rw [H.out]
    exact ⟨rfl, (by repeat (first | exact Below.refl _ _ | (refine Below.setCell ?_ (by first | omega | (simp; done) | (simp; omega)) _) | (refine Below.alloc ?_ (by first | omega | (simp; done) | (simp; omega)) _) | refine Below.drew ?_))⟩
  have q2 : decide (1152 < (nl : Int)) = false := by simp; omega
  have H1 : n ≤ 592 := by omega
  have H2 : nl ≤ 1152 := by omega
  clear h1 h2
  have HX := Lib.hid hX
  have HY := Lib.hid hY
  clear hX hY
  go_enter Try.func19, Try.ntmps19
  go_wp2
  go_loopw [21] (fun v wr => ∃ i : Nat, i ≤ n ∧ v = .int .i64 i ∧ (∀ j, j < i → L j ≤ 600) ∧ Below w.heap.size w wr) (fun v _ => n - (intOf v).toNat)
  case atStart => exact ⟨0, by omega, rfl, fun j hj => by omega, Below.refl _ _⟩
  case round =>
    obtain ⟨i, hi, rfl, hok, hB⟩ := hrel
    have Hok := Lib.hid hok
    clear hok
    have hz := hB.size
    by_cases hlt : i < n
    · have hdi : decide ((i : Int) < n) = true := by simp; omega
      obtain ⟨b, off, rfl, hb, hc⟩ := HX.out (by omega)
      obtain ⟨R, C, e0, hl0, hX0⟩ := hc i hlt
      have c0 := (hB.cell (p := ⟨b, _, none⟩) hb).trans e0
      clear hc HX e0 hX0
      by_cases h6 : 600 < L i
      · have q3 : decide (600 < (L i : Int)) = true := by simp; omega
        have H := Lib.hid (ask_much (L := L) (F := F) (T := T) (n := n) (nl := nl) (.inr (.inr ⟨i, hlt, h6⟩)))
        clear h6
        go_wp2
        go_ret
        rw [H.out]
        exact ⟨rfl, hB⟩
      · have q3 : decide (600 < (L i : Int)) = false := by simp; omega
        have Hs := Lib.hid (show ∀ j, j < i + 1 → L j ≤ 600 from by
          intro j hj
          rcases Nat.lt_or_eq_of_le (Nat.le_of_lt_succ hj) with h' | rfl
          · exact Hok.out j h'
          · omega)
        clear h6
        go_wp2
        go_roundw
        case rel => exact ⟨i + 1, by omega, by go_num, Hs.out, hB⟩
        case measure => simp [intOf]; omega
    · have : i = n := by omega
      subst this
      have hdi : decide ((i : Int) < i) = false := by simp
      clear hlt
      obtain ⟨wo, ho⟩ : ∃ wo : World, wo = wr := ⟨_, rfl⟩
      subst ho
      go_wp2
      go_loopw [31] (fun v wr => ∃ k : Nat, k ≤ i ∧ v = .int .i64 k ∧ (∀ j, j < k → L j = L 0) ∧ Below w.heap.size w wr) (fun v _ => i - (intOf v).toNat)
      case atStart => exact ⟨0, by omega, rfl, fun j hj => by omega, hB⟩
      case round =>
        obtain ⟨k, hk, rfl, hok, hB⟩ := hrel
        have Hok2 := Lib.hid hok
        clear hok
        have hz := hB.size
        by_cases hlt : k < i
        · have hdi : decide ((k : Int) < i) = true := by simp; omega
          have hd0 : 0 < i := by omega
          obtain ⟨b, off, rfl, hb, hc⟩ := HX.out (by omega)
          obtain ⟨R, C, e0, hl0, hX0⟩ := hc k hlt
          obtain ⟨R1, C1, e1, hl1, hX1⟩ := hc 0 hd0
          have c0 := (hB.cell (p := ⟨b, _, none⟩) hb).trans e0
          have c1 := (hB.cell (p := ⟨b, _, none⟩) hb).trans e1
          simp only [Nat.add_zero] at c1
          clear hc HX e0 hX0 e1 hX1
          by_cases h6 : L k = L 0
          · have q3 : ((L k : Int) != L 0) = false := by simp; omega
            have Hs := Lib.hid (show ∀ j, j < k + 1 → L j = L 0 from by
              intro j hj
              rcases Nat.lt_or_eq_of_le (Nat.le_of_lt_succ hj) with h' | rfl
              · exact Hok2.out j h'
              · exact h6)
            clear h6
            go_wp2
            go_roundw
            case rel => exact ⟨k + 1, by omega, by go_num, Hs.out, hB⟩
            case measure => simp [intOf]; omega
          · have q3 : ((L k : Int) != L 0) = true := by simp; omega
            have H := Lib.hid (ask_bad (L := L) (F := F) (T := T) H1 H2 Hok.out (.inl ⟨k, hlt, h6⟩))
            clear h6
            go_wp2
            go_ret
            rw [H.out]
            exact ⟨rfl, hB⟩
        · have : k = i := by omega
          subst this
          have hdi : decide ((k : Int) < k) = false := by simp
          clear hlt HX
          obtain ⟨wo, ho⟩ : ∃ wo : World, wo = wr := ⟨_, rfl⟩
          subst ho
          go_wp2
          go_loopw [45] (fun v wr => ∃ m : Nat, m ≤ nl ∧ v = .int .i64 m ∧ (∀ j, j < m → 0 ≤ F j ∧ F j < k ∧ 0 ≤ T j ∧ T j < k) ∧ Below w.heap.size w wr) (fun v _ => nl - (intOf v).toNat)
          case atStart => exact ⟨0, by omega, rfl, fun j hj => by omega, hB⟩
          case round =>
            obtain ⟨m, hm, rfl, hok, hB⟩ := hrel
            have Hok3 := Lib.hid hok
            clear hok
            have hz := hB.size
            by_cases hlt : m < nl
            · have hdi : decide ((m : Int) < nl) = true := by simp; omega
              obtain ⟨b, off, rfl, hb, hc⟩ := HY.out (by omega)
              obtain ⟨e0, e1, e2, e3⟩ := hc m hlt
              have c0 := (hB.cell (p := ⟨b, _, none⟩) hb).trans e0
              have c1 := (hB.cell (p := ⟨b, _, none⟩) hb).trans e1
              have c2 := (hB.cell (p := ⟨b, _, none⟩) hb).trans e2
              have c3 := (hB.cell (p := ⟨b, _, none⟩) hb).trans e3
              clear hc HY e0 e1 e2 e3
              obtain ⟨f, hf⟩ : ∃ f, f = F m := ⟨_, rfl⟩
              obtain ⟨t, ht⟩ : ∃ t, t = T m := ⟨_, rfl⟩
              rw [← hf] at c0
              rw [← ht] at c1
              have Hf := Lib.hid hf
              have Ht := Lib.hid ht
              clear hf ht
              by_cases h6 : 0 ≤ f ∧ f < k ∧ 0 ≤ t ∧ t < k
              · obtain ⟨h61, h62, h63, h64⟩ := h6
                have Hs := Lib.hid (show ∀ j, j < m + 1 → 0 ≤ F j ∧ F j < k ∧ 0 ≤ T j ∧ T j < k from by
                  intro j hj
                  rcases Nat.lt_or_eq_of_le (Nat.le_of_lt_succ hj) with h' | rfl
                  · exact Hok3.out j h'
                  · rw [← Hf.out, ← Ht.out]; exact ⟨h61, h62, h63, h64⟩)
                have p1 : decide (f < 0) = false := by simp; omega
                have p2 : decide (t < 0) = false := by simp; omega
                have p3 : decide ((k : Int) ≤ f) = false := by simp; omega
                have p4 : decide ((k : Int) ≤ t) = false := by simp; omega
                clear Hf Ht
                rcases Int.lt_or_le f t with h7 | h7
                · have p5 : ¬ t < f := by omega
                  go_wp2
                  go_roundw
                  case rel => exact ⟨m + 1, by omega, by go_num, Hs.out, hB.alloc (by omega) _⟩
                  case measure => simp [intOf]; omega
                · have p5 : ¬ f < t := by omega
                  go_wp2
                  all_goals
                    go_roundw
                    case rel => exact ⟨m + 1, by omega, by go_num, Hs.out, hB.alloc (by omega) _⟩
                    case measure => simp [intOf]; omega
              · have H := Lib.hid (ask_bad (n := k) (L := L) (F := F) (T := T) H1 H2 Hok.out (.inr ⟨m, hlt, by rw [← Hf.out, ← Ht.out]; exact h6⟩))
                clear Hf Ht
                have p : decide (min f t < 0) = true ∨ decide (min f t < 0) = false ∧ decide ((k : Int) ≤ max f t) = true := by
                  by_cases g : min f t < 0
                  · exact .inl (by simpa using g)
                  · exact .inr ⟨by simpa using g, by simp; omega⟩
                rcases Int.lt_trichotomy f t with h7 | h7 | h7
                · have p5 : ¬ t < f := by omega
                  rw [show min f t = f from by omega, show max f t = t from by omega] at p
                  clear h6
                  rcases p with p | ⟨p, p'⟩
                  all_goals
                    go_wp2
                    go_ret
                    rw [H.out]
                    exact ⟨rfl, hB.alloc (by omega) _⟩
                · subst h7
                  have p5 : ¬ f < f := by omega
                  rw [show min f f = f from by omega, show max f f = f from by omega] at p
                  clear h6
                  rcases p with p | ⟨p, p'⟩
                  all_goals
                    go_wp2
                    go_ret
                    rw [H.out]
                    exact ⟨rfl, hB.alloc (by omega) _⟩
                · have p5 : ¬ f < t := by omega
                  rw [show min f t = t from by omega, show max f t = f from by omega] at p
                  clear h6
                  rcases p with p | ⟨p, p'⟩
                  all_goals
                    go_wp2
                    go_ret
                    rw [H.out]
                    exact ⟨rfl, hB.alloc (by omega) _⟩
            · have : m = nl := by omega
              subst this
              have hdi : decide ((m : Int) < m) = false := by simp
              have H := Lib.hid (ask_ok (L := L) H1 H2 Hok.out Hok2.out Hok3.out)
              clear hlt
              go_wp2
              go_ret
              rw [H.out]
              exact ⟨rfl, hB⟩

end Go.Proofs.Ytcdbaoejakcemaa
