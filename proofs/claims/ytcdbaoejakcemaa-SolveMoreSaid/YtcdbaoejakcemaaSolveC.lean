/- Layer 18, the reference: Counted, Size, Within. Constraints, as they lie in memory. No condition. -/
import Derived.Test.YtcdbaoejakcemaaSolveB
namespace Go.Proofs.Ytcdbaoejakcemaa
open Go.RowKit

/-- The cells of n truth values. -/
def bl (n : Nat) (X : Nat → Bool) : List Value := (List.range n).map fun j => .bool (X j)
theorem bl_len (n : Nat) (X : Nat → Bool) : (bl n X).length = n := by simp [bl]
theorem bl_get {n : Nat} {X : Nat → Bool} {j : Nat} (h : j < n) : (bl n X)[j]? = some (.bool (X j)) := by simp only [bl, List.getElem?_map, List.getElem?_range h, Option.map_some]
theorem bl_at {n : Nat} {X : Nat → Bool} {j : Nat} {u : Value} (h : (bl n X)[j]? = some u) : j < n ∧ u = .bool (X j) := by
  have hj : j < n := by
    rcases Nat.lt_or_ge j n with h1 | h1
    · exact h1
    · rw [List.getElem?_eq_none (by rw [bl_len]; exact h1)] at h; cases h
  rw [bl_get hj] at h
  injection h with h
  exact ⟨hj, h.symm⟩
theorem bl_succ (n : Nat) (X : Nat → Bool) : bl n X ++ [.bool (X n)] = bl (n + 1) X := by simp [bl, List.range_succ]
theorem bl_one {n : Nat} {X : Nat → Bool} : ∀ u ∈ bl n X, u.oneCell' = true := by
  intro u hu
  obtain ⟨j, hj, rfl⟩ := List.mem_map.1 hu
  rfl
theorem bl_congr {n : Nat} {X Y : Nat → Bool} (h : ∀ j, j < n → X j = Y j) : bl n X = bl n Y := by
  refine List.map_congr_left fun j hj => ?_
  rw [h j (List.mem_range.1 hj)]

theorem add_plain (b off j : Nat) : (⟨b, off, none⟩ : Addr).add j = ⟨b, off + j, none⟩ := by
  unfold Addr.add
  split
  · rename_i h; simp [h]
  · rfl
theorem Bits.reads {w : World} {A : Option Addr} {n : Nat} {X : Nat → Bool} (h : Bits w A n X) : Reads w w.heap.size 1 A n (bl n X) := by
  refine ⟨by rw [bl_len]; omega, fun hn => ?_⟩
  obtain ⟨b, off, rfl, hlt, hc⟩ := h hn
  refine ⟨_, rfl, hlt, fun j u hu => ?_⟩
  obtain ⟨hj, rfl⟩ := bl_at hu
  rw [add_plain]
  exact hc j hj
theorem bits_of_own {w : World} {base : Nat} {e : TypeId} {v : Value} {n : Nat} {X : Nat → Bool} (h : w.ownsRow base e 1 v n (bl n X)) : ∃ A c, v = .slice A n c ∧ n ≤ c ∧ c ≤ maxLen ∧ Bits w A n X := by
  rcases h.2 with ⟨rfl, h0⟩ | ⟨g, cap, cur, rfl, hg, hh, hnc, hcm, hsz, htk⟩
  · subst h0
    exact ⟨none, 0, rfl, by omega, by simp [maxLen], Bits.of_none⟩
  · refine ⟨_, _, rfl, hnc, hcm, fun hn => ⟨g, 0, rfl, (h.lt g rfl).2, fun i hi => ?_⟩⟩
    have hc := h.cells (g := g) rfl i _ (bl_get hi)
    rw [add_plain] at hc
    exact hc
theorem one_row {W : World} {B g : Nat} {u : Value} {e : TypeId} (hg : g = W.heap.size) (hB : g < B) : Reads (W.alloc (.cells #[u] e)) B 1 (some ⟨g, 0, none⟩) 1 [u] := by
  subst hg
  refine ⟨rfl, fun _ => ⟨_, rfl, hB, fun j x hx => ?_⟩⟩
  match j, hx with
  | 0, hx => simp at hx; subst hx; rw [add_plain]; go_simp

theorem bool_info : (Try.prog.info? 4).map (fun i => (i.zero, i.size, i.bytes)) = some (some (.bool false), 1, 1) := by kernel_rfl

/-- A new set is returned, and 0. -/
def SetRet (w : World) (n : Nat) (X : Nat → Bool) (e : Ending) (w' : World) : Prop :=
  ∃ A c, e = .returned (.tuple #[.slice A n c, .int .i64 0]) ∧ n ≤ maxLen ∧ Bits w' A n X ∧ Below w.heap.size w w'

set_option maxHeartbeats 2000000 in
theorem counted_any (A A' : Option Addr) (n c c' : Nat) (X Y : Nat → Bool) (w : World) (hn : n ≤ 600) (hX : Bits w A n X) (hY : Bits w A' n Y) :
    Calls Try.prog 25 #[.slice A n c, .slice A' n c', .int .i64 2] w (SetRet w n (fun j => X j && Y j)) := by
  have hm : n ≤ maxLen := by unfold maxLen; omega
  have C1 := fun W => rptscheck_any A A' n n c c' W hm hm
  rw [wiE_ok hn] at C1
  have D1 := Lib.hid C1
  have HX := Lib.hid hX
  have HY := Lib.hid hY
  clear hX hY C1
  obtain ⟨i0, hi0, hz0, hz1, hz2⟩ := info_parts bool_info
  go_enter Try.func25, Try.ntmps25
  go_wp2_with fail
  refine (D1.out _).mono ?_
  rintro e w1 ⟨rfl, hb1⟩
  have hB1 : Below w.heap.size w w1 := Below.call (by repeat (first | exact Below.refl _ _ | (refine Below.setCell ?_ (by first | omega | (simp; done) | (simp; omega)) _) | (refine Below.alloc ?_ (by first | omega | (simp; done) | (simp; omega)) _) | refine Below.drew ?_)) hb1
  have hS1 : w.heap.size ≤ w1.heap.size := hB1.size
  obtain ⟨hc1, hf1⟩ := bcell hb1
  clear hc1 hf1 D1
  go_wp2
  go_loopw [8, 9] (fun v t wr => ∃ i : Nat, i ≤ n ∧ t = .int .i64 i ∧ wr.ownsRow w.heap.size 4 1 v i (bl i fun j => X j && Y j) ∧ Below w.heap.size w wr) (fun _ v _ => n - (intOf v).toNat)
  case atStart => exact ⟨0, by omega, rfl, World.ownsRow_nil _ _ _ _, hB1⟩
  case round =>
    obtain ⟨i, hi, rfl, hown, hB⟩ := hrel
    have hz := hB.size
    by_cases hlt : i < n
    · have hdi : decide ((i : Int) < n) = true := by simp; omega
      obtain ⟨b, off, rfl, hb, hc⟩ := HX.out (by omega)
      obtain ⟨b', off', rfl, hb', hc'⟩ := HY.out (by omega)
      have c0 := (hB.cell (p := ⟨b, _, none⟩) hb).trans (hc i hlt)
      have c1 := (hB.cell (p := ⟨b', _, none⟩) hb').trans (hc' i hlt)
      have HS := Lib.hid (bl_succ i fun j => X j && Y j)
      clear hc hc' HX HY
      rcases Bool.eq_false_or_eq_true (X i) with hx | hx <;> rcases Bool.eq_false_or_eq_true (Y i) with hy | hy <;> rw [hx] at c0 <;> rw [hy] at c1 <;> simp only [hx, hy, Bool.and_true, Bool.and_false, Bool.true_and, Bool.false_and] at HS <;> clear hx hy
      all_goals
        go_wp2_with (first
          | (at_builtin
             refine wpList_append_any _ rfl (.tmp 36) (.tmp 40) _ rfl w.heap.size 4 i0 _ 1 1 Try.underlying40 hi0 hz0 hz1 hz2 rfl (by omega) _ _ _ rfl (hown.alloc _) (wr.heap.size + 1) (some ⟨_, 0, none⟩) 1 1 [.bool _] rfl (one_row rfl (by omega)) (by simp [Value.oneCell']) (by unfold maxLen; omega) (by omega) (by first | omega | (simp; done) | (simp; omega)) ?_
             intro v1 w2 hown2 hg2 hat2
             have hB2 : Below w.heap.size w w2 := (hB.alloc (by omega) _).grown hg2 (by first | omega | (simp; done) | (simp; omega)) (fun g hg => (hown.lt g hg).1)
             rw [HS.out] at hown2
             clear hown hg2 hat2 hi0 hz0 hz1 hz2)
          | fail)
        go_roundw
        case rel => exact ⟨i + 1, by omega, by go_num, hown2, hB2⟩
        case measure => simp [intOf]; omega
    · have : i = n := by omega
      subst this
      have hdi : decide ((i : Int) < i) = false := by simp
      obtain ⟨A2, c2, rfl, hnc, hcm, hb2⟩ := bits_of_own hown
      have HB2 := Lib.hid hb2
      clear hlt hown hb2
      go_wp2
      go_ret2
      exact ⟨A2, c2, rfl, hm, HB2.out, hB⟩

set_option maxHeartbeats 400000 in
theorem size_any (A : Option Addr) (n c : Nat) (X : Nat → Bool) (w : World) (hn : n ≤ maxLen) (hX : Bits w A n X) :
    Calls Try.prog 26 #[.slice A n c] w (Ret w (.int .i64 (cnt X n))) := by
  unfold maxLen at hn
  have HX := Lib.hid hX
  clear hX
  go_enter Try.func26, Try.ntmps26
  go_wp2
  go_loopw [3, 4] (fun v t wr => ∃ i : Nat, i ≤ n ∧ t = .int .i64 i ∧ v = .int .i64 (cnt X i : Nat) ∧ Below w.heap.size w wr) (fun _ v _ => n - (intOf v).toNat)
  case atStart => exact ⟨0, by omega, rfl, rfl, Below.refl _ _⟩
  case round =>
    obtain ⟨i, hi, rfl, rfl, hB⟩ := hrel
    have hz := hB.size
    have hcl := cnt_le X i
    by_cases hlt : i < n
    · have hdi : decide ((i : Int) < n) = true := by simp; omega
      obtain ⟨b, off, rfl, hb, hc⟩ := HX.out (by omega)
      have c0 := (hB.cell (p := ⟨b, _, none⟩) hb).trans (hc i hlt)
      have HS := Lib.hid (show cnt X (i + 1) = cnt X i + if X i = true then 1 else 0 from rfl)
      clear hc HX
      rcases Bool.eq_false_or_eq_true (X i) with hx | hx <;> rw [hx] at c0 <;> rw [hx] at HS <;> clear hx
      all_goals
        go_wp2
        go_roundw
        case rel => exact ⟨i + 1, by omega, by go_num, by rw [HS.out]; first | rfl | (simp; done), hB⟩
        case measure => simp [intOf]; omega
    · have : i = n := by omega
      subst this
      have hdi : decide ((i : Int) < i) = false := by simp
      clear hlt
      go_wp2
      go_ret
      exact ⟨rfl, hB⟩

theorem wiB_much {n m : Nat} {X Y : Nat → Bool} (h : wiE n m ≠ 0) : wiB n m X Y = false := by simp [wiB, h]
theorem wiB_cnt {n : Nat} {X Y : Nat → Bool} (h : n ≤ 600) : ((cnt (fun j => X j && Y j) n : Int) == cnt X n) = wiB n n X Y := by
  rw [wiB, wiE_ok h]
  rw [Bool.eq_iff_iff]
  simp only [beq_self_eq_true, Bool.true_and, withinB, decide_eq_true_eq]
  rw [← cnt_within]
  simp only [beq_iff_eq]
  omega

set_option maxHeartbeats 1000000 in
theorem countedE_any (A A' : Option Addr) (n m c c' : Nat) (w : World) (hn : n ≤ maxLen) (hm : m ≤ maxLen) (h : wiE n m ≠ 0) :
    Calls Try.prog 25 #[.slice A n c, .slice A' m c', .int .i64 2] w (Ret w (.tuple #[.slice none 0 0, .int .i64 (wiE n m)])) := by
  have D1 := Lib.hid fun W => rptscheck_any A A' n m c c' W hn hm
  have q1 : (wiE n m != 0) = true := by simpa using h
  clear h
  go_enter Try.func25, Try.ntmps25
  go_wp2_with fail
  refine (D1.out _).mono ?_
  rintro e w1 ⟨rfl, hb1⟩
  have hB1 : Below w.heap.size w w1 := Below.call (by repeat (first | exact Below.refl _ _ | (refine Below.setCell ?_ (by first | omega | (simp; done) | (simp; omega)) _) | (refine Below.alloc ?_ (by first | omega | (simp; done) | (simp; omega)) _) | refine Below.drew ?_)) hb1
  have hS1 : w.heap.size ≤ w1.heap.size := hB1.size
  obtain ⟨hc1, hf1⟩ := bcell hb1
  clear hc1 hf1
  go_wp2_with fail
  refine (D1.out _).mono ?_
  rintro e w2 ⟨rfl, hb2⟩
  have hB2 : Below w.heap.size w w2 := Below.call (by repeat (first | exact hB1 | exact Below.refl _ _ | (refine Below.setCell ?_ (by first | omega | (simp; done) | (simp; omega)) _) | (refine Below.alloc ?_ (by first | omega | (simp; done) | (simp; omega)) _) | refine Below.drew ?_)) hb2
  have hS2 : w.heap.size ≤ w2.heap.size := hB2.size
  obtain ⟨hc2, hf2⟩ := bcell hb2
  clear hc2 hf2
  go_wp2
  go_ret2
  exact ⟨rfl, (by repeat (first | exact hB2 | exact Below.refl _ _ | (refine Below.setCell ?_ (by first | omega | (simp; done) | (simp; omega)) _) | (refine Below.alloc ?_ (by first | omega | (simp; done) | (simp; omega)) _) | refine Below.drew ?_))⟩

set_option maxHeartbeats 1000000 in
theorem rwithin_any (A A' : Option Addr) (n m c c' : Nat) (X Y : Nat → Bool) (w : World) (hn : n ≤ maxLen) (hm : m ≤ maxLen) (hX : Bits w A n X) (hY : Bits w A' m Y) :
    Calls Try.prog 17 #[.slice A n c, .slice A' m c'] w (Ret w (.tuple #[.bool (wiB n m X Y), .int .i64 (wiE n m)])) := by
  by_cases h1 : wiE n m = 0
  · obtain ⟨rfl, h600⟩ := wiE_zero h1
    have HC := Lib.hid (wiB_cnt (X := X) (Y := Y) h600)
    have HX := Lib.hid hX
    have HY := Lib.hid hY
    rw [h1]
    clear h1 hX hY
    go_enter Try.func17, Try.ntmps17
    go_wp2_with fail
    refine (counted_any A A' n c c' X Y _ h600 (HX.out.below' (by repeat (first | exact Below.refl _ _ | (refine Below.setCell ?_ (by first | omega | (simp; done) | (simp; omega)) _) | (refine Below.alloc ?_ (by first | omega | (simp; done) | (simp; omega)) _) | refine Below.drew ?_))) (HY.out.below' (by repeat (first | exact Below.refl _ _ | (refine Below.setCell ?_ (by first | omega | (simp; done) | (simp; omega)) _) | (refine Below.alloc ?_ (by first | omega | (simp; done) | (simp; omega)) _) | refine Below.drew ?_)))).mono ?_
    rintro e w1 ⟨A2, c2, rfl, _, hb2, hb1⟩
    have hB1 : Below w.heap.size w w1 := Below.call (by repeat (first | exact Below.refl _ _ | (refine Below.setCell ?_ (by first | omega | (simp; done) | (simp; omega)) _) | (refine Below.alloc ?_ (by first | omega | (simp; done) | (simp; omega)) _) | refine Below.drew ?_)) hb1
    have H2 := Lib.hid hb2
    clear hb2
    go_wp2_with fail
    refine (size_any A2 n c2 _ _ hn (H2.out.below' (Below.refl _ _))).mono ?_
    rintro e w2 ⟨rfl, hb2⟩
    have hB2 : Below w.heap.size w w2 := Below.call (by repeat (first | exact hB1 | exact Below.refl _ _ | (refine Below.setCell ?_ (by first | omega | (simp; done) | (simp; omega)) _) | (refine Below.alloc ?_ (by first | omega | (simp; done) | (simp; omega)) _) | refine Below.drew ?_)) hb2
    have hS2 : w.heap.size ≤ w2.heap.size := hB2.size
    obtain ⟨hc2, hf2⟩ := bcell hb2
    clear hc2 hf2
    go_wp2_with fail
    refine (size_any A n c _ _ hn (HX.out.below' (by repeat (first | exact hB2 | exact Below.refl _ _ | (refine Below.setCell ?_ (by first | omega | (simp; done) | (simp; omega)) _) | (refine Below.alloc ?_ (by first | omega | (simp; done) | (simp; omega)) _) | refine Below.drew ?_)))).mono ?_
    rintro e w3 ⟨rfl, hb3⟩
    have hB3 : Below w.heap.size w w3 := Below.call (by repeat (first | exact hB2 | exact Below.refl _ _ | (refine Below.setCell ?_ (by first | omega | (simp; done) | (simp; omega)) _) | (refine Below.alloc ?_ (by first | omega | (simp; done) | (simp; omega)) _) | refine Below.drew ?_)) hb3
    have hS3 : w.heap.size ≤ w3.heap.size := hB3.size
    obtain ⟨hc3, hf3⟩ := bcell hb3
    clear hc3 hf3
    go_wp2
    go_ret2
    refine ⟨?_, (by repeat (first | exact hB3 | exact Below.refl _ _ | (refine Below.setCell ?_ (by first | omega | (simp; done) | (simp; omega)) _) | (refine Below.alloc ?_ (by first | omega | (simp; done) | (simp; omega)) _) | refine Below.drew ?_))⟩
    rw [← HC.out]
    rfl
  · have HC := Lib.hid (wiB_much (X := X) (Y := Y) h1)
    have D1 := Lib.hid (fun W => countedE_any A A' n m c c' W hn hm h1)
    have q1 : (wiE n m == 0) = false := by simpa using h1
    clear h1
    go_enter Try.func17, Try.ntmps17
    go_wp2_with fail
    refine (D1.out _).mono ?_
    rintro e w1 ⟨rfl, hb1⟩
    have hB1 : Below w.heap.size w w1 := Below.call (by repeat (first | exact Below.refl _ _ | (refine Below.setCell ?_ (by first | omega | (simp; done) | (simp; omega)) _) | (refine Below.alloc ?_ (by first | omega | (simp; done) | (simp; omega)) _) | refine Below.drew ?_)) hb1
    have hS1 : w.heap.size ≤ w1.heap.size := hB1.size
    obtain ⟨hc1, hf1⟩ := bcell hb1
    clear hc1 hf1
    go_wp2
    go_ret2
    rw [HC.out]
    exact ⟨rfl, (by repeat (first | exact hB1 | exact Below.refl _ _ | (refine Below.setCell ?_ (by first | omega | (simp; done) | (simp; omega)) _) | (refine Below.alloc ?_ (by first | omega | (simp; done) | (simp; omega)) _) | refine Below.drew ?_))⟩

end Go.Proofs.Ytcdbaoejakcemaa
