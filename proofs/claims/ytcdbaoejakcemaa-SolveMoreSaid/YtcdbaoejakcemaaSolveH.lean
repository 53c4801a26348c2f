/- Layer 20: Holds, of the program and of the reference. No condition. -/
import Derived.Test.YtcdbaoejakcemaaSolveG
namespace Go.Proofs.Ytcdbaoejakcemaa
open Go.RowKit

/-- The truth value of Holds. -/
def holdB (n nl ns : Nat) (L Ls : Nat → Nat) (F T : Nat → Int) (S Z : Nat → Nat → Bool) : Bool := (askV n nl L F T == 0) && rightB n nl ns L Ls F T S Z
theorem holdB_bad {n nl ns : Nat} {L Ls : Nat → Nat} {F T : Nat → Int} {S Z : Nat → Nat → Bool} (h : askV n nl L F T ≠ 0) : holdB n nl ns L Ls F T S Z = false := by simp [holdB, h]
theorem holdB_ok {n nl ns : Nat} {L Ls : Nat → Nat} {F T : Nat → Int} {S Z : Nat → Nat → Bool} (h : askV n nl L F T = 0) : holdB n nl ns L Ls F T S Z = rightB n nl ns L Ls F T S Z := by simp [holdB, h]

set_option maxHeartbeats 1000000 in
theorem rholds_any (A A' A2 : Option Addr) (n nl ns c c' c2 : Nat) (L Ls : Nat → Nat) (S Z : Nat → Nat → Bool) (F T N Y : Nat → Int) (w : World) (hn : n ≤ maxLen) (hl : nl ≤ maxLen) (hs : ns ≤ maxLen)
    (hX : Sets w A n L S) (hY : Cons w A' nl F T N Y) (hZ : Sets w A2 ns Ls Z) :
    Calls Try.prog 12 #[.slice A n c, .slice A' nl c', .slice A2 ns c2] w (Ret w (.tuple #[.bool (holdB n nl ns L Ls F T S Z), .int .i64 (askV n nl L F T)])) := by
  have C1 := fun W (h : Sets W A n L S) (h' : Cons W A' nl F T N Y) => asked_any A A' n nl c c' L S F T N Y W hn hl h h'
  have HX := Lib.hid hX
  have HY := Lib.hid hY
  have HZ := Lib.hid hZ
  clear hX hY hZ
  by_cases h1 : askV n nl L F T = 0
  · obtain ⟨y1, y2, y3, y4, y5⟩ := ask_zero h1
    have D2 := Lib.hid (fun W h h' h'' => right_any A A' A2 n nl ns c c' c2 L Ls S Z F T N Y W y1 y2 hs y4 y3 y5 h h' h'')
    rw [holdB_ok h1]
    rw [h1] at C1 ⊢
    have D1 := Lib.hid C1
    clear h1 y1 y2 y3 y4 y5 C1
    go_enter Try.func12, Try.ntmps12
    go_wp2_with fail
    refine (D1.out _ (HX.out.below' (by repeat (first | exact Below.refl _ _ | (refine Below.setCell ?_ (by first | omega | (simp; done) | (simp; omega)) _) | (refine Below.alloc ?_ (by first | omega | (simp; done) | (simp; omega)) _) | refine Below.drew ?_))) (HY.out.below' (by repeat (first | exact Below.refl _ _ | (refine Below.setCell ?_ (by first | omega | (simp; done) | (simp; omega)) _) | (refine Below.alloc ?_ (by first | omega | (simp; done) | (simp; omega)) _) | refine Below.drew ?_)))).mono ?_
    rintro e w1 ⟨rfl, hb1⟩
    have hB1 : Below w.heap.size w w1 := Below.call (by repeat (first | exact Below.refl _ _ | (refine Below.setCell ?_ (by first | omega | (simp; done) | (simp; omega)) _) | (refine Below.alloc ?_ (by first | omega | (simp; done) | (simp; omega)) _) | refine Below.drew ?_)) hb1
    have hS1 : w.heap.size ≤ w1.heap.size := hB1.size
    obtain ⟨hc1, hf1⟩ := bcell hb1
    clear hc1 hf1
    go_wp2_with fail
    refine (D2.out _ (HX.out.below' (by repeat (first | exact hB1 | exact Below.refl _ _ | (refine Below.setCell ?_ (by first | omega | (simp; done) | (simp; omega)) _) | (refine Below.alloc ?_ (by first | omega | (simp; done) | (simp; omega)) _) | refine Below.drew ?_))) (HY.out.below' (by repeat (first | exact hB1 | exact Below.refl _ _ | (refine Below.setCell ?_ (by first | omega | (simp; done) | (simp; omega)) _) | (refine Below.alloc ?_ (by first | omega | (simp; done) | (simp; omega)) _) | refine Below.drew ?_))) (HZ.out.below' (by repeat (first | exact hB1 | exact Below.refl _ _ | (refine Below.setCell ?_ (by first | omega | (simp; done) | (simp; omega)) _) | (refine Below.alloc ?_ (by first | omega | (simp; done) | (simp; omega)) _) | refine Below.drew ?_)))).mono ?_
    rintro e w2 ⟨rfl, hb2⟩
    have hB2 : Below w.heap.size w w2 := Below.call (by repeat (first | exact hB1 | exact Below.refl _ _ | (refine Below.setCell ?_ (by first | omega | (simp; done) | (simp; omega)) _) | (refine Below.alloc ?_ (by first | omega | (simp; done) | (simp; omega)) _) | refine Below.drew ?_)) hb2
    have hS2 : w.heap.size ≤ w2.heap.size := hB2.size
    obtain ⟨hc2, hf2⟩ := bcell hb2
    clear hc2 hf2
    go_wp2
    go_ret2
    exact ⟨rfl, (by repeat (first | exact hB2 | exact Below.refl _ _ | (refine Below.setCell ?_ (by first | omega | (simp; done) | (simp; omega)) _) | (refine Below.alloc ?_ (by first | omega | (simp; done) | (simp; omega)) _) | refine Below.drew ?_))⟩
  · rw [holdB_bad h1]
    have q1 : (askV n nl L F T != 0) = true := by simpa using h1
    have D1 := Lib.hid C1
    clear h1 C1
    go_enter Try.func12, Try.ntmps12
    go_wp2_with fail
    refine (D1.out _ (HX.out.below' (by repeat (first | exact Below.refl _ _ | (refine Below.setCell ?_ (by first | omega | (simp; done) | (simp; omega)) _) | (refine Below.alloc ?_ (by first | omega | (simp; done) | (simp; omega)) _) | refine Below.drew ?_))) (HY.out.below' (by repeat (first | exact Below.refl _ _ | (refine Below.setCell ?_ (by first | omega | (simp; done) | (simp; omega)) _) | (refine Below.alloc ?_ (by first | omega | (simp; done) | (simp; omega)) _) | refine Below.drew ?_)))).mono ?_
    rintro e w1 ⟨rfl, hb1⟩
    have hB1 : Below w.heap.size w w1 := Below.call (by repeat (first | exact Below.refl _ _ | (refine Below.setCell ?_ (by first | omega | (simp; done) | (simp; omega)) _) | (refine Below.alloc ?_ (by first | omega | (simp; done) | (simp; omega)) _) | refine Below.drew ?_)) hb1
    have hS1 : w.heap.size ≤ w1.heap.size := hB1.size
    obtain ⟨hc1, hf1⟩ := bcell hb1
    clear hc1 hf1
    go_wp2_with fail
    refine (D1.out _ (HX.out.below' (by repeat (first | exact hB1 | exact Below.refl _ _ | (refine Below.setCell ?_ (by first | omega | (simp; done) | (simp; omega)) _) | (refine Below.alloc ?_ (by first | omega | (simp; done) | (simp; omega)) _) | refine Below.drew ?_))) (HY.out.below' (by repeat (first | exact hB1 | exact Below.refl _ _ | (refine Below.setCell ?_ (by first | omega | (simp; done) | (simp; omega)) _) | (refine Below.alloc ?_ (by first | omega | (simp; done) | (simp; omega)) _) | refine Below.drew ?_)))).mono ?_
    rintro e w2 ⟨rfl, hb2⟩
    have hB2 : Below w.heap.size w w2 := Below.call (by repeat (first | exact hB1 | exact Below.refl _ _ | (refine Below.setCell ?_ (by first | omega | (simp; done) | (simp; omega)) _) | (refine Below.alloc ?_ (by first | omega | (simp; done) | (simp; omega)) _) | refine Below.drew ?_)) hb2
    have hS2 : w.heap.size ≤ w2.heap.size := hB2.size
    obtain ⟨hc2, hf2⟩ := bcell hb2
    clear hc2 hf2
    go_wp2
    go_ret2
    exact ⟨rfl, (by repeat (first | exact hB2 | exact Below.refl _ _ | (refine Below.setCell ?_ (by first | omega | (simp; done) | (simp; omega)) _) | (refine Below.alloc ?_ (by first | omega | (simp; done) | (simp; omega)) _) | refine Below.drew ?_))⟩

theorem wiB_row {n nl ns : Nat} {L Ls : Nat → Nat} {F T : Nat → Int} {S Z : Nat → Nat → Bool} {i : Nat} (hi : i < n) (h : wiE (L i) (Ls i) ≠ 0 ∨ wiB (L i) (Ls i) (S i) (Z i) = false) (h6 : L i ≤ 600) : rightB n nl ns L Ls F T S Z = false := by
  refine rightB_row hi ?_
  rcases h with h | h
  · refine .inl fun e => h ?_
    rw [e, wiE_ok h6]
  · by_cases e : Ls i = L i
    · refine .inr ?_
      rw [e, wiB, wiE_ok h6] at h
      simpa using h
    · exact .inl e

set_option maxRecDepth 100000 in
set_option maxHeartbeats 4000000 in
theorem holds_any (A A' A2 : Option Addr) (n nl ns c c' c2 : Nat) (L Ls : Nat → Nat) (S Z : Nat → Nat → Bool) (F T N Y : Nat → Int) (w : World) (hn : n ≤ maxLen) (hl : nl ≤ maxLen) (hs : ns ≤ maxLen)
    (hX : Sets w A n L S) (hY : Cons w A' nl F T N Y) (hZ : Sets w A2 ns Ls Z) :
    Calls Try.prog 11 #[.slice A n c, .slice A' nl c', .slice A2 ns c2] w (Ret w (.tuple #[.bool (holdB n nl ns L Ls F T S Z), .int .i64 (askV n nl L F T)])) := by
  have C1 := fun W (h : Sets W A n L S) (h' : Cons W A' nl F T N Y) => scheck_any A A' n nl c c' L S F T N Y W hn hl h h'
  have hs' := hs
  unfold maxLen at hs'
  have HX := Lib.hid hX
  have HY := Lib.hid hY
  have HZ := Lib.hid hZ
  clear hX hY hZ
  by_cases h1 : askV n nl L F T = 0
  · obtain ⟨y1, y2, y3, y4, y5⟩ := ask_zero h1
    have HL := Lib.hid y4
    have H6 := Lib.hid y3
    have HF := Lib.hid y5
    rw [holdB_ok h1]
    rw [h1] at C1 ⊢
    have D1 := Lib.hid C1
    clear h1 y3 y4 y5 C1
    by_cases h2 : ns = n
    · subst h2
      have q1 : ((ns : Int) != ns) = false := by simp
      go_enter Try.func11, Try.ntmps11
      go_wp2_with fail
      refine (D1.out _ (HX.out.below' (by repeat (first | exact Below.refl _ _ | (refine Below.setCell ?_ (by first | omega | (simp; done) | (simp; omega)) _) | (refine Below.alloc ?_ (by first | omega | (simp; done) | (simp; omega)) _) | refine Below.drew ?_))) (HY.out.below' (by repeat (first | exact Below.refl _ _ | (refine Below.setCell ?_ (by first | omega | (simp; done) | (simp; omega)) _) | (refine Below.alloc ?_ (by first | omega | (simp; done) | (simp; omega)) _) | refine Below.drew ?_)))).mono ?_
      rintro e w1 ⟨rfl, hb1⟩
      have hB1 : Below w.heap.size w w1 := Below.call (by repeat (first | exact Below.refl _ _ | (refine Below.setCell ?_ (by first | omega | (simp; done) | (simp; omega)) _) | (refine Below.alloc ?_ (by first | omega | (simp; done) | (simp; omega)) _) | refine Below.drew ?_)) hb1
      have hS1 : w.heap.size ≤ w1.heap.size := hB1.size
      obtain ⟨hc1, hf1⟩ := bcell hb1
      clear hc1 hf1
      go_wp2
      go_loopw [29] (fun v wr => ∃ i : Nat, i ≤ ns ∧ v = .int .i64 i ∧ (∀ j, j < i → Ls j = L j ∧ withinB (L j) (S j) (Z j) = true) ∧ Below w.heap.size w wr) (fun v _ => ns - (intOf v).toNat)
      case atStart => exact ⟨0, by omega, rfl, fun j hj => by omega, hB1⟩
      case round =>
        obtain ⟨i, hi, rfl, hok, hB⟩ := hrel
        have Hok := Lib.hid hok
        clear hok
        have hz := hB.size
        by_cases hlt : i < ns
        · have hdi : decide ((i : Int) < ns) = true := by simp; omega
          obtain ⟨b, off, rfl, hb, hc⟩ := HX.out (by omega)
          obtain ⟨b2, off2, rfl, hb2, hc2⟩ := HZ.out (by omega)
          obtain ⟨R, C, e0, hl0, hX0⟩ := hc i hlt
          obtain ⟨R2, C2, e1, hl1, hX1⟩ := hc2 i hlt
          have d0 := Later.cell ((hB.cell (p := ⟨b, _, none⟩) hb).trans e0) (by omega)
          have d1 := Later.cell ((hB.cell (p := ⟨b2, _, none⟩) hb2).trans e1) (by omega)
          have C0 := fun y => within_any _ _ _ _ C C2 _ _ _ hl0 hl1 ((hX0.below' hB).later y) ((hX1.below' hB).later y)
          have h600 := H6.out i hlt
          clear hc hc2 e0 e1 hX0 hX1
          by_cases h3 : wiE (L i) (Ls i) = 0
          · rw [h3] at C0
            rcases Bool.eq_false_or_eq_true (wiB (L i) (Ls i) (S i) (Z i)) with he | he
            · rw [he] at C0
              have D0 := Lib.hid C0
              have Hs := Lib.hid (show ∀ j, j < i + 1 → Ls j = L j ∧ withinB (L j) (S j) (Z j) = true from by
                intro j hj
                rcases Nat.lt_or_eq_of_le (Nat.le_of_lt_succ hj) with h' | rfl
                · exact Hok.out j h'
                · refine ⟨(wiE_zero h3).1.symm, ?_⟩
                  rw [wiB, h3] at he
                  simpa using he)
              clear h3 he C0
              go_wp2
              refine wp_region_later (by kernel_rfl) (by kernel_rfl) ?_
              repeat go_big_quiet_step (((go_at_call 22; exact Later.call (D0.out _))))
              refine wpQuiet_nil ?_
              rintro _ ⟨x, rfl⟩
              go_wp2
              go_roundw
              case rel => exact ⟨i + 1, by omega, by go_num, Hs.out, hB.trans (x.below.mono hB.size)⟩
              case measure => simp [intOf]; omega
            · rw [he] at C0
              have D0 := Lib.hid C0
              have H := Lib.hid (wiB_row (nl := nl) (ns := ns) (L := L) (Ls := Ls) (F := F) (T := T) (S := S) (Z := Z) hlt (.inr he) h600)
              clear h3 he C0
              go_wp2
              refine wp_region_later (by kernel_rfl) (by kernel_rfl) ?_
              repeat go_big_quiet_step (((go_at_call 22; exact Later.call (D0.out _))))
              refine wpQuiet_nil ?_
              rintro _ ⟨x, rfl⟩
              go_wp2
              go_ret2
              rw [H.out]
              exact ⟨rfl, hB.trans (x.below.mono hB.size)⟩
          · have q3 : (wiE (L i) (Ls i) != 0) = true := by simpa using h3
            have D0 := Lib.hid C0
            have H := Lib.hid (wiB_row (nl := nl) (ns := ns) (L := L) (Ls := Ls) (F := F) (T := T) (S := S) (Z := Z) hlt (.inl h3) h600)
            clear h3 C0
            go_wp2
            refine wp_region_later (by kernel_rfl) (by kernel_rfl) ?_
            repeat go_big_quiet_step (((go_at_call 22; exact Later.call (D0.out _))))
            refine wpQuiet_nil ?_
            rintro _ ⟨x, rfl⟩
            go_wp2
            go_ret2
            rw [H.out]
            exact ⟨rfl, hB.trans (x.below.mono hB.size)⟩
        · have : i = ns := by omega
          subst this
          have hdi : decide ((i : Int) < i) = false := by simp
          clear hlt
          obtain ⟨wo, ho⟩ : ∃ wo : World, wo = wr := ⟨_, rfl⟩
          subst ho
          go_wp2
          go_loopw [53] (fun v wr => ∃ k : Nat, k ≤ nl ∧ v = .int .i64 k ∧ (∀ c, c < k → withinB (Ls (T c).toNat) (Z (T c).toNat) (Z (F c).toNat) = true) ∧ Below w.heap.size w wr) (fun v _ => nl - (intOf v).toNat)
          case atStart => exact ⟨0, by omega, rfl, fun j hj => by omega, hB⟩
          case round =>
            obtain ⟨k, hk, rfl, hok, hB⟩ := hrel
            have Hok2 := Lib.hid hok
            clear hok
            have hz := hB.size
            by_cases hlk : k < nl
            · have hdk : decide ((k : Int) < nl) = true := by simp; omega
              obtain ⟨b, off, rfl, hb, hc⟩ := HY.out (by omega)
              obtain ⟨e0, e1, e2, e5⟩ := hc k hlk
              obtain ⟨g1, g2, g3, g4⟩ := HF.out k hlk
              obtain ⟨f, hf⟩ : ∃ f : Nat, F k = f := ⟨(F k).toNat, by omega⟩
              obtain ⟨t, ht⟩ : ∃ t : Nat, T k = t := ⟨(T k).toNat, by omega⟩
              rw [hf] at e0 g2
              rw [ht] at e1 g4
              have hfi : f < i := by omega
              have hti : t < i := by omega
              obtain ⟨b2, off2, rfl, hb2, hc2⟩ := HZ.out (by omega)
              obtain ⟨R, C, e3, hl0, hX0⟩ := hc2 f hfi
              obtain ⟨R2, C2, e4, hl1, hX1⟩ := hc2 t hti
              have c0 := (hB.cell (p := ⟨b, _, none⟩) hb).trans e0
              have c1 := (hB.cell (p := ⟨b, _, none⟩) hb).trans e1
              have c2 := (hB.cell (p := ⟨b, _, none⟩) hb).trans e2
              have c3 := (hB.cell (p := ⟨b, _, none⟩) hb).trans e5
              have hBa : Below w.heap.size w (wr.alloc (.cells #[.int .i64 f, .int .i64 t, .int .i64 (N k), .int .u8 (Y k)] 42)) := hB.alloc (by omega) _
              have d2 := Later.cell ((hBa.cell (p := ⟨b2, _, none⟩) hb2).trans e3) (by simp; omega)
              have d3 := Later.cell ((hBa.cell (p := ⟨b2, _, none⟩) hb2).trans e4) (by simp; omega)
              have d4 := Later.cell (w := wr.alloc (.cells #[.int .i64 f, .int .i64 t, .int .i64 (N k), .int .u8 (Y k)] 42)) (b := wr.heap.size) (o := 0) (v := some (.int .i64 f)) (by simp) (by simp)
              have d5 := Later.cell (w := wr.alloc (.cells #[.int .i64 f, .int .i64 t, .int .i64 (N k), .int .u8 (Y k)] 42)) (b := wr.heap.size) (o := 1) (v := some (.int .i64 t)) (by simp) (by simp)
              have C0 := fun y => within_any _ _ _ _ C2 C _ _ _ hl1 hl0 ((hX1.below' hBa).later y) ((hX0.below' hBa).later y)
              have hLt : Ls t = L t ∧ Ls f = L t ∧ Ls t ≤ 600 := by
                have y1 := (Hok.out t hti).1
                have y2 := (Hok.out f hfi).1
                have y3 := HL.out t hti
                have y4 := HL.out f hfi
                have y5 := H6.out t hti
                omega
              have HW : Hid (wiB (Ls t) (Ls f) (Z t) (Z f) = withinB (Ls (T k).toNat) (Z (T k).toNat) (Z (F k).toNat)) := by
                rw [hf, ht, hLt.2.1, ← hLt.1, wiB, wiE_ok hLt.2.2]
                simp
                exact trivial
              have HE : wiE (Ls t) (Ls f) = 0 := by rw [hLt.2.1, ← hLt.1, wiE_ok hLt.2.2]
              rw [HE] at C0
              clear hc hc2 e0 e1 e2 e3 e4 e5 hX0 hX1 hLt hf ht g1 g2 g3 g4 HE
              rcases Bool.eq_false_or_eq_true (withinB (Ls (T k).toNat) (Z (T k).toNat) (Z (F k).toNat)) with he | he
              · rw [HW.out, he] at C0
                have D0 := Lib.hid C0
                have Hs := Lib.hid (show ∀ c, c < k + 1 → withinB (Ls (T c).toNat) (Z (T c).toNat) (Z (F c).toNat) = true from by
                  intro j hj
                  rcases Nat.lt_or_eq_of_le (Nat.le_of_lt_succ hj) with h' | rfl
                  · exact Hok2.out j h'
                  · exact he)
                clear he C0 HW
                go_wp2
                refine wp_region_later (by kernel_rfl) (by kernel_rfl) ?_
                repeat go_big_quiet_step (((go_at_call 22; exact Later.call (D0.out _))))
                refine wpQuiet_nil ?_
                rintro _ ⟨x, rfl⟩
                go_wp2
                go_roundw
                case rel => exact ⟨k + 1, by omega, by go_num, Hs.out, hBa.trans (x.below.mono hBa.size)⟩
                case measure => simp [intOf]; omega
              · rw [HW.out, he] at C0
                have D0 := Lib.hid C0
                have H := Lib.hid (rightB_con (n := i) (ns := i) (L := L) (S := S) hlk he)
                clear he C0 HW
                go_wp2
                refine wp_region_later (by kernel_rfl) (by kernel_rfl) ?_
                repeat go_big_quiet_step (((go_at_call 22; exact Later.call (D0.out _))))
                refine wpQuiet_nil ?_
                rintro _ ⟨x, rfl⟩
                go_wp2
                go_ret2
                rw [H.out]
                exact ⟨rfl, hBa.trans (x.below.mono hBa.size)⟩
            · have : k = nl := by omega
              subst this
              have hdk : decide ((k : Int) < k) = false := by simp
              have H := Lib.hid (rightB_all (L := L) (S := S) (F := F) (T := T) rfl Hok.out Hok2.out)
              clear hlk
              go_wp2
              go_ret2
              rw [H.out]
              exact ⟨rfl, hB⟩
    · have H := Lib.hid (rightB_ns (nl := nl) (L := L) (Ls := Ls) (F := F) (T := T) (S := S) (Z := Z) h2)
      have q1 : ((ns : Int) != n) = true := by simp; omega
      clear h2
      go_enter Try.func11, Try.ntmps11
      go_wp2_with fail
      refine (D1.out _ (HX.out.below' (by repeat (first | exact Below.refl _ _ | (refine Below.setCell ?_ (by first | omega | (simp; done) | (simp; omega)) _) | (refine Below.alloc ?_ (by first | omega | (simp; done) | (simp; omega)) _) | refine Below.drew ?_))) (HY.out.below' (by repeat (first | exact Below.refl _ _ | (refine Below.setCell ?_ (by first | omega | (simp; done) | (simp; omega)) _) | (refine Below.alloc ?_ (by first | omega | (simp; done) | (simp; omega)) _) | refine Below.drew ?_)))).mono ?_
      rintro e w1 ⟨rfl, hb1⟩
      have hB1 : Below w.heap.size w w1 := Below.call (by repeat (first | exact Below.refl _ _ | (refine Below.setCell ?_ (by first | omega | (simp; done) | (simp; omega)) _) | (refine Below.alloc ?_ (by first | omega | (simp; done) | (simp; omega)) _) | refine Below.drew ?_)) hb1
      have hS1 : w.heap.size ≤ w1.heap.size := hB1.size
      obtain ⟨hc1, hf1⟩ := bcell hb1
      clear hc1 hf1
      go_wp2
      go_ret2
      rw [H.out]
      exact ⟨rfl, (by repeat (first | exact hB1 | exact Below.refl _ _ | (refine Below.setCell ?_ (by first | omega | (simp; done) | (simp; omega)) _) | (refine Below.alloc ?_ (by first | omega | (simp; done) | (simp; omega)) _) | refine Below.drew ?_))⟩
  · rw [holdB_bad h1]
    have q1 : (askV n nl L F T != 0) = true := by simpa using h1
    have D1 := Lib.hid C1
    clear h1 C1
    go_enter Try.func11, Try.ntmps11
    go_wp2_with fail
    refine (D1.out _ (HX.out.below' (by repeat (first | exact Below.refl _ _ | (refine Below.setCell ?_ (by first | omega | (simp; done) | (simp; omega)) _) | (refine Below.alloc ?_ (by first | omega | (simp; done) | (simp; omega)) _) | refine Below.drew ?_))) (HY.out.below' (by repeat (first | exact Below.refl _ _ | (refine Below.setCell ?_ (by first | omega | (simp; done) | (simp; omega)) _) | (refine Below.alloc ?_ (by first | omega | (simp; done) | (simp; omega)) _) | refine Below.drew ?_)))).mono ?_
    rintro e w1 ⟨rfl, hb1⟩
    have hB1 : Below w.heap.size w w1 := Below.call (by repeat (first | exact Below.refl _ _ | (refine Below.setCell ?_ (by first | omega | (simp; done) | (simp; omega)) _) | (refine Below.alloc ?_ (by first | omega | (simp; done) | (simp; omega)) _) | refine Below.drew ?_)) hb1
    have hS1 : w.heap.size ≤ w1.heap.size := hB1.size
    obtain ⟨hc1, hf1⟩ := bcell hb1
    clear hc1 hf1
    go_wp2
    go_ret2
    exact ⟨rfl, (by repeat (first | exact hB1 | exact Below.refl _ _ | (refine Below.setCell ?_ (by first | omega | (simp; done) | (simp; omega)) _) | (refine Below.alloc ?_ (by first | omega | (simp; done) | (simp; omega)) _) | refine Below.drew ?_))⟩

end Go.Proofs.Ytcdbaoejakcemaa
