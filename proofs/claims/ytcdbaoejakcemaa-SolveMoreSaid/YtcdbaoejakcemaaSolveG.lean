/- Layer 20: what a solution is: Right of the reference. No condition. -/
import Derived.Test.YtcdbaoejakcemaaSolveF
namespace Go.Proofs.Ytcdbaoejakcemaa
open Go.RowKit

section
variable {n nl ns : Nat} {L Ls : Nat → Nat} {F T : Nat → Int} {S Z : Nat → Nat → Bool}
theorem rightB_ns (h : ns ≠ n) : rightB n nl ns L Ls F T S Z = false := by simp [rightB, h]
theorem rightB_row {i : Nat} (hi : i < n) (h : Ls i ≠ L i ∨ withinB (L i) (S i) (Z i) = false) : rightB n nl ns L Ls F T S Z = false := by
  cases hs : rightB n nl ns L Ls F T S Z with
  | false => rfl
  | true =>
    simp only [rightB, Bool.and_eq_true, decide_eq_true_eq] at hs
    obtain ⟨h1, h2⟩ := hs.1.2 i hi
    rcases h with h | h
    · exact absurd h1 h
    · rw [h2] at h; cases h
theorem rightB_con {c : Nat} (hc : c < nl) (h : withinB (Ls (T c).toNat) (Z (T c).toNat) (Z (F c).toNat) = false) : rightB n nl ns L Ls F T S Z = false := by
  cases hs : rightB n nl ns L Ls F T S Z with
  | false => rfl
  | true =>
    simp only [rightB, Bool.and_eq_true, decide_eq_true_eq] at hs
    rw [hs.2 c hc] at h
    cases h
theorem rightB_all (h1 : ns = n) (h2 : ∀ i, i < n → Ls i = L i ∧ withinB (L i) (S i) (Z i) = true) (h3 : ∀ c, c < nl → withinB (Ls (T c).toNat) (Z (T c).toNat) (Z (F c).toNat) = true) : rightB n nl ns L Ls F T S Z = true := by
  simp only [rightB, Bool.and_eq_true, decide_eq_true_eq]
  exact ⟨⟨h1, h2⟩, h3⟩
end

set_option maxRecDepth 100000 in
set_option maxHeartbeats 4000000 in
theorem right_any (A A' A2 : Option Addr) (n nl ns c c' c2 : Nat) (L Ls : Nat → Nat) (S Z : Nat → Nat → Bool) (F T N Y : Nat → Int) (w : World) (hn : n ≤ 592) (hl : nl ≤ 1152) (hs : ns ≤ maxLen) (hL : ∀ i, i < n → L i = L 0) (h6 : ∀ i, i < n → L i ≤ 600) (hF : Fit n nl F T)
    (hX : Sets w A n L S) (hY : Cons w A' nl F T N Y) (hZ : Sets w A2 ns Ls Z) :
    Calls Try.prog 16 #[.slice A n c, .slice A' nl c', .slice A2 ns c2] w (Ret w (.bool (rightB n nl ns L Ls F T S Z))) := by
  unfold maxLen at hs
  by_cases h1 : ns = n
  · subst h1
    have q1 : ((ns : Int) != ns) = false := by simp
    have HX := Lib.hid hX
    have HY := Lib.hid hY
    have HZ := Lib.hid hZ
    have HL := Lib.hid hL
    have HF := Lib.hid hF
    have H6 := Lib.hid h6
    clear hX hY hZ hL hF h6
    go_enter Try.func16, Try.ntmps16
    go_wp2
    go_loopw [7] (fun v wr => ∃ i : Nat, i ≤ ns ∧ v = .int .i64 i ∧ (∀ j, j < i → Ls j = L j ∧ withinB (L j) (S j) (Z j) = true) ∧ Below w.heap.size w wr) (fun v _ => ns - (intOf v).toNat)
    case atStart => exact ⟨0, by omega, rfl, fun j hj => by omega, Below.refl _ _⟩
    case round =>
      obtain ⟨i, hi, rfl, hok, hB⟩ := hrel
      have Hok := Lib.hid hok
      clear hok
      have hz := hB.size
      by_cases hlt : i < ns
      · have hdi : decide ((i : Int) < ns) = true := by simp; omega
        obtain ⟨b, off, rfl, hb, hc⟩ := HX.out (by omega)
        obtain ⟨b2, off2, rfl, hb2, hc2⟩ := HZ.out (by omega)
        obtain ⟨R, C, e0, hl0, hX0⟩ := hc i hlt
        obtain ⟨R2, C2, e1, hl1, hX1⟩ := hc2 i hlt
        have d0 := Later.cell ((hB.cell (p := ⟨b, _, none⟩) hb).trans e0) (by omega)
        have d1 := Later.cell ((hB.cell (p := ⟨b2, _, none⟩) hb2).trans e1) (by omega)
        have E0 := Lib.hid e0
        have E1 := Lib.hid e1
        have HX0 := Lib.hid hX0
        have HX1 := Lib.hid hX1
        have h600 := H6.out i hlt
        clear hc hc2 e0 e1 hX0 hX1
        by_cases hln : Ls i = L i
        · have q2 : ((Ls i : Int) != L i) = false := by simp; omega
          have HLN := Lib.hid hln
          clear hln
          go_wp2
          refine wp_region_later (by kernel_rfl) (by kernel_rfl) ?_
          repeat go_big_quiet_step (fail)
          refine wpQuiet_nil ?_
          rintro _ ⟨x, rfl⟩
          have hBx : Below w.heap.size w x.wd := hB.trans (x.below.mono hB.size)
          clear d0 d1
          obtain ⟨wo, ho⟩ : ∃ wo : World, wo = x.wd := ⟨_, rfl⟩
          rw [← ho] at hBx ⊢
          clear ho
          go_wp2
          go_loopw [8] (fun v wr => ∃ k : Nat, k ≤ L i ∧ v = .int .i64 k ∧ (∀ j, j < k → S i j = true → Z i j = true) ∧ Below w.heap.size w wr) (fun v _ => L i - (intOf v).toNat)
          case atStart => exact ⟨0, by omega, rfl, fun j hj => by omega, hBx⟩
          case round =>
            obtain ⟨k, hk, rfl, hok, hB2⟩ := hrel
            have Hok2 := Lib.hid hok
            clear hok
            have hz2 := hB2.size
            have c0 := (hB2.cell (p := ⟨b, _, none⟩) hb).trans E0.out
            have c1 := (hB2.cell (p := ⟨b2, _, none⟩) hb2).trans E1.out
            rw [HLN.out] at c1
            by_cases hlk : k < L i
            · have hdk : decide ((k : Int) < L i) = true := by simp; omega
              obtain ⟨bb, oo, rfl, hbb, hcc⟩ := HX0.out (by omega)
              obtain ⟨bb2, oo2, rfl, hbb2, hcc2⟩ := HX1.out (by rw [HLN.out]; omega)
              have c3 := (hB2.cell (p := ⟨bb, _, none⟩) hbb).trans (hcc k hlk)
              have c4 := (hB2.cell (p := ⟨bb2, _, none⟩) hbb2).trans (hcc2 k (by rw [HLN.out]; omega))
              clear hcc hcc2
              by_cases he : S i k = true → Z i k = true
              · have Hs := Lib.hid (show ∀ j, j < k + 1 → S i j = true → Z i j = true from by
                  intro j hj
                  rcases Nat.lt_or_eq_of_le (Nat.le_of_lt_succ hj) with h' | rfl
                  · exact Hok2.out j h'
                  · exact he)
                have q2 : S i k = false ∨ S i k = true ∧ Z i k = true := by cases hx : S i k <;> simp_all
                clear he
                rcases q2 with q2 | ⟨q2, q3⟩
                · rw [q2] at c3
                  clear q2
                  go_wp2
                  go_roundw
                  case rel => exact ⟨k + 1, by omega, by go_num, Hs.out, hB2⟩
                  case measure => simp [intOf]; omega
                · rw [q2] at c3
                  rw [q3] at c4
                  clear q2 q3
                  go_wp2
                  go_roundw
                  case rel => exact ⟨k + 1, by omega, by go_num, Hs.out, hB2⟩
                  case measure => simp [intOf]; omega
              · have q2 : S i k = true ∧ Z i k = false := by cases hx : S i k <;> cases hy : Z i k <;> simp_all
                obtain ⟨q2, q3⟩ := q2
                have H := Lib.hid (rightB_row (nl := nl) (ns := ns) (L := L) (Ls := Ls) (F := F) (T := T) (S := S) (Z := Z) hlt (.inr (withinB_not hlk q2 q3)))
                rw [q2] at c3
                rw [q3] at c4
                clear he q2 q3
                go_wp2
                go_ret
                rw [H.out]
                exact ⟨rfl, hB2⟩
            · have : k = L i := by omega
              have Hs := Lib.hid (show ∀ j, j < i + 1 → Ls j = L j ∧ withinB (L j) (S j) (Z j) = true from by
                intro j hj
                rcases Nat.lt_or_eq_of_le (Nat.le_of_lt_succ hj) with h' | rfl
                · exact Hok.out j h'
                · exact ⟨HLN.out, by simp only [withinB, decide_eq_true_eq]; rw [← this]; exact Hok2.out⟩)
              rw [this]
              clear this hlk
              have hdk : decide ((L i : Int) < L i) = false := by simp
              go_wp2
              go_roundw
              case rel => exact ⟨i + 1, by omega, by go_num, Hs.out, hB2⟩
              case measure => simp [intOf]; omega
        · have q2 : ((Ls i : Int) != L i) = true := by simp; omega
          have H := Lib.hid (rightB_row (nl := nl) (ns := ns) (L := L) (Ls := Ls) (F := F) (T := T) (S := S) (Z := Z) hlt (.inl hln))
          clear hln
          go_wp2
          refine wp_region_later (by kernel_rfl) (by kernel_rfl) ?_
          repeat go_big_quiet_step (fail)
          refine wpQuiet_nil ?_
          rintro _ ⟨x, rfl⟩
          go_wp2
          go_ret
          rw [H.out]
          exact ⟨rfl, hB.trans (x.below.mono hB.size)⟩
      · have : i = ns := by omega
        subst this
        have hdi : decide ((i : Int) < i) = false := by simp
        clear hlt
        obtain ⟨wo, ho⟩ : ∃ wo : World, wo = wr := ⟨_, rfl⟩
        subst ho
        go_wp2
        go_loopw [9] (fun v wr => ∃ k : Nat, k ≤ nl ∧ v = .int .i64 k ∧ (∀ c, c < k → withinB (Ls (T c).toNat) (Z (T c).toNat) (Z (F c).toNat) = true) ∧ Below w.heap.size w wr) (fun v _ => nl - (intOf v).toNat)
        case atStart => exact ⟨0, by omega, rfl, fun j hj => by omega, hB⟩
        case round =>
          obtain ⟨k, hk, rfl, hok, hB⟩ := hrel
          have Hok2 := Lib.hid hok
          clear hok
          have hz := hB.size
          by_cases hlk : k < nl
          · have hdk : decide ((k : Int) < nl) = true := by simp; omega
            obtain ⟨b, off, rfl, hb, hc⟩ := HY.out (by omega)
            obtain ⟨e0, e1, _, _⟩ := hc k hlk
            obtain ⟨g1, g2, g3, g4⟩ := HF.out k hlk
            obtain ⟨f, hf⟩ : ∃ f : Nat, F k = f := ⟨(F k).toNat, by omega⟩
            obtain ⟨t, ht⟩ : ∃ t : Nat, T k = t := ⟨(T k).toNat, by omega⟩
            rw [hf] at e0 g2
            rw [ht] at e1 g4
            have hfi : f < i := by omega
            have hti : t < i := by omega
            obtain ⟨b2, off2, rfl, hb2, hc2⟩ := HZ.out (by omega)
            obtain ⟨R, C, e3, hl0, hX0⟩ := hc2 f hfi
            obtain ⟨R2, C2, e4, hl1, hX1⟩ := hc2 t hti
            have d0 := Later.cell ((hB.cell (p := ⟨b, _, none⟩) hb).trans e0) (by omega)
            have d1 := Later.cell ((hB.cell (p := ⟨b, _, none⟩) hb).trans e1) (by omega)
            have d2 := Later.cell ((hB.cell (p := ⟨b2, _, none⟩) hb2).trans e3) (by omega)
            have d3 := Later.cell ((hB.cell (p := ⟨b2, _, none⟩) hb2).trans e4) (by omega)
            have C0 := Lib.hid fun y => rwithin_any _ _ _ _ C2 C _ _ _ hl1 hl0 ((hX1.below' hB).later y) ((hX0.below' hB).later y)
            have hLt : Ls t = L t ∧ Ls f = L t ∧ Ls t ≤ 600 := by
              have y1 := (Hok.out t hti).1
              have y2 := (Hok.out f hfi).1
              have y3 := HL.out t hti
              have y4 := HL.out f hfi
              have y5 := H6.out t hti
              omega
            have HW : Hid (wiB (Ls t) (Ls f) (Z t) (Z f) = withinB (Ls (T k).toNat) (Z (T k).toNat) (Z (F k).toNat)) := by
              rw [hf, ht, hLt.2.1, ← hLt.1, wiB, wiE_ok hLt.2.2]
              simp
              exact trivial
            clear hc hc2 e0 e1 e3 e4 hX0 hX1 hLt hf ht g1 g2 g3 g4
            rcases Bool.eq_false_or_eq_true (withinB (Ls (T k).toNat) (Z (T k).toNat) (Z (F k).toNat)) with he | he
            · have C1 := C0.out
              rw [HW.out, he] at C1
              have D1 := Lib.hid C1
              have Hs := Lib.hid (show ∀ c, c < k + 1 → withinB (Ls (T c).toNat) (Z (T c).toNat) (Z (F c).toNat) = true from by
                intro j hj
                rcases Nat.lt_or_eq_of_le (Nat.le_of_lt_succ hj) with h' | rfl
                · exact Hok2.out j h'
                · exact he)
              clear he C1 C0 HW
              go_wp2
              refine wp_region_later (by kernel_rfl) (by kernel_rfl) ?_
              repeat go_big_quiet_step (((go_at_call 17; exact Later.call (D1.out _))))
              refine wpQuiet_nil ?_
              rintro _ ⟨x, rfl⟩
              go_wp2
              go_roundw
              case rel => exact ⟨k + 1, by omega, by go_num, Hs.out, hB.trans (x.below.mono hB.size)⟩
              case measure => simp [intOf]; omega
            · have C1 := C0.out
              rw [HW.out, he] at C1
              have D1 := Lib.hid C1
              have H := Lib.hid (rightB_con (n := i) (ns := i) (L := L) (S := S) hlk he)
              clear he C1 C0 HW
              go_wp2
              refine wp_region_later (by kernel_rfl) (by kernel_rfl) ?_
              repeat go_big_quiet_step (((go_at_call 17; exact Later.call (D1.out _))))
              refine wpQuiet_nil ?_
              rintro _ ⟨x, rfl⟩
              go_wp2
              go_ret
              rw [H.out]
              exact ⟨rfl, hB.trans (x.below.mono hB.size)⟩
          · have : k = nl := by omega
            subst this
            have hdk : decide ((k : Int) < k) = false := by simp
            have H := Lib.hid (rightB_all (L := L) (S := S) (F := F) (T := T) rfl Hok.out Hok2.out)
            clear hlk
            go_wp2
            go_ret
            rw [H.out]
            exact ⟨rfl, hB⟩
  · have H := Lib.hid (rightB_ns (nl := nl) (L := L) (Ls := Ls) (F := F) (T := T) (S := S) (Z := Z) h1)
    have q1 : ((ns : Int) != n) = true := by simp; omega
    clear h1
    go_enter Try.func16, Try.ntmps16
    go_wp2
    go_ret
    rw [H.out]
    exact ⟨rfl, (by repeat (first | exact Below.refl _ _ | (refine Below.setCell ?_ (by first | omega | (simp; done) | (simp; omega)) _) | (refine Below.alloc ?_ (by first | omega | (simp; done) | (simp; omega)) _) | refine Below.drew ?_))⟩

end Go.Proofs.Ytcdbaoejakcemaa
