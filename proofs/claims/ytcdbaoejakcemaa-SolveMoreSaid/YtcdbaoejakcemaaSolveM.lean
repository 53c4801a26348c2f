/- Layer 20, the reference: Solved. No condition. -/
import Derived.Test.YtcdbaoejakcemaaSolveL
import Derived.BigRegion
namespace Go.Proofs.Ytcdbaoejakcemaa
open Go.RowKit

/-- What has been put together so far: the regions before i, and of i the rows before k, and of the row k the points before j. -/
def PX (n m nl : Nat) (F T : Nat → Int) (S : Nat → Nat → Bool) (i k j : Nat) (X : Nat → Nat → Bool) : Prop :=
  ∀ a, a < n → ∀ b, b < m → (X a b = true ↔ (∃ i', i' < i ∧ Leads nl F T i' a ∧ S i' b = true) ∨ ((a < k ∨ a = k ∧ b < j) ∧ Leads nl F T i a ∧ S i b = true))
section
variable {n m nl : Nat} {F T : Nat → Int} {S X : Nat → Nat → Bool} {i k j : Nat}
theorem PX.start : PX n m nl F T S 0 0 0 (fun _ _ => false) := by
  intro a _ b _
  constructor
  · intro h; cases h
  · rintro (⟨i', h, _⟩ | ⟨h | ⟨_, h⟩, _⟩) <;> omega
theorem PX.step (h : PX n m nl F T S i k j X) (hk : k < n) (hj : j < m) (hl : Leads nl F T i k) : PX n m nl F T S i k (j + 1) (setAt X k (upd (X k) j (X k j || S i j))) := by
  intro a ha b hb
  have h0 := h a ha b hb
  by_cases e : a = k
  · subst e
    rw [setAt_at]
    by_cases e2 : b = j
    · subst e2
      rw [upd_at, Bool.or_eq_true, h0]
      constructor
      · rintro ((h1 | ⟨h1, h2, h3⟩) | h1)
        · exact .inl h1
        · omega
        · exact .inr ⟨.inr ⟨rfl, by omega⟩, hl, h1⟩
      · rintro (h1 | ⟨_, _, h3⟩)
        · exact .inl (.inl h1)
        · exact .inr h3
    · rw [upd_ne e2, h0]
      constructor
      · rintro (h1 | ⟨h1, h2, h3⟩)
        · exact .inl h1
        · exact .inr ⟨.inr ⟨rfl, by omega⟩, h2, h3⟩
      · rintro (h1 | ⟨h1, h2, h3⟩)
        · exact .inl h1
        · exact .inr ⟨.inr ⟨rfl, by omega⟩, h2, h3⟩
  · rw [setAt_ne e, h0]
    constructor
    · rintro (h1 | ⟨h1, h2, h3⟩)
      · exact .inl h1
      · exact .inr ⟨by omega, h2, h3⟩
    · rintro (h1 | ⟨h1, h2, h3⟩)
      · exact .inl h1
      · exact .inr ⟨by omega, h2, h3⟩
theorem PX.row (h : PX n m nl F T S i k j X) (hj : j = m ∨ ¬ Leads nl F T i k) : PX n m nl F T S i (k + 1) 0 X := by
  intro a ha b hb
  rw [h a ha b hb]
  constructor
  · rintro (h1 | ⟨h1, h2, h3⟩)
    · exact .inl h1
    · exact .inr ⟨by omega, h2, h3⟩
  · rintro (h1 | ⟨h1, h2, h3⟩)
    · exact .inl h1
    · rcases hj with hj | hj
      · exact .inr ⟨by omega, h2, h3⟩
      · by_cases e : a = k
        · subst e; exact absurd h2 hj
        · exact .inr ⟨by omega, h2, h3⟩
theorem PX.done (h : PX n m nl F T S i n 0 X) : PX n m nl F T S (i + 1) 0 0 X := by
  intro a ha b hb
  rw [h a ha b hb]
  constructor
  · rintro (⟨i', h1, h2⟩ | ⟨_, h2⟩)
    · exact .inl ⟨i', by omega, h2⟩
    · exact .inl ⟨i, by omega, h2⟩
  · rintro (⟨i', h1, h2⟩ | ⟨h1, h2⟩)
    · rcases Nat.lt_or_eq_of_le (Nat.le_of_lt_succ h1) with h3 | rfl
      · exact .inl ⟨i', h3, h2⟩
      · exact .inr ⟨by omega, h2⟩
    · omega
theorem PX.sol (h : PX n m nl F T S n 0 0 X) : IsSol n m nl F T S X := by
  intro a ha b hb
  rw [h a ha b hb]
  constructor
  · rintro (h1 | ⟨h1, _⟩)
    · exact h1
    · omega
  · exact fun h1 => .inl h1
end

set_option maxRecDepth 100000 in
set_option maxHeartbeats 4000000 in
theorem solved_any (A A' : Option Addr) (n nl c c' : Nat) (L : Nat → Nat) (S : Nat → Nat → Bool) (F T N Y : Nat → Int) (w : World) (hn : n ≤ 592) (hl : nl ≤ 1152) (hL : ∀ i, i < n → L i = L 0) (h6 : ∀ i, i < n → L i ≤ 600) (hF : Fit n nl F T)
    (hX : Sets w A n L S) (hY : Cons w A' nl F T N Y) :
    Calls Try.prog 21 #[.slice A n c, .slice A' nl c'] w (OwnSets w n L (IsSol n (L 0) nl F T S)) := by
  have HX := Lib.hid hX
  have HY := Lib.hid hY
  have HL := Lib.hid hL
  have HF := Lib.hid hF
  have H6 := Lib.hid h6
  clear hX hY hL hF h6
  obtain ⟨i1, hi1, hy0, hy1, hy2⟩ := info_parts slice_info
  go_enter Try.func21, Try.ntmps21
  go_wp2
  go_loopw [5, 6] (fun u v wr => ∃ (i : Nat) (V : Nat → Value), i ≤ n ∧ v = .int .i64 i ∧ OS wr w.heap.size u i V L (fun _ _ => false) ∧ Below w.heap.size w wr) (fun _ v _ => n - (intOf v).toNat)
  case atStart => exact ⟨0, fun _ => .slice none 0 0, by omega, rfl, Own2.none_ _ _ slice_bool_ne, Below.refl _ _⟩
  case round =>
    obtain ⟨i, V, hi, rfl, hO, hB⟩ := hrel
    have hz := hB.size
    by_cases hlt : i < n
    · have hdi : decide ((i : Int) < n) = true := by simp; omega
      obtain ⟨b, off, rfl, hb, hc⟩ := HX.out (by omega)
      obtain ⟨R, C, e0, hl0, hX0⟩ := hc i hlt
      have c0 := (hB.cell (p := ⟨b, _, none⟩) hb).trans e0
      have hl6 := H6.out i hlt
      have hbz : b < wr.heap.size := by omega
      have HO := Lib.hid hO
      have hmk := make_bools (P := Try.prog) rfl (L i) (by omega)
      have HW1 := Lib.hid (OB.made (B := wr.heap.size) wr (L i) (Nat.le_refl _) (by simp only [maxLen]; omega))
      have hB1 : Below wr.heap.size wr (wr.alloc (.cells (madeCells #[.bool false] (L i)) 4)) := (Below.refl _ _).alloc (Nat.le_refl _) _
      clear hc HX e0 hX0 hO
      go_wp2_with (first
        | (at_builtin
           refine wpList_append_any _ rfl (.tmp 17) (.tmp 24) _ rfl w.heap.size 40 i1 _ 1 24 Try.underlying22 hi1 hy0 hy1 hy2 rfl (by omega) _ _ _ rfl ((HO.out.alloc _).alloc _).top
             (wr.heap.size + 2) (some ⟨_, 0, none⟩) 1 1 [.slice (some ⟨wr.heap.size, 0, none⟩) (L i) (L i)] rfl (one_row (by simp) (by omega)) (slice_one _ _ _) (by simp only [maxLen]; omega) (by omega) (by first | omega | (simp; done) | (simp; omega)) ?_
           intro v2 w2 hown2 hg2 hat2
           have HO2 := Lib.hid (HO.out.push (grown_below (hB1.alloc (by simp) (.cells #[.slice (some ⟨wr.heap.size, 0, none⟩) (L i) (L i)] 40))) (own_mono (HW1.out.alloc _) hz) (fun k hk => (World.ownsRow.lt HW1.out k hk).1) hg2 hown2)
           have hB2 : Below w.heap.size w w2 := ((hB.trans (hB1.mono hz)).alloc (by simp; omega) _).grown hg2 (by first | omega | (simp; done) | (simp; omega)) (fun g hg => (HO.out.top.lt g hg).1)
           clear hown2 hg2 hat2 hi1 hy0 hy1 hy2)
        | fail)
      go_roundw
      case rel => exact ⟨i + 1, _, by omega, by go_num, HO2.out.congr2 (fun j hj => by
        by_cases e : j = i
        · subst e; rw [setAt_at, setAt_at]; exact ⟨rfl, rfl⟩
        · rw [setAt_ne e, setAt_ne e]; exact ⟨rfl, rfl⟩), hB2⟩
      case measure => simp [intOf]; omega
    · have : i = n := by omega
      subst this
      have hdi : decide ((i : Int) < i) = false := by simp
      have HO := Lib.hid hO
      clear hlt hO hi1 hy0 hy1 hy2
      obtain ⟨wo, ho⟩ : ∃ wo : World, wo = wr := ⟨_, rfl⟩
      rw [← ho] at hB hz HO ⊢
      clear ho
      go_wp2
      go_loopw [7] (fun v wr => ∃ (a : Nat) (X : Nat → Nat → Bool), a ≤ i ∧ v = .int .i64 a ∧ OS wr w.heap.size u5 i V L X ∧ PX i (L 0) nl F T S a 0 0 X ∧ wo.heap.size ≤ wr.heap.size ∧ Below w.heap.size w wr) (fun v _ => i - (intOf v).toNat)
      case atStart => exact ⟨0, _, by omega, rfl, HO.out, PX.start, Nat.le_refl _, hB⟩
      case round =>
        obtain ⟨a, X, ha, rfl, hO, hP, hQ, hB⟩ := hrel
        have hz := hB.size
        have HO2 := Lib.hid hO
        have HP2 := Lib.hid hP
        clear hO hP
        by_cases hlt : a < i
        · have hda : decide ((a : Int) < i) = true := by simp; omega
          have HV := Lib.hid (fun k (hk : k < i) b (hb : (V k).ownBlock = some b) => ((HO.out.row k hk).lt b hb).2)
          obtain ⟨g0, c0, hu5, _⟩ := Own2.at_ HO.out hlt
          subst hu5
          clear HO
          go_wp2_with fail
          refine (leads_any A' i nl c' a F T N Y _ hn hl hlt HF.out (HY.out.below' hB)).mono ?_
          rintro e w1 ⟨g, cg, Z, rfl, hZ, hlead, hb1⟩
          have hB1 : Below w.heap.size w w1 := Below.call hB hb1
          have hz1 := hb1.size
          have HO1 := Lib.hid (Own2.below HO2.out hb1)
          have HZ1 := Lib.hid (own_mono hZ hQ)
          have HLD := Lib.hid hlead
          clear hZ hlead hb1 HO2
          go_wp2
          go_loopw [9] (fun v wr => ∃ (k : Nat) (X : Nat → Nat → Bool), k ≤ i ∧ v = .int .i64 k ∧ OS wr w.heap.size (.slice (some ⟨g0, 0, none⟩) i c0) i V L X ∧ PX i (L 0) nl F T S a k 0 X ∧ OB wr wo.heap.size g i cg Z ∧ wo.heap.size ≤ wr.heap.size ∧ Below w.heap.size w wr) (fun v _ => i - (intOf v).toNat)
          case atStart => exact ⟨0, X, by omega, rfl, HO1.out, HP2.out, HZ1.out, by omega, hB1⟩
          case round =>
            obtain ⟨k, X3, hk, rfl, hO3, hP3, hZ3, hQ3, hB3⟩ := hrel
            have hz3 := hB3.size
            have HO3 := Lib.hid hO3
            have HP3 := Lib.hid hP3
            have HZ3 := Lib.hid hZ3
            clear hO3 hP3 hZ3 HO1 HZ1 HP2
            by_cases hlk : k < i
            · have hdk : decide ((k : Int) < i) = true := by simp; omega
              obtain ⟨w3, hw3⟩ : ∃ w3 : World, w3 = wr := ⟨_, rfl⟩
              rw [← hw3] at hB3 hz3 HO3 HZ3 hQ3 ⊢
              clear hw3
              go_wp2
              go_loopw [10] (fun v wr => ∃ (j : Nat) (X : Nat → Nat → Bool), j ≤ L a ∧ v = .int .i64 j ∧ OS wr w.heap.size (.slice (some ⟨g0, 0, none⟩) i c0) i V L X ∧ PX i (L 0) nl F T S a k j X ∧ OB wr wo.heap.size g i cg Z ∧ wo.heap.size ≤ wr.heap.size ∧ Below w.heap.size w wr) (fun v _ => L a - (intOf v).toNat)
              case atStart => exact ⟨0, X3, by omega, rfl, HO3.out, HP3.out, HZ3.out, hQ3, hB3⟩
              case round =>
                obtain ⟨j, X4, hj, rfl, hO4, hP4, hZ4, hQ4, hB4⟩ := hrel
                have hz4 := hB4.size
                have HO4 := Lib.hid hO4
                have HP4 := Lib.hid hP4
                have HZ4 := Lib.hid hZ4
                clear hO4 hP4 hZ4 HO3 HP3 HZ3
                obtain ⟨b, off, rfl, hb, hc⟩ := HX.out (by omega)
                obtain ⟨R, C, e0, hl0, hX0⟩ := hc a hlt
                have c1 := (hB4.cell (p := ⟨b, _, none⟩) hb).trans e0
                have c2 := HZ4.out.cell hlk
                have HX0 := Lib.hid hX0
                have h600 := H6.out a hlt
                clear hc e0 hX0
                by_cases hlj : j < L a
                · have hdj : decide ((j : Int) < L a) = true := by simp; omega
                  rcases Bool.eq_false_or_eq_true (Z k) with hzk | hzk
                  · have HLk := Lib.hid ((HLD.out k hlk).1 hzk)
                    rw [hzk] at c2
                    clear hzk
                    have hlak : L k = L a := by rw [HL.out k hlk, HL.out a hlt]
                    have hjk : j < L k := by omega
                    have hj0 : j < L 0 := by have := HL.out k hlk; omega
                    obtain ⟨bb, oo, rfl, hbb, hcc⟩ := HX0.out (by omega)
                    have c3 := (hB4.cell (p := ⟨bb, _, none⟩) hbb).trans (hcc j hlj)
                    obtain ⟨r, cr, hV, hr1, hr2, _, _⟩ := own_form (HO4.out.row k hlk) (by omega)
                    have hOB : OB wr w.heap.size r (L k) cr (X4 k) := by
                      have := HO4.out.row k hlk
                      rw [hV] at this
                      exact this
                    have c4 := hOB.cell hjk
                    have f4 := hOB.frozen j
                    have hst := fun (bv : Bool) => (World.ownsRow.stored hOB j (.bool bv)).2
                    have hset := fun (bv : Bool) => hOB.set j bv
                    obtain ⟨g', c'', e1, c5, _⟩ := Own2.at_ HO4.out hlk
                    cases e1
                    rw [hV] at c5
                    have hrg : r < wo.heap.size := HV.out k hlk r (by rw [hV]; rfl)
                    have hgg := HZ4.out.lt
                    have KEY : ∀ bv, bv = (X4 k j || S a j) → OS (wr.setCell ⟨r, j, none⟩ (.bool bv)) w.heap.size (.slice (some ⟨g0, 0, none⟩) i c0) i V L (setAt X4 k (upd (X4 k) j (X4 k j || S a j))) ∧
                        OB (wr.setCell ⟨r, j, none⟩ (.bool bv)) wo.heap.size g i cg Z ∧ Below w.heap.size w (wr.setCell ⟨r, j, none⟩ (.bool bv)) := by
                      intro bv hbv
                      refine ⟨?_, HZ4.out.kept (hst bv) (by intro q; injection q with q; omega), hB4.setCell hr1 _⟩
                      refine (Own2.turn HO4.out hlk (by rw [hV]; exact hst bv) (ys := bl (L k) (upd (X4 k) j bv)) (by rw [hV]; exact hset bv)).congr fun x hx => ?_
                      by_cases e : x = k
                      · subst e; rw [setAt_at, setAt_at, hbv]
                      · rw [setAt_ne e, setAt_ne e]
                    have HPs := Lib.hid (HP4.out.step hlk hj0 HLk.out)
                    clear hV hcc hOB HX0 hst hset
                    rcases Bool.eq_false_or_eq_true (X4 k j) with hx | hx
                    · have K := Lib.hid (KEY true (by simp [hx]))
                      rw [hx] at c4
                      have hsz : (wr.setCell ⟨r, j, none⟩ (.bool true)).heap.size = wr.heap.size := by simp [World.setCell]
                      have HSZ := Lib.hid hsz
                      clear KEY hx hsz
                      go_wp2
                      go_region
                      go_wp2
                      go_roundw
                      case rel => exact ⟨j + 1, _, by omega, by go_num, Own2.drew K.out.1, HPs.out, K.out.2.1.drew, by have := HSZ.out; simp only [World.drew]; simpa using (by omega : wo.heap.size ≤ (wr.setCell ⟨r, j, none⟩ (.bool true)).heap.size), K.out.2.2.drew⟩
                      case measure => simp [intOf]; omega
                    · have K := Lib.hid (KEY (S a j) (by simp [hx]))
                      rw [hx] at c4
                      have hsz : (wr.setCell ⟨r, j, none⟩ (.bool (S a j))).heap.size = wr.heap.size := by simp [World.setCell]
                      have HSZ := Lib.hid hsz
                      clear KEY hx hsz
                      go_wp2
                      go_region
                      go_wp2
                      go_roundw
                      case rel => exact ⟨j + 1, _, by omega, by go_num, Own2.drew K.out.1, HPs.out, K.out.2.1.drew, by have := HSZ.out; simp only [World.drew]; simpa using (by omega : wo.heap.size ≤ (wr.setCell ⟨r, j, none⟩ (.bool (S a j))).heap.size), K.out.2.2.drew⟩
                      case measure => simp [intOf]; omega
                  · have hnl : ¬ Leads nl F T a k := fun h => by rw [(HLD.out k hlk).2 h] at hzk; cases hzk
                    have HP5 := Lib.hid (HP4.out.row (.inr hnl))
                    rw [hzk] at c2
                    clear hnl hzk
                    go_wp2
                    go_roundw
                    case rel => exact ⟨k + 1, X4, by omega, by go_num, HO4.out, HP5.out, HZ4.out, hQ4, hB4⟩
                    case measure => simp [intOf]; omega
                · have hje : j = L a := by omega
                  have HP5 := Lib.hid (HP4.out.row (.inl (by rw [hje, HL.out a hlt])))
                  subst hje
                  have hdj : decide ((L a : Int) < L a) = false := by simp
                  clear hlj
                  go_wp2
                  go_roundw
                  case rel => exact ⟨k + 1, X4, by omega, by go_num, HO4.out, HP5.out, HZ4.out, hQ4, hB4⟩
                  case measure => simp [intOf]; omega
            · have : k = i := by omega
              subst this
              have hdk : decide ((k : Int) < k) = false := by simp
              clear hlk
              go_wp2
              go_roundw
              case rel => exact ⟨a + 1, X3, by omega, by go_num, HO3.out, HP3.out.done, hQ3, hB3⟩
              case measure => simp [intOf]; omega
        · have : a = i := by omega
          subst this
          have hda : decide ((a : Int) < a) = false := by simp
          clear hlt HO
          go_wp2
          go_ret
          exact ⟨u5, V, X, rfl, HO2.out, HP2.out.sol, hB⟩

end Go.Proofs.Ytcdbaoejakcemaa
