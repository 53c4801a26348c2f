/- Texts joined: SolveC2 SolveG SolveH SolveP SolveQ. No condition. -/
import Derived.Test.YtmceonmlgcbcmaaGreatS1
import Derived.Test.YtmceonmlgcbcmaaGreatS2
import Derived.Test.YtmceonmlgcbcmaaGreatSolveO
/- Layer 18: counting; sizes; sets within sets. No condition. -/
namespace Go.Proofs.YtmceonmlgcbcmaaGreat
open Go.RowKit
set_option linter.unusedVariables false
set_option linter.unusedSimpArgs false
set_option maxHeartbeats 2000000 in
theorem counted_any (A A' : Option Addr) (n c c' : Nat) (X Y : Nat → Bool) (w : World) (hn : n ≤ 600) (hX : Bits w A n X) (hY : Bits w A' n Y) :
 Calls Tryz.prog 84 #[.slice A n c, .slice A' n c', .int .i64 2] w (SetRet w n (fun j => X j && Y j)) := by
 have hm : n ≤ maxLen := by unfold maxLen; omega
 have C1 := fun W => rptscheck_any A A' n n c c' W hm hm
 rw [wiE_ok hn] at C1
 have D1 := Lib.hid C1
 have HX := Lib.hid hX
 have HY := Lib.hid hY
 clear hX hY C1
 obtain ⟨i0, hi0, hz0, hz1, hz2⟩ := info_parts bool_info
 go_enter Tryz.func84, Tryz.ntmps84
 go_wp2_with fail
 refine (D1.out _).mono ?_
 rintro e w1 ⟨rfl, hb1⟩
 have hB1 : Below w.heap.size w w1 := Below.call (by repeat (first | exact Below.refl _ _ | (refine Below.setCell ?_ (by first | omega | (simp; done) | (simp; omega)) _) | (refine Below.alloc ?_ (by first | omega | (simp; done) | (simp; omega)) _) | refine Below.drew ?_)) hb1
 have hS1 : w.heap.size ≤ w1.heap.size := hB1.size
 obtain ⟨hc1, hf1⟩ := bcell hb1
 clear hc1 hf1 D1
 go_wp2
 go_loopw [8, 9] (fun v t wr => ∃ i : Nat, i ≤ n ∧ t = .int .i64 i ∧ wr.ownsRow w.heap.size 4 1 v i (bl i fun j => X j && Y j) ∧ Below w.heap.size w wr) (fun _ v _ => n - (intOf v).toNat)
 case atStart => exact ⟨0, by omega, rfl, World.ownsRow_nil _ _ _ _, hB1⟩
 case round =>
  obtain ⟨i, hi, rfl, hown, hB⟩ := hrel
  have hz := hB.size
  by_cases hlt : i < n
  · have hdi : decide ((i : Int) < n) = true := by simp; omega
    obtain ⟨b, off, rfl, hb, hc⟩ := HX.out (by omega)
    obtain ⟨b', off', rfl, hb', hc'⟩ := HY.out (by omega)
    have c0 := (hB.cell (p := ⟨b, _, none⟩) hb).trans (hc i hlt)
    have c1 := (hB.cell (p := ⟨b', _, none⟩) hb').trans (hc' i hlt)
    have HS := Lib.hid (bl_succ i fun j => X j && Y j)
    clear hc hc' HX HY
    rcases Bool.eq_false_or_eq_true (X i) with hx | hx <;> rcases Bool.eq_false_or_eq_true (Y i) with hy | hy <;> rw [hx] at c0 <;> rw [hy] at c1 <;> simp only [hx, hy, Bool.and_true, Bool.and_false, Bool.true_and, Bool.false_and] at HS <;> clear hx hy
    all_goals
     go_wp2_with (first
      | (at_builtin
         refine wpList_append_any _ rfl (.tmp 36) (.tmp 40) _ rfl w.heap.size 4 i0 _ 1 1 Tryz.underlying42 hi0 hz0 hz1 hz2 rfl (by omega) _ _ _ rfl (hown.alloc _) (wr.heap.size + 1) (some ⟨_, 0, none⟩) 1 1 [.bool _] rfl (one_row rfl (by omega)) (by simp [Value.oneCell']) (by unfold maxLen; omega) (by omega) (by first | omega | (simp; done) | (simp; omega)) ?_
         intro v1 w2 hown2 hg2 hat2
         have hB2 : Below w.heap.size w w2 := (hB.alloc (by omega) _).grown hg2 (by first | omega | (simp; done) | (simp; omega)) (fun g hg => (hown.lt g hg).1)
         rw [HS.out] at hown2
         clear hown hg2 hat2 hi0 hz0 hz1 hz2)
      | fail)
     go_roundw
     case rel => exact ⟨i + 1, by omega, by go_num, hown2, hB2⟩
     case measure => simp [intOf]; omega
  · have : i = n := by omega
    subst this
    have hdi : decide ((i : Int) < i) = false := by simp
    obtain ⟨A2, c2, rfl, hnc, hcm, hb2⟩ := bits_of_own hown
    have HB2 := Lib.hid hb2
    clear hlt hown hb2
    go_wp2
    go_ret2
    exact ⟨A2, c2, rfl, hm, HB2.out, hB⟩
set_option maxHeartbeats 400000 in
theorem sizeS_any (A : Option Addr) (n c : Nat) (X : Nat → Bool) (w : World) (hn : n ≤ maxLen) (hX : Bits w A n X) :
 Calls Tryz.prog 48 #[.slice A n c] w (Ret w (.int .i64 (cntS X n))) := by
 unfold maxLen at hn
 have HX := Lib.hid hX
 clear hX
 go_enter Tryz.func48, Tryz.ntmps48
 go_wp2
 go_loopw [3, 4] (fun v t wr => ∃ i : Nat, i ≤ n ∧ t = .int .i64 i ∧ v = .int .i64 (cntS X i : Nat) ∧ Below w.heap.size w wr) (fun _ v _ => n - (intOf v).toNat)
 case atStart => exact ⟨0, by omega, rfl, rfl, Below.refl _ _⟩
 case round =>
  obtain ⟨i, hi, rfl, rfl, hB⟩ := hrel
  have hz := hB.size
  have hcl := cntS_le X i
  by_cases hlt : i < n
  · have hdi : decide ((i : Int) < n) = true := by simp; omega
    obtain ⟨b, off, rfl, hb, hc⟩ := HX.out (by omega)
    have c0 := (hB.cell (p := ⟨b, _, none⟩) hb).trans (hc i hlt)
    have HS := Lib.hid (show cntS X (i + 1) = cntS X i + if X i = true then 1 else 0 from rfl)
    clear hc HX
    rcases Bool.eq_false_or_eq_true (X i) with hx | hx <;> rw [hx] at c0 <;> rw [hx] at HS <;> clear hx
    all_goals
     go_wp2
     go_roundw
     case rel => exact ⟨i + 1, by omega, by go_num, by rw [HS.out]; first | rfl | (simp; done), hB⟩
     case measure => simp [intOf]; omega
  · have : i = n := by omega
    subst this
    have hdi : decide ((i : Int) < i) = false := by simp
    clear hlt
    go_wp2
    go_ret
    exact ⟨rfl, hB⟩
theorem wiB_much {n m : Nat} {X Y : Nat → Bool} (h : wiE n m ≠ 0) : wiB n m X Y = false := by simp [wiB, h]
theorem wiB_cnt {n : Nat} {X Y : Nat → Bool} (h : n ≤ 600) : ((cntS (fun j => X j && Y j) n : Int) == cntS X n) = wiB n n X Y := by
 rw [wiB, wiE_ok h]
 rw [Bool.eq_iff_iff]
 simp only [beq_self_eq_true, Bool.true_and, withinB, decide_eq_true_eq]
 rw [← cnt_within]
 simp only [beq_iff_eq]
 omega
set_option maxHeartbeats 1000000 in
theorem countedE_any (A A' : Option Addr) (n m c c' : Nat) (w : World) (hn : n ≤ maxLen) (hm : m ≤ maxLen) (h : wiE n m ≠ 0) :
 Calls Tryz.prog 84 #[.slice A n c, .slice A' m c', .int .i64 2] w (Ret w (.tuple #[.slice none 0 0, .int .i64 (wiE n m)])) := by
 have D1 := Lib.hid fun W => rptscheck_any A A' n m c c' W hn hm
 have q1 : (wiE n m != 0) = true := by simpa using h
 clear h
 go_enter Tryz.func84, Tryz.ntmps84
 go_wp2_with fail
 refine (D1.out _).mono ?_
 rintro e w1 ⟨rfl, hb1⟩
 have hB1 : Below w.heap.size w w1 := Below.call (by repeat (first | exact Below.refl _ _ | (refine Below.setCell ?_ (by first | omega | (simp; done) | (simp; omega)) _) | (refine Below.alloc ?_ (by first | omega | (simp; done) | (simp; omega)) _) | refine Below.drew ?_)) hb1
 have hS1 : w.heap.size ≤ w1.heap.size := hB1.size
 obtain ⟨hc1, hf1⟩ := bcell hb1
 clear hc1 hf1
 go_wp2_with fail
 refine (D1.out _).mono ?_
 rintro e w2 ⟨rfl, hb2⟩
 have hB2 : Below w.heap.size w w2 := Below.call (by repeat (first | exact hB1 | exact Below.refl _ _ | (refine Below.setCell ?_ (by first | omega | (simp; done) | (simp; omega)) _) | (refine Below.alloc ?_ (by first | omega | (simp; done) | (simp; omega)) _) | refine Below.drew ?_)) hb2
 have hS2 : w.heap.size ≤ w2.heap.size := hB2.size
 obtain ⟨hc2, hf2⟩ := bcell hb2
 clear hc2 hf2
 go_wp2
 go_ret2
 exact ⟨rfl, (by repeat (first | exact hB2 | exact Below.refl _ _ | (refine Below.setCell ?_ (by first | omega | (simp; done) | (simp; omega)) _) | (refine Below.alloc ?_ (by first | omega | (simp; done) | (simp; omega)) _) | refine Below.drew ?_))⟩
set_option maxHeartbeats 1000000 in
theorem rwithin_any (A A' : Option Addr) (n m c c' : Nat) (X Y : Nat → Bool) (w : World) (hn : n ≤ maxLen) (hm : m ≤ maxLen) (hX : Bits w A n X) (hY : Bits w A' m Y) :
 Calls Tryz.prog 51 #[.slice A n c, .slice A' m c'] w (Ret w (.tuple #[.bool (wiB n m X Y), .int .i64 (wiE n m)])) := by
 by_cases h1 : wiE n m = 0
 · obtain ⟨rfl, h600⟩ := wiE_zero h1
   have HC := Lib.hid (wiB_cnt (X := X) (Y := Y) h600)
   have HX := Lib.hid hX
   have HY := Lib.hid hY
   rw [h1]
   clear h1 hX hY
   go_enter Tryz.func51, Tryz.ntmps51
   go_wp2_with fail
   refine (counted_any A A' n c c' X Y _ h600 (HX.out.below' (by repeat (first | exact Below.refl _ _ | (refine Below.setCell ?_ (by first | omega | (simp; done) | (simp; omega)) _) | (refine Below.alloc ?_ (by first | omega | (simp; done) | (simp; omega)) _) | refine Below.drew ?_))) (HY.out.below' (by repeat (first | exact Below.refl _ _ | (refine Below.setCell ?_ (by first | omega | (simp; done) | (simp; omega)) _) | (refine Below.alloc ?_ (by first | omega | (simp; done) | (simp; omega)) _) | refine Below.drew ?_)))).mono ?_
   rintro e w1 ⟨A2, c2, rfl, _, hb2, hb1⟩
   have hB1 : Below w.heap.size w w1 := Below.call (by repeat (first | exact Below.refl _ _ | (refine Below.setCell ?_ (by first | omega | (simp; done) | (simp; omega)) _) | (refine Below.alloc ?_ (by first | omega | (simp; done) | (simp; omega)) _) | refine Below.drew ?_)) hb1
   have H2 := Lib.hid hb2
   clear hb2
   go_wp2_with fail
   refine (sizeS_any A2 n c2 _ _ hn (H2.out.below' (Below.refl _ _))).mono ?_
   rintro e w2 ⟨rfl, hb2⟩
   have hB2 : Below w.heap.size w w2 := Below.call (by repeat (first | exact hB1 | exact Below.refl _ _ | (refine Below.setCell ?_ (by first | omega | (simp; done) | (simp; omega)) _) | (refine Below.alloc ?_ (by first | omega | (simp; done) | (simp; omega)) _) | refine Below.drew ?_)) hb2
   have hS2 : w.heap.size ≤ w2.heap.size := hB2.size
   obtain ⟨hc2, hf2⟩ := bcell hb2
   clear hc2 hf2
   go_wp2_with fail
   refine (sizeS_any A n c _ _ hn (HX.out.below' (by repeat (first | exact hB2 | exact Below.refl _ _ | (refine Below.setCell ?_ (by first | omega | (simp; done) | (simp; omega)) _) | (refine Below.alloc ?_ (by first | omega | (simp; done) | (simp; omega)) _) | refine Below.drew ?_)))).mono ?_
   rintro e w3 ⟨rfl, hb3⟩
   have hB3 : Below w.heap.size w w3 := Below.call (by repeat (first | exact hB2 | exact Below.refl _ _ | (refine Below.setCell ?_ (by first | omega | (simp; done) | (simp; omega)) _) | (refine Below.alloc ?_ (by first | omega | (simp; done) | (simp; omega)) _) | refine Below.drew ?_)) hb3
   have hS3 : w.heap.size ≤ w3.heap.size := hB3.size
   obtain ⟨hc3, hf3⟩ := bcell hb3
   clear hc3 hf3
   go_wp2
   go_ret2
   refine ⟨?_, (by repeat (first | exact hB3 | exact Below.refl _ _ | (refine Below.setCell ?_ (by first | omega | (simp; done) | (simp; omega)) _) | (refine Below.alloc ?_ (by first | omega | (simp; done) | (simp; omega)) _) | refine Below.drew ?_))⟩
   rw [← HC.out]
   rfl
 · have HC := Lib.hid (wiB_much (X := X) (Y := Y) h1)
   have D1 := Lib.hid (fun W => countedE_any A A' n m c c' W hn hm h1)
   have q1 : (wiE n m == 0) = false := by simpa using h1
   clear h1
   go_enter Tryz.func51, Tryz.ntmps51
   go_wp2_with fail
   refine (D1.out _).mono ?_
   rintro e w1 ⟨rfl, hb1⟩
   have hB1 : Below w.heap.size w w1 := Below.call (by repeat (first | exact Below.refl _ _ | (refine Below.setCell ?_ (by first | omega | (simp; done) | (simp; omega)) _) | (refine Below.alloc ?_ (by first | omega | (simp; done) | (simp; omega)) _) | refine Below.drew ?_)) hb1
   have hS1 : w.heap.size ≤ w1.heap.size := hB1.size
   obtain ⟨hc1, hf1⟩ := bcell hb1
   clear hc1 hf1
   go_wp2
   go_ret2
   rw [HC.out]
   exact ⟨rfl, (by repeat (first | exact hB1 | exact Below.refl _ _ | (refine Below.setCell ?_ (by first | omega | (simp; done) | (simp; omega)) _) | (refine Below.alloc ?_ (by first | omega | (simp; done) | (simp; omega)) _) | refine Below.drew ?_))⟩
end Go.Proofs.YtmceonmlgcbcmaaGreat
/- Layer 20: what a solution is: Right of the reference. No condition. -/
namespace Go.Proofs.YtmceonmlgcbcmaaGreat
open Go.RowKit
set_option linter.unusedVariables false
set_option linter.unusedSimpArgs false
section
variable {n nl ns : Nat} {L Ls : Nat → Nat} {F T : Nat → Int} {S Z : Nat → Nat → Bool}
theorem rightB_ns (h : ns ≠ n) : rightSB n nl ns L Ls F T S Z = false := by simp [rightSB, h]
theorem rightB_row {i : Nat} (hi : i < n) (h : Ls i ≠ L i ∨ withinB (L i) (S i) (Z i) = false) : rightSB n nl ns L Ls F T S Z = false := by
 cases hs : rightSB n nl ns L Ls F T S Z with
 | false => rfl
 | true =>
   simp only [rightSB, Bool.and_eq_true, decide_eq_true_eq] at hs
   obtain ⟨h1, h2⟩ := hs.1.2 i hi
   rcases h with h | h
   · exact absurd h1 h
   · rw [h2] at h; cases h
theorem rightB_con {c : Nat} (hc : c < nl) (h : withinB (Ls (T c).toNat) (Z (T c).toNat) (Z (F c).toNat) = false) : rightSB n nl ns L Ls F T S Z = false := by
 cases hs : rightSB n nl ns L Ls F T S Z with
 | false => rfl
 | true =>
   simp only [rightSB, Bool.and_eq_true, decide_eq_true_eq] at hs
   rw [hs.2 c hc] at h
   cases h
theorem rightB_all (h1 : ns = n) (h2 : ∀ i, i < n → Ls i = L i ∧ withinB (L i) (S i) (Z i) = true) (h3 : ∀ c, c < nl → withinB (Ls (T c).toNat) (Z (T c).toNat) (Z (F c).toNat) = true) : rightSB n nl ns L Ls F T S Z = true := by
 simp only [rightSB, Bool.and_eq_true, decide_eq_true_eq]
 exact ⟨⟨h1, h2⟩, h3⟩
end
end Go.Proofs.YtmceonmlgcbcmaaGreat
/- Layer 20: Holds, of the program and of the reference. No condition. -/
namespace Go.Proofs.YtmceonmlgcbcmaaGreat
open Go.RowKit
set_option linter.unusedVariables false
set_option linter.unusedSimpArgs false
def holdB (n nl ns : Nat) (L Ls : Nat → Nat) (F T : Nat → Int) (S Z : Nat → Nat → Bool) : Bool := (askV n nl L F T == 0) && rightSB n nl ns L Ls F T S Z
theorem holdB_bad {n nl ns : Nat} {L Ls : Nat → Nat} {F T : Nat → Int} {S Z : Nat → Nat → Bool} (h : askV n nl L F T ≠ 0) : holdB n nl ns L Ls F T S Z = false := by simp [holdB, h]
theorem holdB_ok {n nl ns : Nat} {L Ls : Nat → Nat} {F T : Nat → Int} {S Z : Nat → Nat → Bool} (h : askV n nl L F T = 0) : holdB n nl ns L Ls F T S Z = rightSB n nl ns L Ls F T S Z := by simp [holdB, h]
theorem wiB_row {n nl ns : Nat} {L Ls : Nat → Nat} {F T : Nat → Int} {S Z : Nat → Nat → Bool} {i : Nat} (hi : i < n) (h : wiE (L i) (Ls i) ≠ 0 ∨ wiB (L i) (Ls i) (S i) (Z i) = false) (h6 : L i ≤ 600) : rightSB n nl ns L Ls F T S Z = false := by
 refine rightB_row hi ?_
 rcases h with h | h
 · refine .inl fun e => h ?_
   rw [e, wiE_ok h6]
 · by_cases e : Ls i = L i
   · refine .inr ?_
     rw [e, wiB, wiE_ok h6] at h
     simpa using h
   · exact .inl e
set_option maxRecDepth 100000 in
set_option maxHeartbeats 4000000 in
theorem holds_any (A A' A2 : Option Addr) (n nl ns c c' c2 : Nat) (L Ls : Nat → Nat) (S Z : Nat → Nat → Bool) (F T N Y : Nat → Int) (w : World) (hn : n ≤ maxLen) (hl : nl ≤ maxLen) (hs : ns ≤ maxLen)
 (hX : Sets w A n L S) (hY : Cons w A' nl F T N Y) (hZ : Sets w A2 ns Ls Z) :
 Calls Tryz.prog 43 #[.slice A n c, .slice A' nl c', .slice A2 ns c2] w (Ret w (.tuple #[.bool (holdB n nl ns L Ls F T S Z), .int .i64 (askV n nl L F T)])) := by
 have C1 := fun W (h : Sets W A n L S) (h' : Cons W A' nl F T N Y) => scheck_any A A' n nl c c' L S F T N Y W hn hl h h'
 have hs' := hs
 unfold maxLen at hs'
 have HX := Lib.hid hX
 have HY := Lib.hid hY
 have HZ := Lib.hid hZ
 clear hX hY hZ
 by_cases h1 : askV n nl L F T = 0
 · obtain ⟨y1, y2, y3, y4, y5⟩ := ask_zero h1
   have HL := Lib.hid y4
   have H6 := Lib.hid y3
   have HF := Lib.hid y5
   rw [holdB_ok h1]
   rw [h1] at C1 ⊢
   have D1 := Lib.hid C1
   clear h1 y3 y4 y5 C1
   by_cases h2 : ns = n
   · subst h2
     have q1 : ((ns : Int) != ns) = false := by simp
     go_enter Tryz.func43, Tryz.ntmps43
     go_wp2_with fail
     refine (D1.out _ (HX.out.below' (by repeat (first | exact Below.refl _ _ | (refine Below.setCell ?_ (by first | omega | (simp; done) | (simp; omega)) _) | (refine Below.alloc ?_ (by first | omega | (simp; done) | (simp; omega)) _) | refine Below.drew ?_))) (HY.out.below' (by repeat (first | exact Below.refl _ _ | (refine Below.setCell ?_ (by first | omega | (simp; done) | (simp; omega)) _) | (refine Below.alloc ?_ (by first | omega | (simp; done) | (simp; omega)) _) | refine Below.drew ?_)))).mono ?_
     rintro e w1 ⟨rfl, hb1⟩
     have hB1 : Below w.heap.size w w1 := Below.call (by repeat (first | exact Below.refl _ _ | (refine Below.setCell ?_ (by first | omega | (simp; done) | (simp; omega)) _) | (refine Below.alloc ?_ (by first | omega | (simp; done) | (simp; omega)) _) | refine Below.drew ?_)) hb1
     have hS1 : w.heap.size ≤ w1.heap.size := hB1.size
     obtain ⟨hc1, hf1⟩ := bcell hb1
     clear hc1 hf1
     go_wp2
     go_loopw [29] (fun v wr => ∃ i : Nat, i ≤ ns ∧ v = .int .i64 i ∧ (∀ j, j < i → Ls j = L j ∧ withinB (L j) (S j) (Z j) = true) ∧ Below w.heap.size w wr) (fun v _ => ns - (intOf v).toNat)
     case atStart => exact ⟨0, by omega, rfl, fun j hj => by omega, hB1⟩
     case round =>
      obtain ⟨i, hi, rfl, hok, hB⟩ := hrel
      have Hok := Lib.hid hok
      clear hok
      have hz := hB.size
      by_cases hlt : i < ns
      · have hdi : decide ((i : Int) < ns) = true := by simp; omega
        obtain ⟨b, off, rfl, hb, hc⟩ := HX.out (by omega)
        obtain ⟨b2, off2, rfl, hb2, hc2⟩ := HZ.out (by omega)
        obtain ⟨R, C, e0, hl0, hX0⟩ := hc i hlt
        obtain ⟨R2, C2, e1, hl1, hX1⟩ := hc2 i hlt
        have d0 := Later.cell ((hB.cell (p := ⟨b, _, none⟩) hb).trans e0) (by omega)
        have d1 := Later.cell ((hB.cell (p := ⟨b2, _, none⟩) hb2).trans e1) (by omega)
        have C0 := fun y => within_any _ _ _ _ C C2 _ _ _ hl0 hl1 ((hX0.below' hB).later y) ((hX1.below' hB).later y)
        have h600 := H6.out i hlt
        clear hc hc2 e0 e1 hX0 hX1
        by_cases h3 : wiE (L i) (Ls i) = 0
        · rw [h3] at C0
          rcases Bool.eq_false_or_eq_true (wiB (L i) (Ls i) (S i) (Z i)) with he | he
          · rw [he] at C0
            have D0 := Lib.hid C0
            have Hs := Lib.hid (show ∀ j, j < i + 1 → Ls j = L j ∧ withinB (L j) (S j) (Z j) = true from by
             intro j hj
             rcases Nat.lt_or_eq_of_le (Nat.le_of_lt_succ hj) with h' | rfl
             · exact Hok.out j h'
             · refine ⟨(wiE_zero h3).1.symm, ?_⟩
               rw [wiB, h3] at he
               simpa using he)
            clear h3 he C0
            go_wp2
            refine wp_region_later (by kernel_rfl) (by kernel_rfl) ?_
            repeat go_big_quiet_step (((go_at_call 80; exact Later.call (D0.out _))))
            refine wpQuiet_nil ?_
            rintro _ ⟨x, rfl⟩
            go_wp2
            go_roundw
            case rel => exact ⟨i + 1, by omega, by go_num, Hs.out, hB.trans (x.below.mono hB.size)⟩
            case measure => simp [intOf]; omega
          · rw [he] at C0
            have D0 := Lib.hid C0
            have H := Lib.hid (wiB_row (nl := nl) (ns := ns) (L := L) (Ls := Ls) (F := F) (T := T) (S := S) (Z := Z) hlt (.inr he) h600)
            clear h3 he C0
            go_wp2
            refine wp_region_later (by kernel_rfl) (by kernel_rfl) ?_
            repeat go_big_quiet_step (((go_at_call 80; exact Later.call (D0.out _))))
            refine wpQuiet_nil ?_
            rintro _ ⟨x, rfl⟩
            go_wp2
            go_ret2
            rw [H.out]
            exact ⟨rfl, hB.trans (x.below.mono hB.size)⟩
        · have q3 : (wiE (L i) (Ls i) != 0) = true := by simpa using h3
          have D0 := Lib.hid C0
          have H := Lib.hid (wiB_row (nl := nl) (ns := ns) (L := L) (Ls := Ls) (F := F) (T := T) (S := S) (Z := Z) hlt (.inl h3) h600)
          clear h3 C0
          go_wp2
          refine wp_region_later (by kernel_rfl) (by kernel_rfl) ?_
          repeat go_big_quiet_step (((go_at_call 80; exact Later.call (D0.out _))))
          refine wpQuiet_nil ?_
          rintro _ ⟨x, rfl⟩
          go_wp2
          go_ret2
          rw [H.out]
          exact ⟨rfl, hB.trans (x.below.mono hB.size)⟩
      · have : i = ns := by omega
        subst this
        have hdi : decide ((i : Int) < i) = false := by simp
        clear hlt
        obtain ⟨wo, ho⟩ : ∃ wo : World, wo = wr := ⟨_, rfl⟩
        subst ho
        go_wp2
        go_loopw [53] (fun v wr => ∃ k : Nat, k ≤ nl ∧ v = .int .i64 k ∧ (∀ c, c < k → withinB (Ls (T c).toNat) (Z (T c).toNat) (Z (F c).toNat) = true) ∧ Below w.heap.size w wr) (fun v _ => nl - (intOf v).toNat)
        case atStart => exact ⟨0, by omega, rfl, fun j hj => by omega, hB⟩
        case round =>
         obtain ⟨k, hk, rfl, hok, hB⟩ := hrel
         have Hok2 := Lib.hid hok
         clear hok
         have hz := hB.size
         by_cases hlk : k < nl
         · have hdk : decide ((k : Int) < nl) = true := by simp; omega
           obtain ⟨b, off, rfl, hb, hc⟩ := HY.out (by omega)
           obtain ⟨e0, e1, e2, e5⟩ := hc k hlk
           obtain ⟨g1, g2, g3, g4⟩ := HF.out k hlk
           obtain ⟨f, hf⟩ : ∃ f : Nat, F k = f := ⟨(F k).toNat, by omega⟩
           obtain ⟨t, ht⟩ : ∃ t : Nat, T k = t := ⟨(T k).toNat, by omega⟩
           rw [hf] at e0 g2
           rw [ht] at e1 g4
           have hfi : f < i := by omega
           have hti : t < i := by omega
           obtain ⟨b2, off2, rfl, hb2, hc2⟩ := HZ.out (by omega)
           obtain ⟨R, C, e3, hl0, hX0⟩ := hc2 f hfi
           obtain ⟨R2, C2, e4, hl1, hX1⟩ := hc2 t hti
           have c0 := (hB.cell (p := ⟨b, _, none⟩) hb).trans e0
           have c1 := (hB.cell (p := ⟨b, _, none⟩) hb).trans e1
           have c2 := (hB.cell (p := ⟨b, _, none⟩) hb).trans e2
           have c3 := (hB.cell (p := ⟨b, _, none⟩) hb).trans e5
           have hBa : Below w.heap.size w (wr.alloc (.cells #[.int .i64 f, .int .i64 t, .int .i64 (N k), .int .u8 (Y k)] 85)) := hB.alloc (by omega) _
           have d2 := Later.cell ((hBa.cell (p := ⟨b2, _, none⟩) hb2).trans e3) (by simp; omega)
           have d3 := Later.cell ((hBa.cell (p := ⟨b2, _, none⟩) hb2).trans e4) (by simp; omega)
           have d4 := Later.cell (w := wr.alloc (.cells #[.int .i64 f, .int .i64 t, .int .i64 (N k), .int .u8 (Y k)] 85)) (b := wr.heap.size) (o := 0) (v := some (.int .i64 f)) (by simp) (by simp)
           have d5 := Later.cell (w := wr.alloc (.cells #[.int .i64 f, .int .i64 t, .int .i64 (N k), .int .u8 (Y k)] 85)) (b := wr.heap.size) (o := 1) (v := some (.int .i64 t)) (by simp) (by simp)
           have C0 := fun y => within_any _ _ _ _ C2 C _ _ _ hl1 hl0 ((hX1.below' hBa).later y) ((hX0.below' hBa).later y)
           have hLt : Ls t = L t ∧ Ls f = L t ∧ Ls t ≤ 600 := by
            have y1 := (Hok.out t hti).1
            have y2 := (Hok.out f hfi).1
            have y3 := HL.out t hti
            have y4 := HL.out f hfi
            have y5 := H6.out t hti
            omega
           have HW : Hid (wiB (Ls t) (Ls f) (Z t) (Z f) = withinB (Ls (T k).toNat) (Z (T k).toNat) (Z (F k).toNat)) := by
            rw [hf, ht, hLt.2.1, ← hLt.1, wiB, wiE_ok hLt.2.2]
            simp
            exact trivial
           have HE : wiE (Ls t) (Ls f) = 0 := by rw [hLt.2.1, ← hLt.1, wiE_ok hLt.2.2]
           rw [HE] at C0
           clear hc hc2 e0 e1 e2 e3 e4 e5 hX0 hX1 hLt hf ht g1 g2 g3 g4 HE
           rcases Bool.eq_false_or_eq_true (withinB (Ls (T k).toNat) (Z (T k).toNat) (Z (F k).toNat)) with he | he
           · rw [HW.out, he] at C0
             have D0 := Lib.hid C0
             have Hs := Lib.hid (show ∀ c, c < k + 1 → withinB (Ls (T c).toNat) (Z (T c).toNat) (Z (F c).toNat) = true from by
              intro j hj
              rcases Nat.lt_or_eq_of_le (Nat.le_of_lt_succ hj) with h' | rfl
              · exact Hok2.out j h'
              · exact he)
             clear he C0 HW
             go_wp2
             refine wp_region_later (by kernel_rfl) (by kernel_rfl) ?_
             repeat go_big_quiet_step (((go_at_call 80; exact Later.call (D0.out _))))
             refine wpQuiet_nil ?_
             rintro _ ⟨x, rfl⟩
             go_wp2
             go_roundw
             case rel => exact ⟨k + 1, by omega, by go_num, Hs.out, hBa.trans (x.below.mono hBa.size)⟩
             case measure => simp [intOf]; omega
           · rw [HW.out, he] at C0
             have D0 := Lib.hid C0
             have H := Lib.hid (rightB_con (n := i) (ns := i) (L := L) (S := S) hlk he)
             clear he C0 HW
             go_wp2
             refine wp_region_later (by kernel_rfl) (by kernel_rfl) ?_
             repeat go_big_quiet_step (((go_at_call 80; exact Later.call (D0.out _))))
             refine wpQuiet_nil ?_
             rintro _ ⟨x, rfl⟩
             go_wp2
             go_ret2
             rw [H.out]
             exact ⟨rfl, hBa.trans (x.below.mono hBa.size)⟩
         · have : k = nl := by omega
           subst this
           have hdk : decide ((k : Int) < k) = false := by simp
           have H := Lib.hid (rightB_all (L := L) (S := S) (F := F) (T := T) rfl Hok.out Hok2.out)
           clear hlk
           go_wp2
           go_ret2
           rw [H.out]
           exact ⟨rfl, hB⟩
   · have H := Lib.hid (rightB_ns (nl := nl) (L := L) (Ls := Ls) (F := F) (T := T) (S := S) (Z := Z) h2)
     have q1 : ((ns : Int) != n) = true := by simp; omega
     clear h2
     go_enter Tryz.func43, Tryz.ntmps43
     go_wp2_with fail
     refine (D1.out _ (HX.out.below' (by repeat (first | exact Below.refl _ _ | (refine Below.setCell ?_ (by first | omega | (simp; done) | (simp; omega)) _) | (refine Below.alloc ?_ (by first | omega | (simp; done) | (simp; omega)) _) | refine Below.drew ?_))) (HY.out.below' (by repeat (first | exact Below.refl _ _ | (refine Below.setCell ?_ (by first | omega | (simp; done) | (simp; omega)) _) | (refine Below.alloc ?_ (by first | omega | (simp; done) | (simp; omega)) _) | refine Below.drew ?_)))).mono ?_
     rintro e w1 ⟨rfl, hb1⟩
     have hB1 : Below w.heap.size w w1 := Below.call (by repeat (first | exact Below.refl _ _ | (refine Below.setCell ?_ (by first | omega | (simp; done) | (simp; omega)) _) | (refine Below.alloc ?_ (by first | omega | (simp; done) | (simp; omega)) _) | refine Below.drew ?_)) hb1
     have hS1 : w.heap.size ≤ w1.heap.size := hB1.size
     obtain ⟨hc1, hf1⟩ := bcell hb1
     clear hc1 hf1
     go_wp2
     go_ret2
     rw [H.out]
     exact ⟨rfl, (by repeat (first | exact hB1 | exact Below.refl _ _ | (refine Below.setCell ?_ (by first | omega | (simp; done) | (simp; omega)) _) | (refine Below.alloc ?_ (by first | omega | (simp; done) | (simp; omega)) _) | refine Below.drew ?_))⟩
 · rw [holdB_bad h1]
   have q1 : (askV n nl L F T != 0) = true := by simpa using h1
   have D1 := Lib.hid C1
   clear h1 C1
   go_enter Tryz.func43, Tryz.ntmps43
   go_wp2_with fail
   refine (D1.out _ (HX.out.below' (by repeat (first | exact Below.refl _ _ | (refine Below.setCell ?_ (by first | omega | (simp; done) | (simp; omega)) _) | (refine Below.alloc ?_ (by first | omega | (simp; done) | (simp; omega)) _) | refine Below.drew ?_))) (HY.out.below' (by repeat (first | exact Below.refl _ _ | (refine Below.setCell ?_ (by first | omega | (simp; done) | (simp; omega)) _) | (refine Below.alloc ?_ (by first | omega | (simp; done) | (simp; omega)) _) | refine Below.drew ?_)))).mono ?_
   rintro e w1 ⟨rfl, hb1⟩
   have hB1 : Below w.heap.size w w1 := Below.call (by repeat (first | exact Below.refl _ _ | (refine Below.setCell ?_ (by first | omega | (simp; done) | (simp; omega)) _) | (refine Below.alloc ?_ (by first | omega | (simp; done) | (simp; omega)) _) | refine Below.drew ?_)) hb1
   have hS1 : w.heap.size ≤ w1.heap.size := hB1.size
   obtain ⟨hc1, hf1⟩ := bcell hb1
   clear hc1 hf1
   go_wp2
   go_ret2
   exact ⟨rfl, (by repeat (first | exact hB1 | exact Below.refl _ _ | (refine Below.setCell ?_ (by first | omega | (simp; done) | (simp; omega)) _) | (refine Below.alloc ?_ (by first | omega | (simp; done) | (simp; omega)) _) | refine Below.drew ?_))⟩
end Go.Proofs.YtmceonmlgcbcmaaGreat
/- Layer 20: Least at every input; the statement SolveLeasts: its walk. No condition. -/
namespace Go.Proofs.YtmceonmlgcbcmaaGreat
open Go.RowKit
set_option linter.unusedVariables false
set_option linter.unusedSimpArgs false
set_option maxHeartbeats 1000000 in
theorem least_any (A A' : Option Addr) (n nl c c' : Nat) (L : Nat → Nat) (S : Nat → Nat → Bool) (F T N Y : Nat → Int) (w : World) (hn : n ≤ maxLen) (hl : nl ≤ maxLen) (hX : Sets w A n L S) (hY : Cons w A' nl F T N Y) :
 Calls Tryz.prog 42 #[.slice A n c, .slice A' nl c'] w (LeastRet w n nl L F T S) := by
 by_cases h1 : askV n nl L F T = 0
 · obtain ⟨y1, y2, y3, y4, y5⟩ := ask_zero h1
   exact least_good A A' n nl c c' L S F T N Y w y1 y2 y4 y3 y5 h1 hX hY
 · have C1 := fun W (h : Sets W A n L S) (h' : Cons W A' nl F T N Y) => scheck_any A A' n nl c c' L S F T N Y W hn hl h h'
   have HX := Lib.hid hX
   have HY := Lib.hid hY
   have q1 : (askV n nl L F T != 0) = true := by simpa using h1
   have D1 := Lib.hid C1
   have H1 := Lib.hid h1
   clear h1 C1 hX hY
   go_enter Tryz.func42, Tryz.ntmps42
   go_wp2
   go_step3
   go_wp2_with fail
   refine (D1.out _ (HX.out.below' (by repeat (first | exact Below.refl _ _ | (refine Below.setCell ?_ (by first | omega | (simp; done) | (simp; omega)) _) | (refine Below.alloc ?_ (by first | omega | (simp; done) | (simp; omega)) _) | refine Below.drew ?_))) (HY.out.below' (by repeat (first | exact Below.refl _ _ | (refine Below.setCell ?_ (by first | omega | (simp; done) | (simp; omega)) _) | (refine Below.alloc ?_ (by first | omega | (simp; done) | (simp; omega)) _) | refine Below.drew ?_)))).mono ?_
   rintro e w1 ⟨rfl, hb1⟩
   have hB1 : Below w.heap.size w w1 := Below.call (by repeat (first | exact Below.refl _ _ | (refine Below.setCell ?_ (by first | omega | (simp; done) | (simp; omega)) _) | (refine Below.alloc ?_ (by first | omega | (simp; done) | (simp; omega)) _) | refine Below.drew ?_)) hb1
   have hS1 : w.heap.size ≤ w1.heap.size := hB1.size
   obtain ⟨hc1, hf1⟩ := bcell hb1
   clear hc1 hf1
   go_wp2
   try rw [Exit.noGoto_ret]
   go_ret2
   exact ⟨none, 0, 0, S, rfl, by simp [maxLen], Sets.of_none, fun h => absurd h H1.out, fun _ => rfl, (by repeat (first | exact hB1 | exact Below.refl _ _ | (refine Below.setCell ?_ (by first | omega | (simp; done) | (simp; omega)) _) | (refine Below.alloc ?_ (by first | omega | (simp; done) | (simp; omega)) _) | refine Below.drew ?_))⟩
end Go.Proofs.YtmceonmlgcbcmaaGreat
/- Layer 20: the chapter's example. No condition. -/
namespace Go.Proofs.YtmceonmlgcbcmaaGreat
open Go.RowKit
set_option linter.unusedVariables false
set_option linter.unusedSimpArgs false
def exS (i j : Nat) : Bool := decide (0 < i ∧ j = i)
def exX (k j : Nat) : Bool := decide (0 < j ∧ k ≤ j)
def exF (c : Nat) : Int := c
def exT (c : Nat) : Int := c + 1
theorem ex_ask : askV 3 2 (fun _ => 3) exF exT = 0 := by decide
theorem ex_fit : FitS 3 2 exF exT := (ask_zero ex_ask).2.2.2.2
theorem ex_leads {k j : Nat} (hj : j < 3) (h : k ≤ j) : Leads 2 exF exT j k := by
 have h1 : Leads 2 exF exT 2 1 := Leads.one (nl := 2) (F := exF) (T := exT) (c := 1) (by omega) (by decide)
 have h0 : Leads 2 exF exT 1 0 := Leads.one (nl := 2) (F := exF) (T := exT) (c := 0) (by omega) (by decide)
 have : (j = k) ∨ (j = 2 ∧ k = 1) ∨ (j = 1 ∧ k = 0) ∨ (j = 2 ∧ k = 0) := by omega
 rcases this with rfl | ⟨rfl, rfl⟩ | ⟨rfl, rfl⟩ | ⟨rfl, rfl⟩
 · exact .refl _
 · exact h1
 · exact h0
 · exact h1.trans h0
theorem ex_sol : IsSol 3 3 2 exF exT exS exX := by
 refine IsSol.mk (by decide) (by unfold Closed; decide) fun k hk j hj hx => ?_
 have h : 0 < j ∧ k ≤ j := by simpa [exX] using hx
 exact ⟨j, hj, ex_leads hj h.2, by simp [exS, h.1]⟩
theorem ex_not : holdB 3 2 3 (fun _ => 3) (fun _ => 3) exF exT exS exS = false := by decide
theorem ex_right {X : Nat → Nat → Bool} (h : IsSol 3 3 2 exF exT exS X) : holdB 3 2 3 (fun _ => 3) (fun _ => 3) exF exT exS X = true := by
 rw [holdB_ok ex_ask]
 exact rightB_mk rfl (fun _ _ => rfl) (fun k hk j hj hs => h.has hk hj hs) (h.closed ex_fit) ex_fit (fun _ _ => rfl)
theorem sets3 {W : World} {g r0 r1 r2 : Nat} {X : Nat → Nat → Bool} {b00 b01 b02 b10 b11 b12 b20 b21 b22 : Bool} (hg : g < W.heap.size) (h0 : r0 < W.heap.size) (h1 : r1 < W.heap.size) (h2 : r2 < W.heap.size)
 (c0 : W.cell? ⟨g, 0, none⟩ = some (.slice (some ⟨r0, 0, none⟩) 3 3)) (c1 : W.cell? ⟨g, 1, none⟩ = some (.slice (some ⟨r1, 0, none⟩) 3 3)) (c2 : W.cell? ⟨g, 2, none⟩ = some (.slice (some ⟨r2, 0, none⟩) 3 3))
 (x00 : W.cell? ⟨r0, 0, none⟩ = some (.bool b00)) (e00 : X 0 0 = b00) (x01 : W.cell? ⟨r0, 1, none⟩ = some (.bool b01)) (e01 : X 0 1 = b01) (x02 : W.cell? ⟨r0, 2, none⟩ = some (.bool b02)) (e02 : X 0 2 = b02) (x10 : W.cell? ⟨r1, 0, none⟩ = some (.bool b10)) (e10 : X 1 0 = b10) (x11 : W.cell? ⟨r1, 1, none⟩ = some (.bool b11)) (e11 : X 1 1 = b11) (x12 : W.cell? ⟨r1, 2, none⟩ = some (.bool b12)) (e12 : X 1 2 = b12) (x20 : W.cell? ⟨r2, 0, none⟩ = some (.bool b20)) (e20 : X 2 0 = b20) (x21 : W.cell? ⟨r2, 1, none⟩ = some (.bool b21)) (e21 : X 2 1 = b21) (x22 : W.cell? ⟨r2, 2, none⟩ = some (.bool b22)) (e22 : X 2 2 = b22) : Sets W (some ⟨g, 0, none⟩) 3 (fun _ => 3) X := by
 intro _
 refine ⟨g, 0, rfl, hg, fun i hi => ?_⟩
 have : i = 0 ∨ i = 1 ∨ i = 2 := by omega
 rcases this with rfl | rfl | rfl
 · refine ⟨_, _, c0, by decide, fun _ => ⟨r0, 0, rfl, h0, fun j hj => ?_⟩⟩
   have hj' : j < 3 := hj
   have : j = 0 ∨ j = 1 ∨ j = 2 := by omega
   rcases this with rfl | rfl | rfl
   · rw [e00]; exact x00
   · rw [e01]; exact x01
   · rw [e02]; exact x02
 · refine ⟨_, _, c1, by decide, fun _ => ⟨r1, 0, rfl, h1, fun j hj => ?_⟩⟩
   have hj' : j < 3 := hj
   have : j = 0 ∨ j = 1 ∨ j = 2 := by omega
   rcases this with rfl | rfl | rfl
   · rw [e10]; exact x10
   · rw [e11]; exact x11
   · rw [e12]; exact x12
 · refine ⟨_, _, c2, by decide, fun _ => ⟨r2, 0, rfl, h2, fun j hj => ?_⟩⟩
   have hj' : j < 3 := hj
   have : j = 0 ∨ j = 1 ∨ j = 2 := by omega
   rcases this with rfl | rfl | rfl
   · rw [e20]; exact x20
   · rw [e21]; exact x21
   · rw [e22]; exact x22
def ExRet (w : World) (e : Ending) (w' : World) : Prop :=
 ∃ Ab Al, e = .returned (.tuple #[.slice Ab 3 3, .slice Al 2 2]) ∧ Sets w' Ab 3 (fun _ => 3) exS ∧ Cons w' Al 2 exF exT (fun _ => 0) (fun _ => 0) ∧ Below w.heap.size w w'
set_option maxHeartbeats 1000000 in
theorem example_any (w : World) : Calls Tryz.prog 41 #[] w (ExRet w) := by
 go_enter Tryz.func41, Tryz.ntmps41
 go_wp2
 go_ret2
 refine ⟨_, _, rfl, ?_, ?_, (by repeat (first | exact Below.refl _ _ | (refine Below.setCell ?_ (by first | omega | (simp; done) | (simp; omega)) _) | (refine Below.alloc ?_ (by first | omega | (simp; done) | (simp; omega)) _) | refine Below.drew ?_))⟩
 · exact sets3 (g := w.heap.size + 3) (r0 := w.heap.size) (r1 := w.heap.size + 1) (r2 := w.heap.size + 2) (by first | omega | (simp; done) | (simp; omega)) (by first | omega | (simp; done) | (simp; omega)) (by first | omega | (simp; done) | (simp; omega)) (by first | omega | (simp; done) | (simp; omega)) (by go_simp) (by go_simp) (by go_simp) (by go_simp; decide) rfl (by go_simp; decide) rfl (by go_simp; decide) rfl (by go_simp; decide) rfl (by go_simp; decide) rfl (by go_simp; decide) rfl (by go_simp; decide) rfl (by go_simp; decide) rfl (by go_simp; decide) rfl
 · intro _
   refine ⟨_, 0, rfl, (by first | omega | (simp; done) | (simp; omega)), fun i hi => ?_⟩
   have : i = 0 ∨ i = 1 := by omega
   rcases this with rfl | rfl
   · exact ⟨by go_simp; rfl, by go_simp; rfl, by go_simp, by go_simp⟩
   · exact ⟨by go_simp; rfl, by go_simp; rfl, by go_simp, by go_simp⟩
set_option maxRecDepth 100000 in
set_option maxHeartbeats 4000000 in
theorem alive_any (w : World) : Calls Tryz.prog 44 #[] w (Ret w (.bool true)) := by
 have EA := Lib.hid ex_ask
 go_enter Tryz.func44, Tryz.ntmps44
 go_wp2_with fail
 refine (example_any _).mono ?_
 rintro e w1 ⟨Ab, Al, rfl, hS1, hC1, hb1⟩
 have hB1 : Below w.heap.size w w1 := Below.call (by repeat (first | exact Below.refl _ _ | (refine Below.setCell ?_ (by first | omega | (simp; done) | (simp; omega)) _) | (refine Below.alloc ?_ (by first | omega | (simp; done) | (simp; omega)) _) | refine Below.drew ?_)) hb1
 have HX := Lib.hid hS1
 have HY := Lib.hid hC1
 clear hS1 hC1
 go_wp2_with fail
 refine (least_any Ab Al 3 2 3 2 (fun _ => 3) exS exF exT (fun _ => 0) (fun _ => 0) _ (by simp [maxLen]) (by simp [maxLen]) (HX.out.below' (Below.refl _ _)) (HY.out.below' (Below.refl _ _))).mono ?_
 rintro e w2 ⟨A8, c8, m8, X8, rfl, _, hs8, hok8, _, hb2⟩
 have hB2 : Below w.heap.size w w2 := Below.call hB1 hb2
 obtain ⟨rfl, hsol⟩ := hok8 EA.out
 have H8 := Lib.hid hs8
 have HQ := Lib.hid (ex_right hsol)
 have HSA := Lib.hid (sameAllB_ok (n := 3) (m := 3) (L := fun _ => 3) (L' := fun _ => 3) (S := X8) (S' := exX) rfl (fun _ _ => rfl) (fun i hi j hj => hsol.same ex_sol i hi j hj))
 rw [EA.out]
 clear hs8 hok8 hsol
 go_wp2_with fail
 refine (holds_any Ab Al A8 3 2 3 3 2 c8 (fun _ => 3) (fun _ => 3) exS X8 exF exT (fun _ => 0) (fun _ => 0) _ (by simp [maxLen]) (by simp [maxLen]) (by simp [maxLen]) (HX.out.below' hb2) (HY.out.below' hb2) (H8.out.below' (Below.refl _ _))).mono ?_
 rintro e w3 ⟨rfl, hb3⟩
 have hB3 : Below w.heap.size w w3 := Below.call hB2 hb3
 have hC3 : Below w1.heap.size w1 w3 := Below.call hb2 hb3
 rw [HQ.out, EA.out]
 go_wp2_with fail
 refine (holds_any Ab Al Ab 3 2 3 3 2 3 (fun _ => 3) (fun _ => 3) exS exS exF exT (fun _ => 0) (fun _ => 0) _ (by simp [maxLen]) (by simp [maxLen]) (by simp [maxLen]) (HX.out.below' hC3) (HY.out.below' hC3) (HX.out.below' hC3)).mono ?_
 rintro e w4 ⟨rfl, hb4⟩
 have hB4 : Below w.heap.size w w4 := Below.call hB3 hb4
 have hC4 : Below w2.heap.size w2 w4 := Below.call hb3 hb4
 have hD4 := hC4.size
 have hS4 := hB4.size
 rw [ex_not, EA.out]
 go_wp2_with fail
 refine (sameAll_any A8 _ 3 3 c8 3 (fun _ => 3) (fun _ => 3) X8 exX _ (by simp [maxLen]) (by simp [maxLen]) (H8.out.below' (by repeat (first | exact hC4 | exact Below.refl _ _ | (refine Below.setCell ?_ (by first | omega | (simp; done) | (simp; omega)) _) | (refine Below.alloc ?_ (by first | omega | (simp; done) | (simp; omega)) _) | refine Below.drew ?_))) (sets3 (g := w4.heap.size + 3) (r0 := w4.heap.size) (r1 := w4.heap.size + 1) (r2 := w4.heap.size + 2) (by first | omega | (simp; done) | (simp; omega)) (by first | omega | (simp; done) | (simp; omega)) (by first | omega | (simp; done) | (simp; omega)) (by first | omega | (simp; done) | (simp; omega)) (by go_simp) (by go_simp) (by go_simp) (by go_simp; decide) rfl (by go_simp; decide) rfl (by go_simp; decide) rfl (by go_simp; decide) rfl (by go_simp; decide) rfl (by go_simp; decide) rfl (by go_simp; decide) rfl (by go_simp; decide) rfl (by go_simp; decide) rfl)).mono ?_
 rintro e w5 ⟨rfl, hb5⟩
 have hB5 : Below w.heap.size w w5 := Below.call (by repeat (first | exact hB4 | exact Below.refl _ _ | (refine Below.setCell ?_ (by first | omega | (simp; done) | (simp; omega)) _) | (refine Below.alloc ?_ (by first | omega | (simp; done) | (simp; omega)) _) | refine Below.drew ?_)) hb5
 rw [HSA.out]
 go_wp2
 go_ret
 exact ⟨rfl, hB5⟩
end Go.Proofs.YtmceonmlgcbcmaaGreat
