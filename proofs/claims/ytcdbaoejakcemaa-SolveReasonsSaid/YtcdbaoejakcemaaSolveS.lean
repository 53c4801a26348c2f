/- The statement SolveReasons: what leads to a region, and its walk. No condition. -/
import Derived.Test.YtcdbaoejakcemaaSolveQ
namespace Go.Proofs.Ytcdbaoejakcemaa
open Go.RowKit

def SoundB (n nl : Nat) (F T : Nat → Int) (to : Nat) (X : Nat → Bool) : Prop := X to = true ∧ ∀ k, k < n → X k = true → Leads nl F T k to
def ShutB (i : Nat) (F T : Nat → Int) (X : Nat → Bool) : Prop := ∀ c, c < i → X (F c).toNat = true → X (T c).toNat = true
def LedSet (n nl : Nat) (F T : Nat → Int) (to : Nat) (X : Nat → Bool) : Prop := ∀ k, k < n → (X k = true ↔ Leads nl F T k to)

theorem SoundB.set_ {n nl : Nat} {F T : Nat → Int} {to : Nat} {X : Nat → Bool} (hs : SoundB n nl F T to X) {k t f : Nat} (hk : k < nl) (ht : T k = t) (hf : F k = f) (hfn : f < n) (h : X f = true) : SoundB n nl F T to (upd X t true) := by
  refine ⟨?_, fun j hj hx => ?_⟩
  · by_cases e : to = t
    · rw [e, upd_at]
    · rw [upd_ne e]; exact hs.1
  · by_cases e : j = t
    · subst e
      have h1 := Leads.one (nl := nl) (F := F) (T := T) hk (by omega)
      rw [ht, hf] at h1
      simp at h1
      exact h1.trans (hs.2 f hfn h)
    · rw [upd_ne e] at hx; exact hs.2 j hj hx
theorem SoundB.done {n nl : Nat} {F T : Nat → Int} {to : Nat} {X : Nat → Bool} (hs : SoundB n nl F T to X) (hc : ShutB nl F T X) : LedSet n nl F T to X := by
  have key : ∀ a b, Leads nl F T a b → X b = true → X a = true := by
    intro a b h
    induction h with
    | refl => exact id
    | step c h' _ e ih =>
      intro hx
      refine ih ?_
      have := hc c h' hx
      rw [e] at this
      simpa using this
  exact fun k hk => ⟨hs.2 k hk, fun h => key k to h hs.1⟩
theorem cnt_pos {X : Nat → Bool} {n i : Nat} (hi : i < n) (h : X i = true) : 1 ≤ cnt X n := by
  induction n with
  | zero => omega
  | succ n ih =>
    rw [cnt]
    by_cases e : i = n
    · subst e; rw [if_pos h]; omega
    · have := ih (by omega); omega

def LedRet (w : World) (n nl : Nat) (F T : Nat → Int) (S : Nat → Nat → Bool) (to pt : Nat) (e : Ending) (w' : World) : Prop :=
  ∃ b : Bool, e = .returned (.bool b) ∧ Tells b (∃ i, i < n ∧ Leads nl F T i to ∧ S i pt = true) ∧ Below w.heap.size w w'

set_option maxRecDepth 100000 in
set_option maxHeartbeats 4000000 in
theorem led_any (A A' : Option Addr) (n nl c c' to pt : Nat) (L : Nat → Nat) (S : Nat → Nat → Bool) (F T N Y : Nat → Int) (w : World) (hn : n ≤ 592) (hl : nl ≤ 1152) (hto : to < n) (hL : ∀ i, i < n → L i = L 0) (hpt : pt < L 0) (hF : Fit n nl F T)
    (hX : Sets w A n L S) (hY : Cons w A' nl F T N Y) :
    Calls Try.prog 18 #[.slice A n c, .slice A' nl c', .int .i64 to, .int .i64 pt] w (LedRet w n nl F T S to pt) := by
  have HX := Lib.hid hX
  have HY := Lib.hid hY
  have HF := Lib.hid hF
  have HL := Lib.hid hL
  clear hX hY hF hL
  have hmk := make_bools (P := Try.prog) rfl n (by omega)
  have hO := OB.made (B := w.heap.size) w n (Nat.le_refl _) (by simp only [maxLen]; omega)
  have c0 := hO.cell hto
  have f0 := hO.frozen to
  have HO := Lib.hid (hO.set to true)
  rw [World.setCell_alloc_at _ _ _ _ _ rfl] at HO
  have hS0 : Hid (SoundB n nl F T to (upd (fun _ => false) to true)) := by
    refine ⟨upd_at, fun k _ hx => ?_⟩
    by_cases e : k = to
    · rw [e]; exact .refl _
    · rw [upd_ne e] at hx; cases hx
  have HC0 := Lib.hid (cnt_pos (X := upd (fun _ => false) to true) hto upd_at)
  clear hO
  go_enter Try.func18, Try.ntmps18
  go_wp2
  clear hmk c0 f0
  go_loopw [10] (fun u wr => ∃ (r : Nat) (X : Nat → Bool), u = .int .i64 r ∧ OB wr w.heap.size w.heap.size n n X ∧ SoundB n nl F T to X ∧ r + 1 ≤ cnt X n ∧ Below w.heap.size w wr) (fun u _ => n - (intOf u).toNat)
  case atStart => exact ⟨0, _, rfl, HO.out, hS0.out, HC0.out, (Below.refl _ _).alloc (Nat.le_refl _) _⟩
  case round =>
    obtain ⟨r, X, rfl, hO, hS, hC, hB⟩ := hrel
    have hz := hB.size
    have hcl := cnt_le X n
    have hrn : r < n := by omega
    have hdr : decide ((r : Int) < n) = true := by simp; omega
    have HS := Lib.hid hS
    have HC := Lib.hid hC
    have HO1 := Lib.hid hO
    clear hS hC hO HO hS0 HC0 hcl
    obtain ⟨wo, ho⟩ : ∃ wo : World, wo = wr := ⟨_, rfl⟩
    rw [← ho] at hB hz HO1 ⊢
    clear ho
    go_wp2
    go_loopw [11, 12] (fun u v wr => ∃ (i : Nat) (m : Bool) (Z : Nat → Bool), i ≤ nl ∧ u = .bool m ∧ v = .int .i64 i ∧ OB wr w.heap.size w.heap.size n n Z ∧ SoundB n nl F T to Z ∧ (m = false → (∀ j, j < n → Z j = X j) ∧ ShutB i F T Z) ∧ (cnt X n ≤ cnt Z n ∧ (m = true → cnt X n < cnt Z n)) ∧ Below w.heap.size w wr) (fun _ v _ => nl - (intOf v).toNat)
    case atStart => exact ⟨0, false, X, by omega, rfl, rfl, HO1.out, HS.out, fun _ => ⟨fun _ _ => rfl, fun c hc => by omega⟩, ⟨Nat.le_refl _, (fun h => by cases h)⟩, hB⟩
    case round =>
      obtain ⟨i, m, Z, hi, rfl, rfl, hO, hS, hC, hN, hB⟩ := hrel
      have hz := hB.size
      have HS2 := Lib.hid hS
      have HC2 := Lib.hid hC
      have HN2 := Lib.hid hN
      have HO2 := Lib.hid hO
      clear hS hC hN hO HO1
      by_cases hlt : i < nl
      · have hdi : decide ((i : Int) < nl) = true := by simp; omega
        obtain ⟨b, off, rfl, hb, hc⟩ := HY.out (by omega)
        obtain ⟨e0, e1, _, _⟩ := hc i hlt
        obtain ⟨g1, g2, g3, g4⟩ := HF.out i hlt
        obtain ⟨f, hf⟩ : ∃ f : Nat, F i = f := ⟨(F i).toNat, by omega⟩
        obtain ⟨t, ht⟩ : ∃ t : Nat, T i = t := ⟨(T i).toNat, by omega⟩
        rw [hf] at e0 g2
        rw [ht] at e1 g4
        have hfn : f < n := by omega
        have htn : t < n := by omega
        have c0 := (hB.cell (p := ⟨b, _, none⟩) hb).trans e0
        have c1 := (hB.cell (p := ⟨b, _, none⟩) hb).trans e1
        have c2 := HO2.out.cell hfn
        have c3 := HO2.out.cell htn
        have f2 := HO2.out.frozen t
        have hgl := HO2.out.lt
        have Hf := Lib.hid hf
        have Ht := Lib.hid ht
        clear hc e0 e1 g1 g2 g3 g4 hf ht
        have stay : Z f = false ∨ Z t = true → ∀ m : Bool, (m = false → (∀ j, j < n → Z j = X j) ∧ ShutB i F T Z) → m = false → (∀ j, j < n → Z j = X j) ∧ ShutB (i + 1) F T Z := by
          intro h m hm hm0
          obtain ⟨h1, h2⟩ := hm hm0
          refine ⟨h1, fun c hc hx => ?_⟩
          rcases Nat.lt_or_eq_of_le (Nat.le_of_lt_succ hc) with h' | rfl
          · exact h2 c h' hx
          · rw [Ht.out]
            rw [Hf.out] at hx
            simp at hx ⊢
            rcases h with h | h
            · rw [h] at hx; cases hx
            · exact h
        rcases Bool.eq_false_or_eq_true (Z f) with hy | hy
        · rcases Bool.eq_false_or_eq_true (Z t) with hx | hx
          · have HT := Lib.hid (stay (.inr hx))
            rw [hy] at c2
            rw [hx] at c3
            clear hy hx stay
            go_wp2
            go_roundw
            case rel => exact ⟨i + 1, m, Z, by omega, rfl, by go_num, HO2.out, HS2.out, HT.out m HC2.out, HN2.out, hB⟩
            case measure => simp [intOf]; omega
          · have HS3 := Lib.hid (HS2.out.set_ hlt Ht.out Hf.out hfn hy)
            have HN3 : Hid (cnt X n < cnt (upd Z t true) n) := by
              have := cnt_set (X := Z) (Y := upd Z t true) htn hx upd_at (fun j hj => upd_ne hj)
              have h' := HN2.out.1
              unfold Hid
              omega
            rw [hy] at c2
            rw [hx] at c3
            clear hy hx stay
            go_wp2
            go_roundw
            case rel => exact ⟨i + 1, true, upd Z t true, by omega, rfl, by go_num, HO2.out.set t true, HS3.out, (fun h => by cases h), ⟨Nat.le_of_lt HN3.out, fun _ => HN3.out⟩, hB.setCell (p := ⟨w.heap.size, t, none⟩) (Nat.le_refl _) _⟩
            case measure => simp [intOf]; omega
        · have HT := Lib.hid (stay (.inl hy))
          rw [hy] at c2
          clear hy stay
          go_wp2
          go_roundw
          case rel => exact ⟨i + 1, m, Z, by omega, rfl, by go_num, HO2.out, HS2.out, HT.out m HC2.out, HN2.out, hB⟩
          case measure => simp [intOf]; omega
      · have : i = nl := by omega
        subst this
        have hdi : decide ((i : Int) < i) = false := by simp
        clear hlt
        cases m
        · have HLS := Lib.hid (HS2.out.done (HC2.out (by simp)).2)
          clear HC2 HN2 HC
          obtain ⟨wq, ho⟩ : ∃ wq : World, wq = wr := ⟨_, rfl⟩
          rw [← ho] at hB hz HO2 ⊢
          clear ho
          go_wp2
          go_loopw [13] (fun u wr => ∃ (k : Nat), k ≤ n ∧ u = .int .i64 k ∧ (∀ j, j < k → ¬ (Z j = true ∧ S j pt = true)) ∧ Below wq.heap.size wq wr) (fun u _ => n - (intOf u).toNat)
          case atStart => exact ⟨0, by omega, rfl, fun j hj => by omega, Below.refl _ _⟩
          case round =>
            obtain ⟨k, hk, rfl, hno, hBq⟩ := hrel
            have hBw := Below.trans hB (hBq.mono hz)
            have HNO := Lib.hid hno
            clear hno
            by_cases hlk : k < n
            · have hdk : decide ((k : Int) < n) = true := by simp; omega
              obtain ⟨b, off, rfl, hb, hc⟩ := HX.out (by omega)
              obtain ⟨R, C, e0, hl0, hX0⟩ := hc k hlk
              have c0 := (hBw.cell (p := ⟨b, _, none⟩) hb).trans e0
              have hLk := HL.out k hlk
              have hpk : pt < L k := by omega
              have hdp : decide ((pt : Int) < L k) = true := by simp; omega
              obtain ⟨bb, oo, rfl, hbb, hcc⟩ := hX0 (by omega)
              have c1 := (hBw.cell (p := ⟨bb, _, none⟩) hbb).trans (hcc pt hpk)
              have c2 : wr.cell? ⟨w.heap.size, k, none⟩ = some (.bool (Z k)) := (hBq.cell (p := ⟨w.heap.size, k, none⟩) HO2.out.lt.2).trans (HO2.out.cell hlk)
              clear hc hcc e0 hX0 hLk
              have next : ¬ (Z k = true ∧ S k pt = true) → ∀ j, j < k + 1 → ¬ (Z j = true ∧ S j pt = true) := by
                intro h j hj
                rcases Nat.lt_or_eq_of_le (Nat.le_of_lt_succ hj) with h' | rfl
                · exact HNO.out j h'
                · exact h
              rcases Bool.eq_false_or_eq_true (Z k) with hy | hy
              · rcases Bool.eq_false_or_eq_true (S k pt) with hx | hx
                · have HT := Lib.hid (show ∃ x, x < n ∧ Leads i F T x to ∧ S x pt = true from ⟨k, hlk, (HLS.out k hlk).1 hy, hx⟩)
                  rw [hy] at c2
                  rw [hx] at c1
                  clear hy hx next
                  go_wp2
                  go_ret
                  exact ⟨true, rfl, .of_true HT.out, hBw⟩
                · have HN := Lib.hid (next (by rw [hx]; simp))
                  rw [hy] at c2
                  rw [hx] at c1
                  clear hy hx next
                  go_wp2
                  go_roundw
                  case rel => exact ⟨k + 1, by omega, by go_num, HN.out, hBq⟩
                  case measure => simp [intOf]; omega
              · have HN := Lib.hid (next (by rw [hy]; simp))
                rw [hy] at c2
                clear hy next
                go_wp2
                go_roundw
                case rel => exact ⟨k + 1, by omega, by go_num, HN.out, hBq⟩
                case measure => simp [intOf]; omega
            · have : k = n := by omega
              subst this
              have hdk : decide ((k : Int) < k) = false := by simp
              have HT := Lib.hid (show ¬ ∃ x, x < k ∧ Leads i F T x to ∧ S x pt = true from fun ⟨x, hx, h1, h2⟩ => HNO.out x hx ⟨(HLS.out x hx).2 h1, h2⟩)
              clear hlk HNO
              go_wp2
              go_ret
              exact ⟨false, rfl, .of_false HT.out, hBw⟩
        · have HR : Hid (r + 1 + 1 ≤ cnt Z n) := by
            have h1 := HC.out
            have h2 := HN2.out.2 (by simp)
            unfold Hid
            omega
          go_wp2
          go_roundw
          case rel => exact ⟨r + 1, Z, by go_num, HO2.out, HS2.out, HR.out, hB⟩
          case measure => simp [intOf]; omega

set_option maxRecDepth 100000 in
set_option maxHeartbeats 8000000 in
theorem reasons_walk (A A' : Option Addr) (n nl c c' : Nat) (L : Nat → Nat) (S : Nat → Nat → Bool) (F T N Y : Nat → Int) (w : World) (hn : n ≤ maxLen) (hl : nl ≤ maxLen) (hX : Sets w A n L S) (hY : Cons w A' nl F T N Y) :
    Calls Try.prog 6 #[.slice A n c, .slice A' nl c'] w (Ret w (.bool true)) := by
  have HX := Lib.hid hX
  have HY := Lib.hid hY
  clear hX hY
  go_enter Try.func6, Try.ntmps6
  go_wp2_with fail
  refine (alive_any _).mono ?_
  rintro e w1 ⟨rfl, hb1⟩
  have hB1 : Below w.heap.size w w1 := Below.call (by repeat (first | exact Below.refl _ _ | (refine Below.setCell ?_ (by first | omega | (simp; done) | (simp; omega)) _) | (refine Below.alloc ?_ (by first | omega | (simp; done) | (simp; omega)) _) | refine Below.drew ?_)) hb1
  have hS1 : w.heap.size ≤ w1.heap.size := hB1.size
  obtain ⟨hc1, hf1⟩ := bcell hb1
  clear hc1 hf1
  go_wp2_with fail
  refine (great_any A A' n nl c c' L S _ hn hl (HX.out.below' (by repeat (first | exact hB1 | exact Below.refl _ _ | (refine Below.setCell ?_ (by first | omega | (simp; done) | (simp; omega)) _) | (refine Below.alloc ?_ (by first | omega | (simp; done) | (simp; omega)) _) | refine Below.drew ?_)))).mono ?_
  rintro e w2 ⟨g, rfl, hg, hb2⟩
  have hB2 : Below w.heap.size w w2 := Below.call (by repeat (first | exact hB1 | exact Below.refl _ _ | (refine Below.setCell ?_ (by first | omega | (simp; done) | (simp; omega)) _) | (refine Below.alloc ?_ (by first | omega | (simp; done) | (simp; omega)) _) | refine Below.drew ?_)) hb2
  cases g
  · clear hg
    go_wp2_with fail
    refine (asked_any A A' n nl c c' L S F T N Y _ hn hl (HX.out.below' (by repeat (first | exact hB2 | exact Below.refl _ _ | (refine Below.setCell ?_ (by first | omega | (simp; done) | (simp; omega)) _) | (refine Below.alloc ?_ (by first | omega | (simp; done) | (simp; omega)) _) | refine Below.drew ?_))) (HY.out.below' (by repeat (first | exact hB2 | exact Below.refl _ _ | (refine Below.setCell ?_ (by first | omega | (simp; done) | (simp; omega)) _) | (refine Below.alloc ?_ (by first | omega | (simp; done) | (simp; omega)) _) | refine Below.drew ?_)))).mono ?_
    rintro e w3 ⟨rfl, hb3⟩
    have hB3 : Below w.heap.size w w3 := Below.call (by repeat (first | exact hB2 | exact Below.refl _ _ | (refine Below.setCell ?_ (by first | omega | (simp; done) | (simp; omega)) _) | (refine Below.alloc ?_ (by first | omega | (simp; done) | (simp; omega)) _) | refine Below.drew ?_)) hb3
    by_cases h0 : askV n nl L F T = 0
    · rw [h0]
      obtain ⟨y1, y2, y3, y4, y5⟩ := ask_zero h0
      have H0 := Lib.hid h0
      have H00 := Lib.hid (ask_ok (nl := 0) (F := F) (T := T) y1 (by omega) y3 y4 (fun c hc => by omega))
      have H6 := Lib.hid y3
      have HL := Lib.hid y4
      have HF := Lib.hid y5
      clear h0 y3 y4 y5
      go_wp2_with fail
      refine (least_any A A' n nl c c' L S F T N Y _ hn hl (HX.out.below' (by repeat (first | exact hB3 | exact Below.refl _ _ | (refine Below.setCell ?_ (by first | omega | (simp; done) | (simp; omega)) _) | (refine Below.alloc ?_ (by first | omega | (simp; done) | (simp; omega)) _) | refine Below.drew ?_))) (HY.out.below' (by repeat (first | exact hB3 | exact Below.refl _ _ | (refine Below.setCell ?_ (by first | omega | (simp; done) | (simp; omega)) _) | (refine Below.alloc ?_ (by first | omega | (simp; done) | (simp; omega)) _) | refine Below.drew ?_)))).mono ?_
      rintro e w4 ⟨A8, c8, m8, X8, rfl, _, hs8, hok8, _, hb4⟩
      have hB4 : Below w.heap.size w w4 := Below.call (by repeat (first | exact hB3 | exact Below.refl _ _ | (refine Below.setCell ?_ (by first | omega | (simp; done) | (simp; omega)) _) | (refine Below.alloc ?_ (by first | omega | (simp; done) | (simp; omega)) _) | refine Below.drew ?_)) hb4
      obtain ⟨hm8, hsol⟩ := hok8 H0.out
      subst hm8
      have H8 := Lib.hid hs8
      have HQ := Lib.hid hsol
      rw [H0.out]
      clear hs8 hok8 hsol
      go_wp2_with fail
      refine (least_any A none m8 0 c 0 L S F T N Y _ hn (by simp [maxLen]) (HX.out.below' (by repeat (first | exact hB4 | exact Below.refl _ _ | (refine Below.setCell ?_ (by first | omega | (simp; done) | (simp; omega)) _) | (refine Below.alloc ?_ (by first | omega | (simp; done) | (simp; omega)) _) | refine Below.drew ?_))) Cons.of_none).mono ?_
      rintro e w5 ⟨A9, c9, m9, X9, rfl, _, hs9, hok9, _, hb5⟩
      have hB5 : Below w.heap.size w w5 := Below.call (by repeat (first | exact hB4 | exact Below.refl _ _ | (refine Below.setCell ?_ (by first | omega | (simp; done) | (simp; omega)) _) | (refine Below.alloc ?_ (by first | omega | (simp; done) | (simp; omega)) _) | refine Below.drew ?_)) hb5
      have hC5 : Below w4.heap.size w4 w5 := hb5
      obtain ⟨hm9, hsol9⟩ := hok9 H00.out
      subst hm9
      have H9 := Lib.hid hs9
      have HSA := Lib.hid (sameAllB_ok (n := m9) (m := m9) (L := L) (L' := L) (S := X9) (S' := S) rfl (fun _ _ => rfl) (fun i hi j hj => hsol9.bare i hi j (by rw [← HL.out i hi]; exact hj)))
      rw [H00.out]
      clear hs9 hok9 hsol9
      go_wp2_with fail
      refine (sameAll_any A9 A m9 m9 c9 c L L X9 S _ hn hn (H9.out.below' (Below.refl _ _)) (HX.out.below' (by repeat (first | exact hB5 | exact Below.refl _ _ | (refine Below.setCell ?_ (by first | omega | (simp; done) | (simp; omega)) _) | (refine Below.alloc ?_ (by first | omega | (simp; done) | (simp; omega)) _) | refine Below.drew ?_)))).mono ?_
      rintro e w6 ⟨rfl, hb6⟩
      have hB6 : Below w.heap.size w w6 := Below.call (by repeat (first | exact hB5 | exact Below.refl _ _ | (refine Below.setCell ?_ (by first | omega | (simp; done) | (simp; omega)) _) | (refine Below.alloc ?_ (by first | omega | (simp; done) | (simp; omega)) _) | refine Below.drew ?_)) hb6
      have hC6 : Below w4.heap.size w4 w6 := Below.call hC5 hb6
      rw [HSA.out]
      go_wp2
      go_loopw [10] (fun v wr => ∃ i : Nat, i ≤ m9 ∧ v = .int .i64 i ∧ Below w6.heap.size w6 wr) (fun v _ => m9 - (intOf v).toNat)
      case atStart => exact ⟨0, by omega, rfl, Below.refl _ _⟩
      case round =>
        obtain ⟨i, hi, rfl, hB⟩ := hrel
        have hBw := Below.call hB6 hB
        have hCw := Below.call hC6 hB
        by_cases hlt : i < m9
        · have hdi : decide ((i : Int) < m9) = true := by simp; omega
          obtain ⟨b, off, rfl, hb, hc⟩ := H8.out (by omega)
          obtain ⟨b2, off2, rfl, hb2, hc2⟩ := HX.out (by omega)
          obtain ⟨R, C, e0, hl0, hX0⟩ := hc i hlt
          obtain ⟨R2, C2, e1, hl1, hX1⟩ := hc2 i hlt
          have d0 := Later.cell ((hCw.cell (p := ⟨b, _, none⟩) hb).trans e0) (Nat.lt_of_lt_of_le hb hCw.size)
          have d1 := Later.cell ((hBw.cell (p := ⟨b2, _, none⟩) hb2).trans e1) (Nat.lt_of_lt_of_le hb2 hBw.size)
          have E0 := Lib.hid e0
          have HX0 := Lib.hid hX0
          have h600 := H6.out i hlt
          have q2 : ((L i : Int) != L i) = false := by simp
          clear hc hc2 e0 e1 hX0 hX1
          go_wp2
          refine wp_region_later (by kernel_rfl) (by kernel_rfl) ?_
          repeat go_big_quiet_step (fail)
          refine wpQuiet_nil ?_
          rintro _ ⟨x, rfl⟩
          have hBx : Below w6.heap.size w6 x.wd := hB.trans (x.below.mono hB.size)
          clear d0 d1 q2
          obtain ⟨wo, ho⟩ : ∃ wo : World, wo = x.wd := ⟨_, rfl⟩
          rw [← ho] at hBx ⊢
          clear ho
          go_wp2
          go_loopw [11] (fun v wr => ∃ k : Nat, k ≤ L i ∧ v = .int .i64 k ∧ Below w6.heap.size w6 wr) (fun v _ => L i - (intOf v).toNat)
          case atStart => exact ⟨0, by omega, rfl, hBx⟩
          case round =>
            obtain ⟨k, hk, rfl, hB2'⟩ := hrel
            have hBw2 := Below.call hB6 hB2'
            have hCw2 := Below.call hC6 hB2'
            have c0 := (hCw2.cell (p := ⟨b, _, none⟩) hb).trans E0.out
            by_cases hlk : k < L i
            · have hdk : decide ((k : Int) < L i) = true := by simp; omega
              obtain ⟨bb, oo, rfl, hbb, hcc⟩ := HX0.out (by omega)
              have d0 := Later.cell ((hCw2.cell (p := ⟨b, _, none⟩) hb).trans E0.out) (Nat.lt_of_lt_of_le hb hCw2.size)
              have d1 := Later.cell ((hCw2.cell (p := ⟨bb, _, none⟩) hbb).trans (hcc k hlk)) (Nat.lt_of_lt_of_le hbb hCw2.size)
              have hpt : k < L 0 := by have := HL.out i hlt; omega
              have D0 : Hid (∀ y : Later wr, Calls Try.prog 18 #[.slice (some ⟨b2, off2, none⟩) m9 c, .slice A' nl c', .int .i64 i, .int .i64 k] y.wd (Ret y.wd (.bool (X8 i k)))) := by
                intro y
                refine (led_any _ A' m9 nl c c' i k L S F T N Y _ y1 y2 hlt HL.out hpt HF.out ((HX.out.below' hBw2).later y) ((HY.out.below' hBw2).below' y.below)).mono ?_
                rintro e w' ⟨b, rfl, hb, hbw⟩
                refine ⟨?_, hbw⟩
                have : b = X8 i k := by
                  rw [Bool.eq_iff_iff, HQ.out i hlt k hpt]
                  exact hb
                rw [this]
              have q3 : (X8 i k != X8 i k) = false := by simp
              have q4 : (!(X8 i k == X8 i k)) = false := by simp
              clear hcc hpt
              go_wp2
              refine wp_region_later (by kernel_rfl) (by kernel_rfl) ?_
              repeat go_big_quiet_step (((go_at_call 18; exact Later.call (D0.out _))))
              refine wpQuiet_nil ?_
              rintro _ ⟨x, rfl⟩
              go_wp2
              go_roundw
              case rel => exact ⟨k + 1, by omega, by go_num, hB2'.trans (x.below.mono hB2'.size)⟩
              case measure => simp [intOf]; omega
            · have hke : k = L i := by omega
              rw [hke]
              have hdk : decide ((L i : Int) < L i) = false := by simp
              clear hke hlk
              go_wp2
              go_roundw
              case rel => exact ⟨i + 1, by omega, by go_num, hB2'⟩
              case measure => simp [intOf]; omega
        · have : i = m9 := by omega
          subst this
          have hdi : decide ((i : Int) < i) = false := by simp
          clear hlt
          go_wp2
          go_ret
          exact ⟨rfl, hBw⟩
    · have q1 : (askV n nl L F T != 0) = true := by simpa using h0
      clear h0
      go_wp2
      go_ret
      exact ⟨rfl, (by repeat (first | exact hB3 | exact Below.refl _ _ | (refine Below.setCell ?_ (by first | omega | (simp; done) | (simp; omega)) _) | (refine Below.alloc ?_ (by first | omega | (simp; done) | (simp; omega)) _) | refine Below.drew ?_))⟩
  · go_wp2
    go_ret
    exact ⟨rfl, (by repeat (first | exact hB2 | exact Below.refl _ _ | (refine Below.setCell ?_ (by first | omega | (simp; done) | (simp; omega)) _) | (refine Below.alloc ?_ (by first | omega | (simp; done) | (simp; omega)) _) | refine Below.drew ?_))⟩

end Go.Proofs.Ytcdbaoejakcemaa
