/- Layer 20, the reference: Leads. No condition. -/
import Derived.Test.YtcdbaoejakcemaaSolveI
namespace Go.Proofs.Ytcdbaoejakcemaa
open Go.RowKit

theorem cnt_congr {X Y : Nat → Bool} {n : Nat} (h : ∀ j, j < n → X j = Y j) : cnt X n = cnt Y n := by
  apply Nat.le_antisymm
  · exact cnt_mono fun j hj hx => by rw [← h j hj]; exact hx
  · exact cnt_mono fun j hj hx => by rw [h j hj]; exact hx

/-- A set of regions to which constraints lead from one. -/
def LeadSet (n nl : Nat) (F T : Nat → Int) (from_ : Nat) (X : Nat → Bool) : Prop := ∀ k, k < n → (X k = true ↔ Leads nl F T from_ k)
def Sound (n nl : Nat) (F T : Nat → Int) (from_ : Nat) (X : Nat → Bool) : Prop := X from_ = true ∧ ∀ k, k < n → X k = true → Leads nl F T from_ k
def Shut (i : Nat) (F T : Nat → Int) (X : Nat → Bool) : Prop := ∀ c, c < i → X (T c).toNat = true → X (F c).toNat = true

theorem Sound.set_ {n nl : Nat} {F T : Nat → Int} {from_ : Nat} {X : Nat → Bool} (hs : Sound n nl F T from_ X) {k t f : Nat} (hk : k < nl) (ht : T k = t) (hf : F k = f) (htn : t < n) (h : X t = true) : Sound n nl F T from_ (upd X f true) := by
  refine ⟨?_, fun j hj hx => ?_⟩
  · by_cases e : from_ = f
    · rw [e, upd_at]
    · rw [upd_ne e]; exact hs.1
  · by_cases e : j = f
    · subst e
      have := Leads.step k hk (hs.2 t htn h) ht
      rw [hf] at this
      simpa using this
    · rw [upd_ne e] at hx; exact hs.2 j hj hx
theorem Sound.done {n nl : Nat} {F T : Nat → Int} {from_ : Nat} {X : Nat → Bool} (hs : Sound n nl F T from_ X) (hc : Shut nl F T X) : LeadSet n nl F T from_ X := by
  refine fun k hk => ⟨hs.2 k hk, fun h => ?_⟩
  clear hk
  induction h with
  | refl => exact hs.1
  | step c h' _ e ih => exact hc c h' (by rw [e]; simpa using ih)

def LeadsRet (w : World) (n nl : Nat) (F T : Nat → Int) (from_ : Nat) (e : Ending) (w' : World) : Prop :=
  ∃ g c X, e = .returned (.slice (some ⟨g, 0, none⟩) n c) ∧ OB w' w.heap.size g n c X ∧ LeadSet n nl F T from_ X ∧ Below w.heap.size w w'

set_option maxRecDepth 100000 in
set_option maxHeartbeats 4000000 in
theorem leads_any (A : Option Addr) (n nl c from_ : Nat) (F T N Y : Nat → Int) (w : World) (hn : n ≤ 592) (hl : nl ≤ 1152) (hfr : from_ < n) (hF : Fit n nl F T) (hY : Cons w A nl F T N Y) :
    Calls Try.prog 27 #[.int .i64 n, .slice A nl c, .int .i64 from_] w (LeadsRet w n nl F T from_) := by
  have HY := Lib.hid hY
  have HF := Lib.hid hF
  clear hY hF
  have hmk := make_bools (P := Try.prog) rfl n (by omega)
  have hO := OB.made (B := w.heap.size) w n (Nat.le_refl _) (by simp only [maxLen]; omega)
  have c0 := hO.cell hfr
  have f0 := hO.frozen from_
  have HO := Lib.hid (hO.set from_ true)
  rw [World.setCell_alloc_at _ _ _ _ _ rfl] at HO
  have hS0 : Hid (Sound n nl F T from_ (upd (fun _ => false) from_ true)) := by
    refine ⟨upd_at, fun k _ hx => ?_⟩
    by_cases e : k = from_
    · rw [e]; exact .refl _
    · rw [upd_ne e] at hx; cases hx
  clear hO
  go_enter Try.func27, Try.ntmps27
  go_wp2
  clear hmk c0 f0
  go_loopg [8] (2 * (n - cnt (upd (fun _ => false) from_ true) n) + 1) (fun gk u wr => ∃ (m : Bool) (X : Nat → Bool), u = .bool m ∧ OB wr w.heap.size w.heap.size n n X ∧ Sound n nl F T from_ X ∧ (m = false → Shut nl F T X) ∧ gk = 2 * (n - cnt X n) + (if m = true then 1 else 0) ∧ Below w.heap.size w wr)
  case atStart => exact ⟨true, _, rfl, HO.out, hS0.out, (fun h => by cases h), by rw [if_pos rfl], (Below.refl _ _).alloc (Nat.le_refl _) _⟩
  case round =>
    obtain ⟨m, X, rfl, hO, hS, hC, hk, hB⟩ := hrel
    have hz := hB.size
    have HS := Lib.hid hS
    have HC := Lib.hid hC
    have HK := Lib.hid hk
    have HX := Lib.hid hO
    clear hS hC hk hO HO hS0
    cases m
    · go_wp2
      go_ret
      exact ⟨_, _, X, rfl, HX.out, HS.out.done (HC.out (by simp)), hB⟩
    · obtain ⟨wo, ho⟩ : ∃ wo : World, wo = wr := ⟨_, rfl⟩
      rw [← ho] at hB hz HX ⊢
      clear ho
      go_wp2
      go_loopw [8, 9] (fun u v wr => ∃ (i : Nat) (m : Bool) (Z : Nat → Bool), i ≤ nl ∧ u = .bool m ∧ v = .int .i64 i ∧ OB wr w.heap.size w.heap.size n n Z ∧ Sound n nl F T from_ Z ∧ (m = false → (∀ j, j < n → Z j = X j) ∧ Shut i F T Z) ∧ (cnt X n ≤ cnt Z n ∧ (m = true → cnt X n < cnt Z n)) ∧ Below w.heap.size w wr) (fun _ v _ => nl - (intOf v).toNat)
      case atStart => exact ⟨0, false, X, by omega, rfl, rfl, HX.out, HS.out, fun _ => ⟨fun _ _ => rfl, fun c hc => by omega⟩, ⟨Nat.le_refl _, fun h => by cases h⟩, hB⟩
      case round =>
        obtain ⟨i, m, Z, hi, rfl, rfl, hO, hS, hC, hN, hB⟩ := hrel
        have hz := hB.size
        have HS2 := Lib.hid hS
        have HC2 := Lib.hid hC
        have HN2 := Lib.hid hN
        have HO2 := Lib.hid hO
        clear hS hC hN hO
        by_cases hlt : i < nl
        · have hdi : decide ((i : Int) < nl) = true := by simp; omega
          obtain ⟨b, off, rfl, hb, hc⟩ := HY.out (by omega)
          obtain ⟨e0, e1, _, _⟩ := hc i hlt
          obtain ⟨g1, g2, g3, g4⟩ := HF.out i hlt
          obtain ⟨f, hf⟩ : ∃ f : Nat, F i = f := ⟨(F i).toNat, by omega⟩
          obtain ⟨t, ht⟩ : ∃ t : Nat, T i = t := ⟨(T i).toNat, by omega⟩
          rw [hf] at e0 g2
          rw [ht] at e1 g4
          have hfn : f < n := by omega
          have htn : t < n := by omega
          have c0 := (hB.cell (p := ⟨b, _, none⟩) hb).trans e0
          have c1 := (hB.cell (p := ⟨b, _, none⟩) hb).trans e1
          have c2 := HO2.out.cell hfn
          have c3 := HO2.out.cell htn
          have f2 := HO2.out.frozen f
          have hgl := HO2.out.lt
          have Hf := Lib.hid hf
          have Ht := Lib.hid ht
          clear hc e0 e1 g1 g2 g3 g4 hf ht
          have stay : Z t = false ∨ Z f = true → ∀ m : Bool, (m = false → (∀ j, j < n → Z j = X j) ∧ Shut i F T Z) → m = false → (∀ j, j < n → Z j = X j) ∧ Shut (i + 1) F T Z := by
            intro h m hm hm0
            obtain ⟨h1, h2⟩ := hm hm0
            refine ⟨h1, fun c hc hx => ?_⟩
            rcases Nat.lt_or_eq_of_le (Nat.le_of_lt_succ hc) with h' | rfl
            · exact h2 c h' hx
            · rw [Hf.out]
              rw [Ht.out] at hx
              simp at hx ⊢
              rcases h with h | h
              · rw [h] at hx; cases hx
              · exact h
          rcases Bool.eq_false_or_eq_true (Z t) with hy | hy
          · rcases Bool.eq_false_or_eq_true (Z f) with hx | hx
            · have HT := Lib.hid (stay (.inr hx))
              rw [hy] at c3
              rw [hx] at c2
              clear hy hx stay
              go_wp2
              go_roundw
              case rel => exact ⟨i + 1, m, Z, by omega, rfl, by go_num, HO2.out, HS2.out, HT.out m HC2.out, HN2.out, hB⟩
              case measure => simp [intOf]; omega
            · have HS3 := Lib.hid (HS2.out.set_ hlt Ht.out Hf.out htn hy)
              have HN3 : Hid (cnt X n < cnt (upd Z f true) n) := by
                have := cnt_set (X := Z) (Y := upd Z f true) hfn hx upd_at (fun j hj => upd_ne hj)
                have h' := HN2.out.1
                unfold Hid
                omega
              rw [hy] at c3
              rw [hx] at c2
              clear hy hx stay
              go_wp2
              go_roundw
              case rel => exact ⟨i + 1, true, upd Z f true, by omega, rfl, by go_num, HO2.out.set f true, HS3.out, (fun h => by cases h), ⟨Nat.le_of_lt HN3.out, fun _ => HN3.out⟩, hB.setCell (p := ⟨w.heap.size, f, none⟩) (Nat.le_refl _) _⟩
              case measure => simp [intOf]; omega
          · have HT := Lib.hid (stay (.inl hy))
            rw [hy] at c3
            clear hy stay
            go_wp2
            go_roundw
            case rel => exact ⟨i + 1, m, Z, by omega, rfl, by go_num, HO2.out, HS2.out, HT.out m HC2.out, HN2.out, hB⟩
            case measure => simp [intOf]; omega
        · have : i = nl := by omega
          subst this
          have hdi : decide ((i : Int) < i) = false := by simp
          clear hlt
          go_wp2
          go_roundg (2 * (n - cnt Z n) + (if m = true then 1 else 0))
          case measure =>
            have h1 := HK.out
            have h2 := cnt_le Z n
            obtain ⟨h3, h4⟩ := HN2.out
            simp at h1
            cases m
            · simp; omega
            · have := h4 rfl
              simp; omega
          case rel => exact ⟨m, Z, rfl, HO2.out, HS2.out, fun h => (HC2.out h).2, rfl, hB⟩

end Go.Proofs.Ytcdbaoejakcemaa
