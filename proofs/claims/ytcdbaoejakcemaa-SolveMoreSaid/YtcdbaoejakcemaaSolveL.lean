/- Layer 20, the reference: Twin. No condition. -/
import Derived.Test.YtcdbaoejakcemaaSolveK
namespace Go.Proofs.Ytcdbaoejakcemaa
open Go.RowKit

theorem Own2.congr2 {w : World} {B : Nat} {E e : TypeId} {v : Value} {n : Nat} {V : Nat → Value} {len len' : Nat → Nat} {xs xs' : Nat → List Value} (h : Own2 w B E e v n V len xs) (hx : ∀ i, i < n → len i = len' i ∧ xs i = xs' i) : Own2 w B E e v n V len' xs' :=
  ⟨h.top, fun i hi => by rw [← (hx i hi).1, ← (hx i hi).2]; exact h.row i hi, h.inj, h.ne⟩
theorem OS.congr {w : World} {B : Nat} {v : Value} {n : Nat} {V : Nat → Value} {L L' : Nat → Nat} {S S' : Nat → Nat → Bool} (h : OS w B v n V L S) (hx : ∀ i, i < n → L i = L' i ∧ ∀ j, j < L i → S i j = S' i j) : OS w B v n V L' S' :=
  Own2.congr2 h fun i hi => ⟨(hx i hi).1, by rw [← (hx i hi).1]; exact bl_congr (hx i hi).2⟩
theorem OS.sets {w : World} {B : Nat} {v : Value} {n : Nat} {V : Nat → Value} {L : Nat → Nat} {S : Nat → Nat → Bool} (h : OS w B v n V L S) : ∃ A c, v = .slice A n c ∧ n ≤ c ∧ c ≤ maxLen ∧ Sets w A n L S := by
  rcases Nat.eq_zero_or_pos n with rfl | hn
  · rcases h.top.2 with ⟨rfl, _⟩ | ⟨g, cap, cur, rfl, _, _, h1, h2, _⟩
    · exact ⟨none, 0, rfl, by omega, by simp [maxLen], fun h0 => absurd h0 (by omega)⟩
    · exact ⟨_, _, rfl, h1, h2, fun h0 => absurd h0 (by omega)⟩
  · obtain ⟨g, c, rfl, _, _, _, hgl, h1, h2⟩ := Own2.at_ h hn
    refine ⟨_, _, rfl, h1, h2, fun _ => ⟨g, 0, rfl, hgl, fun i hi => ?_⟩⟩
    obtain ⟨g', c', e, hc, _⟩ := Own2.at_ h hi
    cases e
    obtain ⟨A, c2, e2, h3, h4, hb⟩ := bits_of_own (h.row i hi)
    exact ⟨A, c2, by rw [Nat.zero_add, hc, e2], by omega, hb⟩

theorem slice_info : (Try.prog.info? 40).map (fun i => (i.zero, i.size, i.bytes)) = some (some (.slice none 0 0), 1, 24) := by kernel_rfl
theorem slice_bool_ne : 40 ≠ 4 := by decide

/-- New sets are returned. -/
def OwnSets (w : World) (n : Nat) (L : Nat → Nat) (P : (Nat → Nat → Bool) → Prop) (e : Ending) (w' : World) : Prop :=
  ∃ v V S, e = .returned v ∧ OS w' w.heap.size v n V L S ∧ P S ∧ Below w.heap.size w w'

theorem slice_one (A : Option Addr) (n c : Nat) : ∀ u ∈ [Value.slice A n c], u.oneCell' = true := by
  intro u hu
  simp at hu
  subst hu
  rfl

set_option maxHeartbeats 2000000 in
theorem twin_any (A : Option Addr) (n c : Nat) (L : Nat → Nat) (S : Nat → Nat → Bool) (w : World) (hn : n ≤ 700) (hL : ∀ i, i < n → L i ≤ 700) (hX : Sets w A n L S) :
    Calls Try.prog 8 #[.slice A n c] w (OwnSets w n L (fun S' => ∀ i, i < n → ∀ j, j < L i → S' i j = S i j)) := by
  have HX := Lib.hid hX
  have HL := Lib.hid hL
  clear hX hL
  obtain ⟨i0, hi0, hz0, hz1, hz2⟩ := info_parts bool_info
  obtain ⟨i1, hi1, hy0, hy1, hy2⟩ := info_parts slice_info
  go_enter Try.func8, Try.ntmps8
  go_wp2
  go_loopw [3, 4] (fun u v wr => ∃ (i : Nat) (V : Nat → Value), i ≤ n ∧ v = .int .i64 i ∧ OS wr w.heap.size u i V L S ∧ Below w.heap.size w wr) (fun _ v _ => n - (intOf v).toNat)
  case atStart => exact ⟨0, fun _ => .slice none 0 0, by omega, rfl, Own2.none_ _ _ slice_bool_ne, Below.refl _ _⟩
  case round =>
    obtain ⟨i, V, hi, rfl, hO, hB⟩ := hrel
    have hz := hB.size
    by_cases hlt : i < n
    · have hdi : decide ((i : Int) < n) = true := by simp; omega
      obtain ⟨b, off, rfl, hb, hc⟩ := HX.out (by omega)
      obtain ⟨R, C, e0, hl0, hX0⟩ := hc i hlt
      have c0 := (hB.cell (p := ⟨b, _, none⟩) hb).trans e0
      have hl7 := HL.out i hlt
      have hbz : b < wr.heap.size := by omega
      have HR := Lib.hid (hX0.reads.below hB)
      have HO := Lib.hid hO
      clear hc HX e0 hX0 hO
      go_wp2_with (first
        | (at_builtin
           refine wpList_append_any _ rfl (.tmp 12) (.tmp 16) _ rfl wr.heap.size 4 i0 _ 1 1 Try.underlying40 hi0 hz0 hz1 hz2 rfl (by omega) (.slice (some ⟨wr.heap.size, 0, none⟩) 0 0) 0 [] rfl (World.ownsRow_made wr #[] 0 (Nat.le_refl _) (by decide) (by simp))
             w.heap.size R (L i) C (bl (L i) (S i)) rfl (HR.out.alloc (by omega) _) bl_one (by simp only [maxLen]; omega) (by omega) (by first | omega | (simp; done) | (simp; omega)) ?_
           intro v1 w1 hown1 hg1 hat1
           have hB1 : Below wr.heap.size wr w1 := ((Below.refl _ _).alloc (Nat.le_refl _) _).grown hg1 (by first | omega | (simp; done) | (simp; omega)) (by simp [Value.ownBlock])
           have hz1' := hB1.size
           obtain ⟨R1, C1, rfl, -, -, -⟩ := bits_of_own (by simpa only [Nat.zero_add, List.nil_append] using hown1)
           simp only [Nat.zero_add, List.nil_append] at hown1
           have HW1 := Lib.hid hown1
           have HO1 := Lib.hid (HO.out.below hB1)
           clear hown1 hg1 hat1 hi0 hz0 hz1 hz2)
        | (at_builtin
           refine wpList_append_any _ rfl (.tmp 11) (.tmp 18) _ rfl w.heap.size 40 i1 _ 1 24 Try.underlying22 hi1 hy0 hy1 hy2 rfl (by omega) _ _ _ rfl (HO1.out.alloc _).top
             (w1.heap.size + 1) (some ⟨_, 0, none⟩) 1 1 [.slice R1 (L i) C1] rfl (one_row rfl (by omega)) (slice_one _ _ _) (by simp only [maxLen]; omega) (by omega) (by first | omega | (simp; done) | (simp; omega)) ?_
           intro v2 w2 hown2 hg2 hat2
           have HO2 := Lib.hid (HO.out.push (w1 := w1.alloc (.cells #[.slice R1 (L i) C1] 40)) (grown_below (hB1.alloc hz1' _)) (own_mono (HW1.out.alloc _) hz) (fun k hk => (HW1.out.lt k hk).1) hg2 hown2)
           have hB2 : Below w.heap.size w w2 := ((hB.trans (hB1.mono hz)).alloc (by omega) _).grown hg2 (by first | omega | (simp; done) | (simp; omega)) (fun g hg => (HO.out.top.lt g hg).1)
           clear hown2 hg2 hat2 hi1 hy0 hy1 hy2)
        | fail)
      go_roundw
      case rel => exact ⟨i + 1, _, by omega, by go_num, HO2.out.congr2 (fun j hj => by
        by_cases e : j = i
        · subst e; rw [setAt_at, setAt_at]; exact ⟨rfl, rfl⟩
        · rw [setAt_ne e, setAt_ne e]; exact ⟨rfl, rfl⟩), hB2⟩
      case measure => simp [intOf]; omega
    · have : i = n := by omega
      subst this
      have hdi : decide ((i : Int) < i) = false := by simp
      have HO := Lib.hid hO
      clear hlt hO
      go_wp2
      go_ret
      exact ⟨u3, V, S, rfl, HO.out, fun _ _ _ _ => rfl, hB⟩

end Go.Proofs.Ytcdbaoejakcemaa
