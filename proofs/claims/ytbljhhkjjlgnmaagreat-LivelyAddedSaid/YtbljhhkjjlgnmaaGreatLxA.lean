/- LivelyAdded, plain: a statement more, that prints a local, in front of a block. No condition. -/
import Derived.Test.YtbljhhkjjlgnmaaGreatLvP
import Derived.Test.YtbljhhkjjlgnmaaGreatN6
namespace Go.Proofs.YtbljhhkjjlgnmaaGreat
open Go.RowKit Go.Shelf Go.Sort
set_option linter.unusedVariables false
set_option linter.unusedSimpArgs false

/-- The print of a local. -/
def prL (x : Nat) : GStmt := ⟨2, .zero, .zero, ⟨2, 0, ⟨.ofNat x, false, 0⟩⟩, 0⟩
section
variable {F : GFun} {b0 x : Nat}
abbrev insP (F : GFun) (b0 x : Nat) : GFun := F.ins b0 0 (prL x)
theorem insP_s0 : (insP F b0 x).s b0 0 = prL x := by simp [GFun.ins]
theorem insP_sS (i : Nat) : (insP F b0 x).s b0 (i + 1) = F.s b0 i := by simp [GFun.ins]
theorem insP_so {b : Nat} (h : b ≠ b0) : (insP F b0 x).s b = F.s b := by simp [GFun.ins, h]
theorem insP_sn : (insP F b0 x).sn b0 = F.sn b0 + 1 := by simp [GFun.ins]
theorem insP_sno {b : Nat} (h : b ≠ b0) : (insP F b0 x).sn b = F.sn b := by simp [GFun.ins, h]
theorem insP_st (b : Nat) : stN (insP F b0 x).sn b = stN F.sn b + if b0 < b then 1 else 0 := ins_st b
/-- The new number of a point; of a point that a step leads to. -/
def phN (a n : Nat) : Nat := if n < a then n else n + 1
def psN (a n : Nat) : Nat := if n ≤ a then n else n + 1
/-- The old point's block and index, with the statement more. -/
theorem insP_pt {n : Nat} (hn : n < stN F.sn F.bn) : pbN (insP F b0 x) (phN (stN F.sn b0) n) = pbN F n ∧ piN (insP F b0 x) (phN (stN F.sn b0) n) = if pbN F n = b0 then piN F n + 1 else piN F n := by
  obtain ⟨h1, h2, h3⟩ := num_pt hn
  generalize pbN F n = b at h1 h2 h3
  generalize piN F n = i at h2 h3
  subst h3
  have hi : (if b = b0 then i + 1 else i) ≤ (insP F b0 x).sn b := by
    by_cases g : b = b0
    · subst g; rw [if_pos rfl, insP_sn]; omega
    · rw [if_neg g, insP_sno g]; exact h2
  have e : phN (stN F.sn b0) (stN F.sn b + i) = stN (insP F b0 x).sn b + if b = b0 then i + 1 else i := by
    rw [insP_st]
    unfold phN
    rcases Nat.lt_trichotomy b b0 with g | g | g
    · have := stN_le_of (sn := F.sn) (show b + 1 ≤ b0 from g)
      simp only [stN] at this
      rw [if_pos (by omega), if_neg (by omega), if_neg (by omega)]; omega
    · subst g; rw [if_neg (by omega), if_neg (by omega), if_pos rfl]; omega
    · have := stN_le_of (sn := F.sn) (show b0 + 1 ≤ b from g)
      simp only [stN] at this
      rw [if_neg (by omega), if_pos g, if_neg (by omega)]; omega
  rw [e]
  exact at_num (F := insP F b0 x) h1 hi
theorem insP_pt0 (hb0 : b0 < F.bn) : pbN (insP F b0 x) (stN F.sn b0) = b0 ∧ piN (insP F b0 x) (stN F.sn b0) = 0 := by
  have := at_num (F := insP F b0 x) (b := b0) (i := 0) hb0 (Nat.zero_le _)
  rw [insP_st, if_neg (by omega)] at this
  exact this
theorem insP_uB {b i l : Nat} : uB (insP F b0 x) b (if b = b0 then i + 1 else i) l = uB F b i l := by
  rw [uB_is, uB_is]
  unfold usC
  rw [show jmS (insP F b0 x) b = jmS F b from rfl]
  by_cases g : b = b0
  · subst g
    rw [if_pos rfl, insP_sn, insP_sS]
    by_cases h : i < F.sn b
    · rw [if_pos h, if_pos (by omega)]
    · rw [if_neg h, if_neg (by omega)]
  · rw [if_neg g, insP_sno g, insP_so g]
theorem insP_sI {b i : Nat} : sI (insP F b0 x) b (if b = b0 then i + 1 else i) = sI F b i := by
  unfold sI
  rw [show (insP F b0 x).jk b = F.jk b from rfl, show (insP F b0 x).jd b = F.jd b from rfl]
  by_cases g : b = b0
  · subst g
    rw [if_pos rfl, insP_sn, insP_sS]
    by_cases h : i < F.sn b
    · rw [if_pos h, if_pos (by omega)]
    · rw [if_neg h, if_neg (by omega)]
  · rw [if_neg g, insP_sno g, insP_so g]
theorem insP_u0 {l : Nat} : uB (insP F b0 x) b0 0 l = decide (l = x) := by
  rw [uB_is]
  unfold usC
  rw [insP_sn, if_pos (by omega), insP_s0]
  have e : rvU (stR (prL x)) = [Int.ofNat x] := rfl
  unfold usS
  rw [e]
  show (!false && ([Int.ofNat x].contains (Int.ofNat l) || (!true && _))) = _
  simp only [Bool.not_false, Bool.true_and, Bool.not_true, Bool.false_and, Bool.or_false]
  by_cases h : l = x
  · subst h; simp
  · rw [decide_eq_false h]
    have : ¬ (l : Int) = (x : Int) := by omega
    simp [this]
theorem insP_s1 : sI (insP F b0 x) b0 0 = -1 := by
  unfold sI
  rw [insP_sn, if_pos (by omega), insP_s0]
  rfl
theorem insP_sc {n : Nat} (hn : n < stN F.sn F.bn) : succN (insP F b0 x) (phN (stN F.sn b0) n) = (succN F n).map (psN (stN F.sn b0)) := by
  have hp := insP_pt (b0 := b0) (x := x) hn
  obtain ⟨h1, h2, h3⟩ := num_pt hn
  unfold succN
  rw [hp.1, hp.2]
  generalize pbN F n = b at h1 h2 h3
  generalize piN F n = i at h2 h3
  unfold nextP
  rw [show (insP F b0 x).jump b = F.jump b from rfl]
  have hi : ((if b = b0 then i + 1 else i) < (insP F b0 x).sn b) ↔ i < F.sn b := by
    by_cases g : b = b0
    · subst g; rw [if_pos rfl, insP_sn]; omega
    · rw [if_neg g, insP_sno g]
  by_cases h : i < F.sn b
  · rw [if_pos h, if_pos (hi.2 h)]
    simp only [List.map_cons, List.map_nil]
    refine congrArg (fun z => [z]) ?_
    rw [insP_st]
    unfold psN
    rcases Nat.lt_trichotomy b b0 with g | g | g
    · have := stN_le_of (sn := F.sn) (show b + 1 ≤ b0 from g)
      simp only [stN] at this
      rw [if_neg (by omega), if_neg (by omega), if_pos (by omega)]; omega
    · subst g; rw [if_neg (by omega), if_pos rfl, if_neg (by omega)]; omega
    · have := stN_le_of (sn := F.sn) (show b0 + 1 ≤ b from g)
      simp only [stN] at this
      rw [if_pos g, if_neg (by omega), if_neg (by omega)]; omega
  · rw [if_neg h, if_neg (fun g => h (hi.1 g)), List.map_map, List.map_map, List.map_map]
    refine List.map_congr_left fun z _ => ?_
    simp only [Function.comp_apply, Nat.add_zero]
    rw [insP_st]
    unfold psN
    by_cases g : b0 < z.toNat
    · have := stN_le_of (sn := F.sn) (show b0 + 1 ≤ z.toNat from g)
      simp only [stN] at this
      rw [if_pos g, if_neg (by omega)]
    · have := stN_le_of (sn := F.sn) (show z.toNat ≤ b0 by omega)
      rw [if_neg g, if_pos this]; omega
theorem insP_sc0 (hb0 : b0 < F.bn) : succN (insP F b0 x) (stN F.sn b0) = [stN F.sn b0 + 1] := by
  have hp := insP_pt0 (x := x) hb0
  unfold succN
  rw [hp.1, hp.2]
  unfold nextP
  rw [insP_sn, if_pos (by omega)]
  simp only [List.map_cons, List.map_nil]
  rw [insP_st, if_neg (by omega)]
theorem insP_N (hb0 : b0 < F.bn) : stN (insP F b0 x).sn (insP F b0 x).bn = stN F.sn F.bn + 1 := ins_N hb0
theorem phN_lt {a n N : Nat} (h : n < N) : phN a n < N + 1 := by unfold phN; split <;> omega
/-- At the new point the printed local is live. -/
theorem added_at (hb0 : b0 < F.bn) : (liveG (insP F b0 x)).liB x (stN F.sn b0) = true := by
  refine clB_iff.2 (.zero ⟨?_, ?_⟩)
  · show stN F.sn b0 < stN (insP F b0 x).sn (insP F b0 x).bn
    rw [insP_N hb0]
    have := stN_lt (sn := F.sn) hb0 (Nat.zero_le _)
    omega
  · show uB (insP F b0 x) (pbN (insP F b0 x) (stN F.sn b0)) (piN (insP F b0 x) (stN F.sn b0)) x = true
    rw [(insP_pt0 hb0).1, (insP_pt0 hb0).2, insP_u0]; simp
/-- What was live is. -/
theorem added_up (hb0 : b0 < F.bn) {l : Nat} : ∀ {n : Nat}, Cl ((liveG F).Z l) ((liveG F).R l) n → Cl ((liveG (insP F b0 x)).Z l) ((liveG (insP F b0 x)).R l) (phN (stN F.sn b0) n) := by
  intro n h
  induction h with
  | zero h =>
    have hn : _ < stN F.sn F.bn := h.1
    refine .zero ⟨?_, ?_⟩
    · show phN _ _ < stN (insP F b0 x).sn (insP F b0 x).bn
      rw [insP_N hb0]; exact phN_lt hn
    · show uB (insP F b0 x) (pbN (insP F b0 x) _) (piN (insP F b0 x) _) l = true
      rw [(insP_pt hn).1, (insP_pt hn).2, insP_uB]; exact h.2
  | step _ hr ih =>
    rename_i m n _
    have hn : n < stN F.sn F.bn := hr.1
    have hm : m ∈ succN F n := hr.2.1
    have hs : decide (Int.ofNat l = sI F (pbN F n) (piN F n)) = false := hr.2.2
    have key : Cl ((liveG (insP F b0 x)).Z l) ((liveG (insP F b0 x)).R l) (psN (stN F.sn b0) m) := by
      by_cases e : m = stN F.sn b0
      · have e1 : psN (stN F.sn b0) m = stN F.sn b0 := by unfold psN; rw [if_pos (by omega), e]
        have e2 : phN (stN F.sn b0) m = stN F.sn b0 + 1 := by unfold phN; rw [if_neg (by omega), e]
        rw [e2] at ih
        rw [e1]
        refine .step ih ⟨?_, ?_, ?_⟩
        · show stN F.sn b0 < stN (insP F b0 x).sn (insP F b0 x).bn
          rw [insP_N hb0]
          have := stN_lt (sn := F.sn) hb0 (Nat.zero_le _)
          omega
        · show _ ∈ succN (insP F b0 x) _
          rw [insP_sc0 hb0]; exact List.mem_singleton.2 rfl
        · show decide (Int.ofNat l = sI (insP F b0 x) (pbN (insP F b0 x) _) (piN (insP F b0 x) _)) = false
          rw [(insP_pt0 hb0).1, (insP_pt0 hb0).2, insP_s1]
          exact decide_eq_false (fun g => by simp only [Int.ofNat_eq_natCast] at g; omega)
      · have e1 : psN (stN F.sn b0) m = phN (stN F.sn b0) m := by
          unfold psN phN
          by_cases g : m < stN F.sn b0
          · rw [if_pos g, if_pos (by omega)]
          · rw [if_neg g, if_neg (by omega)]
        rw [e1]; exact ih
    refine .step key ⟨?_, ?_, ?_⟩
    · show phN _ _ < stN (insP F b0 x).sn (insP F b0 x).bn
      rw [insP_N hb0]; exact phN_lt hn
    · show _ ∈ succN (insP F b0 x) _
      rw [insP_sc hn]; exact List.mem_map_of_mem hm
    · show decide (Int.ofNat l = sI (insP F b0 x) (pbN (insP F b0 x) _) (piN (insP F b0 x) _)) = false
      rw [(insP_pt hn).1, (insP_pt hn).2, insP_sI]; exact hs
/-- Nothing else is live. -/
theorem added_dn (hO : F.Ok) (hb0 : b0 < F.bn) {l : Nat} (hl : l ≠ x) : ∀ {k : Nat}, Cl ((liveG (insP F b0 x)).Z l) ((liveG (insP F b0 x)).R l) k → (∀ n, n < stN F.sn F.bn → k = phN (stN F.sn b0) n → Cl ((liveG F).Z l) ((liveG F).R l) n) ∧ (k = stN F.sn b0 → Cl ((liveG F).Z l) ((liveG F).R l) (stN F.sn b0)) := by
  intro k h
  have hat : stN F.sn b0 < stN F.sn F.bn := by have := stN_lt (sn := F.sn) hb0 (Nat.zero_le _); omega
  induction h with
  | zero h =>
    have hu : uB (insP F b0 x) (pbN (insP F b0 x) _) (piN (insP F b0 x) _) l = true := h.2
    refine ⟨fun n hn e => .zero ⟨hn, ?_⟩, fun e => ?_⟩
    · subst e
      rw [(insP_pt hn).1, (insP_pt hn).2, insP_uB] at hu; exact hu
    · subst e
      rw [(insP_pt0 hb0).1, (insP_pt0 hb0).2, insP_u0, decide_eq_false hl] at hu; cases hu
  | step _ hr ih =>
    rename_i m k _
    have hm : m ∈ succN (insP F b0 x) k := hr.2.1
    have hs : decide (Int.ofNat l = sI (insP F b0 x) (pbN (insP F b0 x) k) (piN (insP F b0 x) k)) = false := hr.2.2
    refine ⟨fun n hn e => ?_, fun e => ?_⟩
    · subst e
      rw [insP_sc hn] at hm
      rw [(insP_pt hn).1, (insP_pt hn).2, insP_sI] at hs
      obtain ⟨q, hq, e⟩ := List.mem_map.1 hm
      have hqN := succN_lt hO hn q hq
      have key : Cl ((liveG F).Z l) ((liveG F).R l) q := by
        by_cases g : q = stN F.sn b0
        · rw [g]
          exact ih.2 (by rw [← e]; unfold psN; rw [if_pos (by omega), g])
        · refine ih.1 q hqN ?_
          rw [← e]
          unfold psN phN
          by_cases g2 : q < stN F.sn b0
          · rw [if_pos g2, if_pos (by omega)]
          · rw [if_neg g2, if_neg (by omega)]
      exact .step key ⟨hn, hq, hs⟩
    · subst e
      rw [insP_sc0 hb0] at hm
      have hm := List.mem_singleton.1 hm
      exact ih.1 _ hat (by rw [hm]; unfold phN; rw [if_neg (by omega)])
/-- The masks, told by the bits. -/
theorem added_ok (hO : F.Ok) (hb0 : b0 < F.bn) (hx : x < F.ln) {ar : BinOp → IntKind → Int → Int → Int} (har : ar = rAr) :
    ar .and .u32 (.ofNat (liM (insP F b0 x) (stN F.sn b0))) (.ofNat (2 ^ x)) ≠ 0 ∧ ∀ n, n < stN F.sn F.bn → ar .andNot .u32 (.ofNat (liM F n)) (.ofNat (liM (insP F b0 x) (phN (stN F.sn b0) n))) = 0 ∧ ar .andNot .u32 (ar .xor .u32 (.ofNat (liM F n)) (.ofNat (liM (insP F b0 x) (phN (stN F.sn b0) n)))) (.ofNat (2 ^ x)) = 0 := by
  have hl16 := hO.ln16
  have hA : ∀ n, liM F n < 2 ^ 32 := fun n => mk_32 (by omega)
  have hB : ∀ n, liM (insP F b0 x) n < 2 ^ 32 := fun n => mk_32 (show F.ln ≤ 32 by omega)
  have hX : 2 ^ x < 2 ^ 32 := Nat.pow_lt_pow_right (by decide) (by omega)
  have bA : ∀ n l, (liM F n).testBit l = (decide (l < F.ln) && (liveG F).liB l n) := fun n l => mk_bit _ _ _
  have bB : ∀ n l, (liM (insP F b0 x) n).testBit l = (decide (l < F.ln) && (liveG (insP F b0 x)).liB l n) := fun n l => mk_bit _ _ _
  have up : ∀ n l, (liveG F).liB l n = true → (liveG (insP F b0 x)).liB l (phN (stN F.sn b0) n) = true := fun n l h => clB_iff.2 (added_up hb0 (clB_iff.1 h))
  have dn : ∀ n l, n < stN F.sn F.bn → l ≠ x → (liveG (insP F b0 x)).liB l (phN (stN F.sn b0) n) = true → (liveG F).liB l n = true := fun n l hn hl h => clB_iff.2 ((added_dn hO hb0 hl (clB_iff.1 h)).1 n hn rfl)
  refine ⟨?_, fun n hn => ⟨?_, ?_⟩⟩
  · rw [u32_and har (hB _) hX]
    intro h
    have h := Int.ofNat.inj h
    have := congrArg (fun z => z.testBit x) h
    simp only [Nat.testBit_and, bB, Nat.testBit_two_pow, added_at hb0, decide_eq_true hx, Nat.zero_testBit] at this
    simp at this
  · obtain ⟨c, h1, _, h3⟩ := u32_andNot har (hA n) (hB (phN (stN F.sn b0) n))
    rw [h1]
    have : c = 0 := Nat.eq_of_testBit_eq fun l => by
      rw [h3, bA, bB, Nat.zero_testBit]
      cases g : (liveG F).liB l n
      · simp
      · rw [up n l g]; cases decide (l < F.ln) <;> rfl
    rw [this]; rfl
  · rw [u32_xor har (hA n) (hB _)]
    obtain ⟨c, h1, _, h3⟩ := u32_andNot har (Nat.xor_lt_two_pow (hA n) (hB (phN (stN F.sn b0) n))) hX
    rw [h1]
    have : c = 0 := Nat.eq_of_testBit_eq fun l => by
      rw [h3, Nat.testBit_xor, bA, bB, Nat.testBit_two_pow, Nat.zero_testBit]
      by_cases e : x = l
      · rw [decide_eq_true e]; simp
      · rw [decide_eq_false e]
        have : (liveG F).liB l n = (liveG (insP F b0 x)).liB l (phN (stN F.sn b0) n) := by
          cases g : (liveG (insP F b0 x)).liB l (phN (stN F.sn b0) n)
          · cases g2 : (liveG F).liB l n
            · rfl
            · rw [up n l g2] at g; cases g
          · exact dn n l hn (fun e2 => e e2.symm) g
        rw [this]; simp
    rw [this]; rfl
end

end Go.Proofs.YtbljhhkjjlgnmaaGreat
