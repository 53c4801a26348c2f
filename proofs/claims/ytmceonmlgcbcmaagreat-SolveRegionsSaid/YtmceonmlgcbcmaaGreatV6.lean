/- Texts joined: LvM LvN LvO. No condition. -/
import Derived.Test.YtmceonmlgcbcmaaGreatLvL
/- Layer 16: Uses, and Live of a refused function, by the program. No condition. -/
namespace Go.Proofs.YtmceonmlgcbcmaaGreat
open Go.RowKit
set_option linter.unusedVariables false
set_option linter.unusedSimpArgs false
set_option maxRecDepth 100000 in
set_option maxHeartbeats 4000000 in
theorem livesBad (F : GFun) (w : World) (hF : F.At w) (hz : fchkV F ≠ 0) :
 Calls Tryz.prog 67 #[F.val] w (Ret w (.tuple #[.slice none 0 0, .int .i64 (fchkV F)])) := by
 have h1 (wc : World) (hk : KB ⟨w, []⟩ wc) := fnChk F wc (hF.later hk)
 generalize fchkV F = z at h1 hz ⊢
 have hq : decide (z = 0) = false := decide_eq_false hz
 clear hz
 obtain ⟨pa, un, lA, ln, lc, lk, lt, bA, bn, bc, sA, sn, sc, s, jA, jn, jc, ja, jk, jo, jf, jx, je, jd⟩ := F
 obtain ⟨hX, hl, hb, hs, hj⟩ := hF
 simp only at hl hb hs hj
 refine go_start (args := [.pt (.agg (GFun.dat ⟨pa, un, lA, ln, lc, lk, lt, bA, bn, bc, sA, sn, sc, s, jA, jn, jc, ja, jk, jo, jf, jx, je, jd⟩))]) (c := (funX ⟨pa, un, lA, ln, lc, lk, lt, bA, bn, bc, sA, sn, sc, s, jA, jn, jc, ja, jk, jo, jf, jx, je, jd⟩)) Tryz.func67 rfl hX rfl rfl ?_
 obtain ⟨nd, hnd, nt, hnt, ar, har, cm, hcm, mx, hmx, mn, hmn, ar01, ar12, zpl, hzpl, zjn, hzjn, zup, hzup, zmi, hzmi, zdp, hzdp, hT⟩ := t0_all
 repeat' (first
  | refine go1 ?_ | refine gobn ?_
  | ((with_reducible apply go_call (f := 53) (hf := Tryz.call53)); (· (cbv; try rfl)); (· intro wc hbc hxc; exact h1 wc hbc))
  | fail)
 all_goals rfl
def smN (F : GFun) (a : Nat) : Int := sI F (pbN F a) (piN F a)
end Go.Proofs.YtmceonmlgcbcmaaGreat
/- Layer 16, plain: what a point uses, without order; what is live, by rounds; a literal's masks. No condition. -/
namespace Go.Proofs.YtmceonmlgcbcmaaGreat
open Go.RowKit Go.Shelf Go.Sort
set_option linter.unusedVariables false
set_option linter.unusedSimpArgs false
def usS (s : GStmt) (l : Nat) : Bool := !decide (s.k = 3) && ((rvU (stR s)).contains (Int.ofNat l) || (!wholeP s.p && decide (s.p.l = Int.ofNat l)))
def usC (F : GFun) (b i l : Nat) : Bool := if i < F.sn b then usS (F.s b i) l else decide (l < 16) && jmS F b l
theorem stU_has (s : GStmt) (l : Nat) : (stU s).contains (Int.ofNat l) = usS s l := by
 unfold stU usS
 by_cases h3 : s.k = 3
 · rw [if_pos h3, decide_eq_true h3]; rfl
 · rw [if_neg h3, decide_eq_false h3]
   have hL : (stL s).contains (Int.ofNat l) = (rvU (stR s)).contains (Int.ofNat l) := by
    rw [Bool.eq_iff_iff, List.contains_iff_mem, List.contains_iff_mem]; unfold stL; exact loc_mem
   by_cases hc : (!wholeP s.p && !(stL s).contains s.p.l) = true
   · rw [if_pos hc]
     have e : (putL (stL s) ((stL s).countP (· < s.p.l)) s.p.l).contains (Int.ofNat l) = (decide (s.p.l = Int.ofNat l) || (stL s).contains (Int.ofNat l)) := by
      rw [Bool.eq_iff_iff, List.contains_iff_mem, Bool.or_eq_true, List.contains_iff_mem, put_mem, decide_eq_true_eq]
      exact or_congr ⟨fun h => h.symm, fun h => h.symm⟩ Iff.rfl
     simp only [Bool.and_eq_true] at hc
     rw [e, hL, hc.1, Bool.or_comm]; simp
   · rw [if_neg hc, hL]
     by_cases hw : (!wholeP s.p) = true
     · have hm : (stL s).contains s.p.l = true := by
        cases g : (stL s).contains s.p.l
        · exact absurd (by rw [hw, g]; rfl) hc
        · rfl
       rw [hw]
       by_cases g : s.p.l = Int.ofNat l
       · rw [g, hL] at hm; rw [hm]; simp
       · rw [decide_eq_false g]; simp
     · have hw : (!wholeP s.p) = false := by simpa using hw
       rw [hw]; simp
theorem incL_has (S : Nat → Bool) (n l : Nat) : (incL S n).contains (Int.ofNat l) = (decide (l < n) && S l) := by
 rw [Bool.eq_iff_iff, List.contains_iff_mem, incL_mem, Bool.and_eq_true, decide_eq_true_eq]
 constructor
 · rintro ⟨j, h1, h2, h3⟩
   obtain rfl := Int.ofNat.inj h3
   exact ⟨h1, h2⟩
 · rintro ⟨h1, h2⟩; exact ⟨l, h1, h2, rfl⟩
theorem uB_is (F : GFun) (b i l : Nat) : uB F b i l = usC F b i l := by
 unfold uB usC uL
 split
 · exact stU_has _ _
 · exact incL_has _ _ _
namespace LiveG
def it (G : LiveG) : Nat → Nat → Nat → Bool
 | 0, _, _ => false
 | k + 1, n, l => ((G.sc n).any fun q => it G k q l) && !G.st n l || G.us n l
end LiveG
end Go.Proofs.YtmceonmlgcbcmaaGreat
/- Layer 16, the chapter's example. No condition. -/
namespace Go.Proofs.YtmceonmlgcbcmaaGreat
open Go.RowKit
set_option linter.unusedVariables false
set_option linter.unusedSimpArgs false
section
variable {Q : Exit → Act → World → Prop} {c : Nat → Nat → Row} {w0 : Base}
end
end Go.Proofs.YtmceonmlgcbcmaaGreat
