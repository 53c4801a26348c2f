/- Lemmas. No condition. -/
import Derived.Test.YtemnfncbgalljabG2
namespace Go.Proofs.Ytemnfncbgalljab
open Go.RowKit
set_option linter.all false
def prS1:GStmt:=⟨2,.zero,.zero,⟨1,1,.zero⟩,0⟩
def Qgka (F:GFun) (b0:Nat):GFun:=F.ins b0 0 prS1
section
variable {F:GFun} {b0:Nat}
theorem Qsla:(Qgka F b0).s b0 0=prS1:=by simp[Qgka,GFun.ins]
theorem Qtla (i:Nat):(Qgka F b0).s b0 (i+1)=F.s b0 i:=by simp[Qgka,GFun.ins]
theorem Qwka {b:Nat} (h:b≠b0):(Qgka F b0).s b=F.s b:=by simp[Qgka,GFun.ins,h]
theorem Qoka:(Qgka F b0).sn b0=F.sn b0+1:=by simp[Qgka,GFun.ins]
theorem Qhka {b:Nat} (h:b≠b0):(Qgka F b0).sn b=F.sn b:=by simp[Qgka,GFun.ins,h]
theorem Qhna {σ:Type} (E:σ->GPlace->Bool->σ) (x:σ):Qlf E x prS1=x:=by simp[Qlf,Qee,prS1]
theorem Qpka {n:Nat} {s s':Nat->GStmt} (h0:s' 0=prS1) (h:∀i,s' (i+1)=s i) (r:Bool):∀k,Qvm n s' (k+1) r=Qvm n s k r
 | 0=>by simp only[Qvm,h0,Qhna]
 | k+1=>by rw[Qvm,Qpka h0 h r k,h,Qvm]
theorem Q7ma (x:TS):Q7j x prS1=x:=by
 unfold Q7j
 rw[Qhna]
 simp[Qqi,Qbq,prS1]
theorem Qqka {s s':Nat->GStmt} (h0:s' 0=prS1) (h:∀i,s' (i+1)=s i) (x:TS):∀k,Qwm s' (k+1) x=Qwm s k x
 | 0=>by simp only[Qwm,h0,Q7ma]
 | k+1=>by rw[Qwm,Qqka h0 h x k,h,Qwm]
theorem Q2ka:∀n,Qrm (Qgka F b0) n=Qrm F n
 | 0=>rfl
 | n+1=>by
   simp only[Qrm,Q2ka n,Q96]
   by_cases g:n=b0
   · subst g
     rw[Qoka,Qpka Qsla Qtla];rfl
   · rw[Qwka g,Qhka g];rfl
theorem Qzla:∀n,Qke (Qgka F b0) n=Qke F n
 | 0=>rfl
 | n+1=>by
   simp only[Qke,Qzla n,Qa7]
   by_cases g:n=b0
   · subst g
     rw[Qoka,Qqka Qsla Qtla];rfl
   · rw[Qwka g,Qhka g];rfl
theorem Qsna (hO:F.Ok) (hs:F.sn b0<=23):(Qgka F b0).Ok:=by
 have hl:Q0c (Qgka F b0)=false:=by
  have h1:=hO.ln16
  have h2:=hO.bn24
  unfold Q0c
  rw[show (Qgka F b0).ln=F.ln from rfl,show (Qgka F b0).bn=F.bn from rfl,decide_eq_false o9,decide_eq_false o9]
  simp only[Bool.false_or,Bool.not_eq_false']
  refine Qla.2 fun b hb=>decide_eq_true ?_
  by_cases g:b=b0
  · subst g;rw[Qoka];omega
  · rw[Qhka g];exact hO.sn24 hb
 have hm:Qrf (Qgka F b0)=true:=by
  have:=hO.made
  unfold Qrf at this⊢
  rw[show (Qgka F b0).bn=F.bn from rfl,Q2ka]
  simp only[Bool.and_eq_true] at this⊢
  refine ⟨Qla.2 fun b hb=>?_,this.2⟩
  unfold Qjc
  simp only[Bool.and_eq_true]
  refine ⟨Qla.2 fun i hi=>?_,hO.okJ hb⟩
  by_cases g:b=b0
  · subst g
    cases i with
    | zero=>rw[Qsla];decide
    | succ i=>rw[Qtla];rw[Qoka] at hi;exact hO.okS hb o9
  · rw[Qwka g];rw[Qhka g] at hi;exact hO.okS hb hi
 have ht:Qmo (Qgka F b0)=true:=by
  have:=hO.twos
  unfold Qmo at this⊢
  rw[show (Qgka F b0).bn=F.bn from rfl,Qzla];exact this
 unfold GFun.Ok fchkV
 rw[hl,hm,ht];rfl
theorem Qama (b:Nat):Reach (Qgka F b0) b↔Reach F b:=by
 constructor
 · intro h
   induction h with
   | zero=>exact .zero
   | step _ hn ih=>exact .step ih hn
 · intro h
   induction h with
   | zero=>exact .zero
   | step _ hn ih=>exact .step ih hn
theorem Qrla (b:Nat):Q5ja (Qgka F b0) b=Q5ja F b:=by
 have h1:=Q6ja (F:=Qgka F b0) (b:=b)
 have h2:=Q6ja (F:=F) (b:=b)
 rw[Qama] at h1
 cases hs:Q5ja (Qgka F b0) b<;>cases hr:Q5ja F b<;>simp_all
theorem Qrna:stN (Qgka F b0).sn b0=stN F.sn b0:=by
 unfold Qgka
 rw[Q0la,if_neg o9];omega
theorem Qcoa (hb0:b0<F.bn):stN (Qgka F b0).sn (Qgka F b0).bn=stN F.sn F.bn+1:=Q2oa hb0
theorem Qtna (hb0 : b0 < F.bn) {n : Nat} (hN : n <= stN F.sn F.bn) : pbN (Qgka F b0) n = if n <= stN F.sn b0 then pbN F n else pbN F (n - 1) := by
  have hlt := Q9t (sn := F.sn) hb0 (Nat.zero_le _)
  have hst : ∀ b, stN (Qgka F b0).sn b = stN F.sn b + if b0 < b then 1 else 0 := Q0la
  have key : ∀ b i, b < F.bn -> i <= (Qgka F b0).sn b -> pbN (Qgka F b0) (stN (Qgka F b0).sn b + i) = b := fun b i h1 h2 => (Q7l (F := Qgka F b0) h1 h2).1
  by_cases g : n <= stN F.sn b0
  · rw [if_pos g]
    obtain ⟨h1, h2, h3⟩ := Qoc (F := F) (n := n) o9
    generalize pbN F n = b at h1 h2 h3
    generalize piN F n = i at h2 h3
    have hb : b <= b0 := by
      rcases Nat.lt_or_ge b0 b with g' | g'
      · have := Qfg (sn := F.sn) (show b0 + 1 <= b from g'); simp only [stN] at this; omega
      · exact g'
    have e := key b i h1 (by by_cases q : b = b0
                             · subst q; rw [Qoka]; omega
                             · rw [Qhka q]; exact h2)
    rw [hst, if_neg o9, Nat.add_zero, <- h3] at e
    exact e
  · rw [if_neg g]
    obtain ⟨h1, h2, h3⟩ := Qoc (F := F) (n := n - 1) o9
    generalize pbN F (n - 1) = b at h1 h2 h3
    generalize piN F (n - 1) = i at h2 h3
    have hb : b0 <= b := by
      rcases Nat.lt_or_ge b b0 with g' | g'
      · have := Qfg (sn := F.sn) (show b + 1 <= b0 from g'); simp only [stN] at this; omega
      · exact g'
    by_cases q : b = b0
    · subst q
      have e := key b (i + 1) h1 (by rw [Qoka]; omega)
      rw [hst, if_neg o9, show stN F.sn b + 0 + (i + 1) = n by omega] at e
      exact e
    · have e := key b i h1 (by rw [Qhka q]; exact h2)
      rw [hst, if_pos o9, show stN F.sn b + 1 + i = n by omega] at e
      exact e
end
end Go.Proofs.Ytemnfncbgalljab
