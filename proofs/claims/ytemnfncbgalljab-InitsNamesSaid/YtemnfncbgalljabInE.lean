/- Lemmas. No condition. -/
import Derived.Test.YtemnfncbgalljabIrC
import Derived.Test.YtemnfncbgalljabIrB
namespace Go.Proofs.Ytemnfncbgalljab
open Go.RowKit
set_option linter.all false
def stB (F:GFun) (n:Nat) (x:Int):Bool:=tgW F n&&Q6a (tgP F n)&&decide ((tgP F n).l=x)
def Qtma (F:GFun) (n:Nat) (x:Int):Bool:= !(tgW F n&&Q6a (tgP F n)&&decide ((tgP F n).l=x))&&(decide (0<mvN (opG F n) x (opN F n))||(Qge F n&&decide ((stAt F n).k=3)&&decide ((stAt F n).l=x)))
theorem Qnma {n:Nat} {g:Nat->GOper} {l:Nat}:∀{k},(∀i,i<k->Qraa n (g i))->(0<mvN g (.ofNat l) k↔mvS g k l=true)
 | 0,_=>by simp[mvN,mvS]
 | k+1,h=>by
   have ih:=Qnma (l:=l) (k:=k) (fun i hi=>h i o9)
   simp only[mvN,mvS,Bool.or_eq_true,<-ih,Bool.and_eq_true,decide_eq_true_eq]
   by_cases g3:(g k).k=3
   · have hp:0<=(g k).p.l:=by
      rcases h k o9 with h2|h2
      · omega
      · exact h2.2.1
     by_cases e:(g k).p.l=.ofNat l
     · rw[if_pos ⟨g3,e⟩]
       have e2:l=(g k).p.l.toNat:=by rw[e];rfl
       exact ⟨fun _=>.inr ⟨g3,e2⟩,fun _=>by omega⟩
     · rw[if_neg (fun q=>e q.2)]
       have e2:¬l=(g k).p.l.toNat:=fun q=>e (by rw[q];simp only[Int.ofNat_eq_natCast];omega)
       exact ⟨fun q=>.inl q,fun q=>q.resolve_right (fun r=>e2 r.2)⟩
   · rw[if_neg (fun q=>g3 q.1)]
     exact ⟨fun q=>.inl q,fun q=>q.resolve_right (fun r=>g3 r.1)⟩
theorem Q3oa {n:Nat} {g:Nat->GOper} {l:Nat} {k:Nat} (h:∀i,i<k->Qraa n (g i)):decide (0<mvN g (.ofNat l) k)=mvS g k l:=by
 rw[Bool.eq_iff_iff,decide_eq_true_eq];exact Qnma h
theorem Q9na (g:Nat->GOper) (l:Nat) (k:Nat):gsL (Qkka g k) l=false:=by
 rw[<-Bool.not_eq_true];intro h
 obtain ⟨d,hd,h⟩:=List.any_eq_true.1 h
 rw[Qvla k d hd] at h;cases h
theorem Q8na {F:GFun} (hO:F.Ok) {n:Nat} (hn:n<stN F.sn F.bn) (l:Nat):gsL (ptD F (pbN F n) (piN F n)) l=stB F n (.ofNat l):=by
 have hin:=Q1la hO (i:=piN F n) (Qoc hn).1
 rw[Qhla hO hn] at hin⊢
 rw[Qpla,Q9na,Bool.false_or]
 unfold tlD stB at *
 simp only[Qpla]
 have e1:∀(p:Prop) [Decidable p] (d:GDeed),d.st=false->gsL (if p then [d] else []) l=false:=fun p _ d h=>by
  split<;>simp[gsL,h]
 rw[e1 _ ⟨(stAt F n).r.p.l,true,false,false⟩ rfl,e1 _ ⟨(stAt F n).l,false,false,true⟩ rfl,e1 _ ⟨0,true,false,false⟩ rfl,Bool.false_or,Bool.or_false,Bool.or_false]
 cases hw:tgW F n
 · simp[gsL]
 · have hp:=(hin (wrD (tgP F n)) (by simp[hw])).1
   have hp:0<=(tgP F n).l:=hp
   simp only[if_true,gsL,List.any_cons,List.any_nil,Bool.or_false,Bool.true_and,wrD]
   congr 1
   rw[Bool.eq_iff_iff]
   simp only[decide_eq_true_eq,Int.ofNat_eq_natCast]
   omega
theorem Q7oa {F:GFun} (hO:F.Ok) {n:Nat} (hn:n<stN F.sn F.bn) (l:Nat):(!gsL (ptD F (pbN F n) (piN F n)) l&&usL (ptD F (pbN F n) (piN F n)) l)=Qtma F n (.ofNat l):=by
 rw[Q8na hO hn]
 unfold Qtma stB
 congr 1
 have hin:=Q1la hO (i:=piN F n) (Qoc hn).1
 rw[Qhla hO hn] at hin⊢
 rw[Qcla,Quma,Q3oa (Qkoa hO hn)]
 congr 1
 unfold tlD at *
 simp only[Qcla]
 have e1:∀(p:Prop) [Decidable p] (d:GDeed),d.un=false->usL (if p then [d] else []) l=false:=fun p _ d h=>by
  split<;>simp[usL,h]
 rw[e1 _ ⟨(stAt F n).r.p.l,true,false,false⟩ rfl,e1 _ (wrD _) rfl,e1 _ ⟨0,true,false,false⟩ rfl,Bool.false_or,Bool.false_or,Bool.or_false]
 by_cases g:Qge F n=true/\(stAt F n).k=3
 · have hp:0<=(stAt F n).l:=(hin ⟨(stAt F n).l,false,false,true⟩ (by simp[g])).1
   rw[if_pos g,g.1,decide_eq_true g.2]
   simp only[usL,List.any_cons,List.any_nil,Bool.or_false,Bool.true_and]
   rw[Bool.eq_iff_iff]
   simp only[decide_eq_true_eq,Int.ofNat_eq_natCast]
   omega
 · rw[if_neg g]
   have:(Qge F n&&decide ((stAt F n).k=3))=false:=by
    rw[<-Bool.not_eq_true];intro h;simp at h;exact g h
   rw[this];rfl
noncomputable def unG (F:GFun) (l:Nat):SwG:=⟨stN F.sn F.bn,Qbd F,fun m b=>Q5ja F (pbN F m)&&(Qtma F m (.ofNat l)||(b&&!stB F m (.ofNat l))),fun n=>decide (n=0)&&(decide (l<1)||decide (F.pa<Int.ofNat l))⟩
theorem Qvoa {F:GFun} (hO:F.Ok) {l n:Nat} (hn:n<stN F.sn F.bn):(unG F l).sB n=(Qjka F).unB l n:=by
 have hr:∀m,m<stN F.sn F.bn->(ReachG (Q0g F) m↔Q5ja F (pbN F m)=true):=fun m hm=>Qzka hO hm
 have hlt:∀j,ReachG (Q0g F) j->j<stN F.sn F.bn:=fun j h=>by
  induction h with
  | zero=>exact Qdl hO
  | step _ hn ih=>exact Qgi hO ih _ hn
 have hg:∀m,m<stN F.sn F.bn->(Qjka F).gS m l=stB F m (.ofNat l):=fun m hm=>Q8na hO hm l
 have hu:∀m,m<stN F.sn F.bn->(!(Qjka F).gS m l&&(Qjka F).uS m l)=Qtma F m (.ofNat l):=fun m hm=>Q7oa hO hm l
 have hi:(Qjka F).i0 l= !(decide (l<1)||decide (F.pa<Int.ofNat l)):=by
  show (decide (1<=l)&&decide (Int.ofNat l<=F.pa))=_
  rw[Bool.eq_iff_iff]
  simp only[Bool.and_eq_true,decide_eq_true_eq,Bool.not_eq_true',Bool.or_eq_false_iff,decide_eq_false_iff_not]
  omega
 have key:Cl (unG F l).Z (unG F l).R n↔Cl ((Qjka F).Z l) ((Qjka F).R l) n:=by
  constructor
  · intro h
    induction h with
    | zero h=>
      rcases h with h|⟨m,h1,h2,h3⟩
      · have h2:(decide (_=0)&&(decide (l<1)||decide (F.pa<Int.ofNat l)))=true:=h.2
        simp only[Bool.and_eq_true] at h2
        exact .zero (.inl ⟨of_decide_eq_true h2.1,by rw[hi,h2.2];rfl⟩)
      · have h2:(Q5ja F (pbN F m)&&(Qtma F m (.ofNat l)||(false&&!stB F m (.ofNat l))))=true:=h2
        simp only[Bool.false_and,Bool.or_false,Bool.and_eq_true] at h2
        have h4:=h2.2
        rw[<-hu m h1,Bool.and_eq_true,Bool.not_eq_true'] at h4
        exact .zero (.inr ⟨m,(hr m h1).2 h2.1,h4.1,h4.2,(Qcg h1).1 h3⟩)
    | step _ h ih=>
      rename_i m n' _
      obtain ⟨h1,h2,h3⟩:=h
      have h2:(Q5ja F (pbN F m)&&(Qtma F m (.ofNat l)||(true&&!stB F m (.ofNat l))))=true:=h2
      simp only[Bool.true_and,Bool.and_eq_true,Bool.or_eq_true] at h2
      rcases h2.2 with h4|h4
      · rw[<-hu m h1,Bool.and_eq_true,Bool.not_eq_true'] at h4
        exact .zero (.inr ⟨m,(hr m h1).2 h2.1,h4.1,h4.2,(Qcg h1).1 h3⟩)
      · exact .step (ih h1) ⟨(hr m h1).2 h2.1,by rw[hg m h1];simpa using h4,(Qcg h1).1 h3⟩
  · intro h
    have nl:∀m,ReachG (Q0g F) m->∀q∈Q0g F m,q<stN F.sn F.bn:=fun m h=>Qgi hO (hlt m h)
    clear hn
    induction h with
    | zero h=>
      rcases h with ⟨rfl,h0⟩|⟨m,h1,h2,h3,h4⟩
      · refine .zero (.inl ⟨Qdl hO,?_⟩)
        show (decide (0=0)&&(decide (l<1)||decide (F.pa<Int.ofNat l)))=true
        rw[hi,Bool.not_eq_false'] at h0
        rw[h0];rfl
      · have hm:=hlt m h1
        refine .zero (.inr ⟨m,hm,?_,(Qcg hm).2 h4⟩)
        show (Q5ja F (pbN F m)&&(Qtma F m (.ofNat l)||(false&&!stB F m (.ofNat l))))=true
        rw[(hr m hm).1 h1,<-hu m hm,h2,h3];rfl
    | step _ h ih=>
      rename_i m n' _
      obtain ⟨h1,h2,h3⟩:=h
      have hm:=hlt m h1
      refine .step ih ⟨hm,?_,(Qcg hm).2 h3⟩
      show (Q5ja F (pbN F m)&&(Qtma F m (.ofNat l)||(true&&!stB F m (.ofNat l))))=true
      rw[(hr m hm).1 h1,<-hg m hm,h2];simp
 unfold SwG.sB FlowG.unB
 have h1:=Qmb (Z:=(unG F l).Z) (R:=(unG F l).R) (n:=n)
 have h2:=Qmb (Z:=(Qjka F).Z l) (R:=(Qjka F).R l) (n:=n)
 rw[key] at h1
 cases hs:clB (unG F l).Z (unG F l).R n<;>cases hr:clB ((Qjka F).Z l) ((Qjka F).R l) n<;>simp_all
end Go.Proofs.Ytemnfncbgalljab
