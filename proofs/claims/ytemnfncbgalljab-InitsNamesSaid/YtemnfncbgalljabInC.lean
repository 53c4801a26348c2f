/- Lemmas. No condition. -/
import Derived.Test.YtemnfncbgalljabSvIb
import Derived.Test.YtemnfncbgalljabInB
namespace Go.Proofs.Ytemnfncbgalljab
open Go.RowKit
set_option linter.all false
def opN (F:GFun) (n:Nat):Nat:=if Qge F n=true then Qlea (stAt F n) else if F.jk (pbN F n)=2 then 1 else F.jn (pbN F n)
def opG (F:GFun) (n:Nat):Nat->GOper:=if Qge F n=true then stG (stAt F n) else if F.jk (pbN F n)=2 then (fun _=>F.jo (pbN F n)) else F.ja (pbN F n)
def tlD (F:GFun) (n:Nat):List GDeed:=
 (if Qge F n=true/\(stAt F n).k=1/\4<=(stAt F n).r.k then [⟨(stAt F n).r.p.l,true,false,false⟩] else [])++
 ((if tgW F n=true then [wrD (tgP F n)] else [])++
 ((if Qge F n=true/\(stAt F n).k=3 then [⟨(stAt F n).l,false,false,true⟩] else [])++
 (if Qge F n=false/\F.jk (pbN F n)=3 then [⟨0,true,false,false⟩] else [])))
theorem Qeoa {F:GFun} (hO:F.Ok) {b:Nat} (hb:b<F.bn):(F.jk b=1\/F.jk b=2\/F.jk b=3\/F.jk b=4\/F.jk b=5)/\(F.jk b≠4->F.jn b=0):=by
 have:=hO.okJ hb
 simp only[GJump.ok,GFun.jump,GJump.bare,Bool.or_eq_true,Bool.and_eq_true,beq_iff_eq,List.isEmpty_iff,Q8j] at this
 refine ⟨by omega,fun h=>?_⟩
 have e:(List.range (F.jn b)).map (F.ja b)=[]:=by
  rcases this with ((h1|h1)|h1)|h1
  · exact h1.1.1.1.2.1.2
  · exact h1.1.1.1.2.1.2
  · exact h1.1.1.1.2.1.2
  · omega
 have:=congrArg List.length e
 simpa using this
theorem Qhla {F:GFun} (hO:F.Ok) {n:Nat} (hn:n<stN F.sn F.bn):ptD F (pbN F n) (piN F n)=Qkka (opG F n) (opN F n)++tlD F n:=by
 have hpb:=(Qoc hn).1
 by_cases hi:Qge F n=true
 · have hs:=Qjga hi
   have hlt:piN F n<F.sn (pbN F n):=of_decide_eq_true hi
   have hin:=Q6ga hO hpb hlt
   rw[<-hs] at hin
   unfold ptD tlD opN opG tgP tgW
   simp only[hi,if_pos hlt,if_true,true_and,false_and,if_false,List.append_nil]
   rw[<-hs]
   generalize stAt F n=s at hin
   have hk:=hin.k
   rcases hk with hk|hk|hk|hk
   · have hr:=hin.r hk
     have e1:decide (s.k=1)=true:=decide_eq_true hk
     have gs:∀i,stG s i=rvG s.r i:=fun i=>by simp[stG,hk]
     simp only[stD,rvD,Qlea,rvN,hk,e1,if_true]
     rcases hr with ⟨h1,_⟩|⟨h1,_⟩|h1
     · simp[h1,Qkka,rvG,gs]
     · rcases h1 with h1|h1<;>simp[h1,Qkka,rvG,gs]
     · rcases h1 with h1|h1<;>simp[h1,Qkka]
   · simp[stD,Qlea,stG,hk,Qkka]
   · simp[stD,Qlea,hk,Qkka]
   · simp[stD,Qlea,stG,hk,Qkka]
 · have hi:Qge F n=false:=by simpa using hi
   have hlt:¬piN F n<F.sn (pbN F n):=of_decide_eq_false hi
   unfold ptD tlD opN opG tgP tgW
   simp only[hi,if_neg hlt,Bool.false_eq_true,if_false,false_and,true_and,List.nil_append]
   obtain ⟨hk,h0⟩:=Qeoa hO hpb
   generalize pbN F n=b at hk h0
   rcases hk with hk|hk|hk|hk|hk
   · simp[jmD,hk,h0 o9,Qkka]
   · simp[jmD,hk,Qkka]
   · simp[jmD,hk,h0 o9,Qkka]
   · simp[jmD,hk]
   · simp[jmD,hk,h0 o9,Qkka]
theorem Qkoa {F:GFun} (hO:F.Ok) {n:Nat} (hn:n<stN F.sn F.bn):∀i,i<opN F n->Qraa F.ln (opG F n i):=by
 have hpb:=(Qoc hn).1
 unfold opN opG
 intro i hi
 split at hi
 · rename_i h
   rw[if_pos h]
   have hs:=Qjga h
   have hlt:piN F n<F.sn (pbN F n):=of_decide_eq_true h
   have hin:=Q6ga hO hpb hlt
   rw[<-hs] at hin
   generalize stAt F n=s at hin hi
   unfold Qlea rvN at hi
   unfold stG rvG
   rcases hin.k with hk|hk|hk|hk
   · simp only[hk,if_true] at hi⊢
     rcases hin.r hk with ⟨h1,h2⟩|⟨h1,h2,h3⟩|h1
     · simp only[h1,if_true] at hi
       rw[if_pos o9];exact h2
     · rw[if_neg o9,if_pos h1] at hi
       split
       · exact h2
       · exact h3
     · rw[if_neg o9,if_neg o9] at hi;omega
   · rw[if_neg o9];exact hin.a (.inl hk)
   · simp[hk] at hi
   · rw[if_neg o9];exact hin.a (.inr hk)
 · rename_i h
   rw[if_neg h]
   split at hi
   · rename_i h2;rw[if_pos h2];exact Qyfa hO hpb h2
   · rename_i h2
     rw[if_neg h2]
     by_cases h4:F.jk (pbN F n)=4
     · exact Q89 hO hpb h4 hi
     · have:=(Qeoa hO hpb).2 h4;omega
def mvS (g:Nat->GOper):Nat->Nat->Bool
 | 0,_=>false
 | k+1,l=>mvS g k l||(decide ((g k).k=3)&&decide (l=(g k).p.l.toNat))
theorem Quma (g:Nat->GOper):∀k l,usL (Qkka g k) l=mvS g k l
 | 0,l=>rfl
 | k+1,l=>by
   rw[Qkka,Qcla,Quma g k,mvS]
   congr 1
   unfold opD usL
   split
   · rename_i h;simp[h]
   · simp
end Go.Proofs.Ytemnfncbgalljab
