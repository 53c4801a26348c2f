/- Lemmas. No condition. -/
import Derived.Test.YtemnfncbgalljabSxKb
import Derived.Test.YtemnfncbgalljabM6
namespace Go.Proofs.Ytemnfncbgalljab
open Go.RowKit
set_option linter.all false
def tyP:List CK:=[.i .u8,.i .u8]
def opP:List CK:=[.i .u8,.i .i64,.i .i64,.b,.i .u8]
def blP:List CK:=[.s,.i .u8,.i .u8,.i .i64,.i .i64,.b,.i .u8,.i .i64,.i .i64,.i .i64,.s,.i .i64,.b,.i .u8]
def stP:List CK:=[.i .u8,.i .i64,.b,.i .u8,.i .u8,.i .u8,.i .u8,.i .u8,.i .i64,.i .i64,.b,.i .u8,.i .u8,.i .i64,.i .i64,.b,.i .u8,.i .i64,.b,.i .u8,.i .u8,.i .i64,.i .i64,.b,.i .u8,.i .i64]
def Qnda (cs:List SC) (o:Nat):GPlace:=⟨Qeca (Qrba cs o),Qoda (Qrba cs (o+1)),Qeca (Qrba cs (o+2))⟩
def Qjda (cs:List SC) (o:Nat):GOper:=⟨Qeca (Qrba cs o),Qeca (Qrba cs (o+1)),Qnda cs (o+2)⟩
def decR (cs:List SC) (o:Nat):GRv:=⟨Qeca (Qrba cs o),Qeca (Qrba cs (o+1)),Qeca (Qrba cs (o+2)),Qjda cs (o+3),Qjda cs (o+8),Qnda cs (o+13)⟩
def decS (cs:List SC) (o:Nat):GStmt:=⟨Qeca (Qrba cs o),Qnda cs (o+1),decR cs (o+4),Qjda cs (o+20),Qeca (Qrba cs (o+25))⟩
def Qxba (h:List (Option (List SC))) (B:N9z) (pa:Int) (un:Bool) (l b:SC):GFun where
 pa:=pa
 un:=un
 lA:=Qfda B l
 ln:=Qzba l
 lc:=Qhda l
 lk:=fun i=>Qeca (Qrba (cellsOf h l) (i * 2))
 lt:=fun i=>Qeca (Qrba (cellsOf h l) (i * 2+1))
 bA:=Qfda B b
 bn:=Qzba b
 bc:=Qhda b
 sA:=fun i=>Qfda B (Qrba (cellsOf h b) (i * 14))
 sn:=fun i=>Qzba (Qrba (cellsOf h b) (i * 14))
 sc:=fun i=>Qhda (Qrba (cellsOf h b) (i * 14))
 s:=fun i j=>decS (cellsOf h (Qrba (cellsOf h b) (i * 14))) (j * 26)
 jA:=fun i=>Qfda B (Qrba (cellsOf h b) (i * 14+10))
 jn:=fun i=>Qzba (Qrba (cellsOf h b) (i * 14+10))
 jc:=fun i=>Qhda (Qrba (cellsOf h b) (i * 14+10))
 ja:=fun i j=>Qjda (cellsOf h (Qrba (cellsOf h b) (i * 14+10))) (j * 5)
 jk:=fun i=>Qeca (Qrba (cellsOf h b) (i * 14+1))
 jo:=fun i=>Qjda (cellsOf h b) (i * 14+2)
 jf:=fun i=>Qeca (Qrba (cellsOf h b) (i * 14+7))
 jx:=fun i=>Qeca (Qrba (cellsOf h b) (i * 14+8))
 je:=fun i=>Qeca (Qrba (cellsOf h b) (i * 14+9))
 jd:=fun i=>Qnda (cellsOf h b) (i * 14+11)
def Qtca (h:List (Option (List SC))) (l b:SC):Bool:=
 Q3ba h tyP l&&Q3ba h blP b&&decide ((cellsOf h b).length<=Qzba b * 14)&&(List.range (Qzba b)).all fun i=>Q3ba h stP (Qrba (cellsOf h b) (i * 14))&&Q3ba h opP (Qrba (cellsOf h b) (i * 14+10))
theorem Qaca {cs:List SC} {i:Nat} (h:cs.length<=i):Qrba cs i=.any:=by
 unfold Qrba
 rw[Qva,List.getElem?_eq_none h]
theorem Qfca {c:R9z} {w:World} {S:Nat->Value} {B:N9z} {st:St} (hM:MemIs c w S B st) {pa:Int} {un:Bool} {l b:SC} (hok:Qtca st.h l b=true):(Qxba st.h B pa un l b).At w:=by
 simp only[Qtca,Bool.and_eq_true,decide_eq_true_eq,List.all_eq_true,List.mem_range] at hok
 obtain ⟨⟨⟨h1,h2⟩,h3⟩,h4⟩:=hok
 have hs:∀i,Q3ba st.h stP (Qrba (cellsOf st.h b) (i * 14))=true\/Qrba (cellsOf st.h b) (i * 14)=.any:=fun i=>by
  by_cases hi:i<Qzba b
  · exact .inl (h4 i hi).1
  · exact .inr (Qaca o9)
 have hj:∀i,Q3ba st.h opP (Qrba (cellsOf st.h b) (i * 14+10))=true\/Qrba (cellsOf st.h b) (i * 14+10)=.any:=fun i=>by
  by_cases hi:i<Qzba b
  · exact .inl (h4 i hi).2
  · exact .inr (Qaca o9)
 refine ⟨?_,?_,?_,fun i=>?_,fun i=>?_⟩
 · intro q i j hq
   match q with
   | 0=>
     obtain ⟨g,p,ha,hlt,hcell⟩:=Qyba hM h1 (j:=j) hq
     exact ⟨g,p,ha,hlt,by simp,Q4ba B tyP (cellsOf st.h l) (j * tyP.length),(by repeat' (first|exact True.intro|exact rfl|refine And.intro ?_ ?_)),hcell⟩
   | 1=>
     obtain ⟨g,p,ha,hlt,hcell⟩:=Qyba hM h2 (j:=j) hq
     exact ⟨g,p,ha,hlt,by simp,Q4ba B blP (cellsOf st.h b) (j * blP.length),(by repeat' (first|exact True.intro|exact rfl|refine And.intro ?_ ?_)),hcell⟩
   | 2=>
     rcases hs i with h|h
     · obtain ⟨g,p,ha,hlt,hcell⟩:=Qyba hM h (j:=j) hq
       exact ⟨g,p,ha,hlt,by simp,Q4ba B stP (cellsOf st.h (Qrba (cellsOf st.h b) (i * 14))) (j * stP.length),(by repeat' (first|exact True.intro|exact rfl|refine And.intro ?_ ?_)),hcell⟩
     · have hq':j<Qzba (Qrba (cellsOf st.h b) (i * 14)):=hq
       rw[h] at hq'
       simp[Qzba] at hq'
   | q+3=>
     rcases hj i with h|h
     · obtain ⟨g,p,ha,hlt,hcell⟩:=Qyba hM h (j:=j) hq
       exact ⟨g,p,ha,hlt,by simp,Q4ba B opP (cellsOf st.h (Qrba (cellsOf st.h b) (i * 14+10))) (j * opP.length),(by repeat' (first|exact True.intro|exact rfl|refine And.intro ?_ ?_)),hcell⟩
     · have hq':j<Qzba (Qrba (cellsOf st.h b) (i * 14+10)):=hq
       rw[h] at hq'
       simp[Qzba] at hq'
 · have:=Q6ba h1;show Qzba l<=_;omega
 · have:=Q6ba h2;show Qzba b<=_;omega
 · show Qzba (Qrba (cellsOf st.h b) (i * 14))<=_
   rcases hs i with h|h
   · have:=Q6ba h;omega
   · rw[h];simp[Qzba]
 · show Qzba (Qrba (cellsOf st.h b) (i * 14+10))<=_
   rcases hj i with h|h
   · have:=Q6ba h;omega
   · rw[h];simp[Qzba]
end Go.Proofs.Ytemnfncbgalljab
