/- Texts joined: SmA SmB. No condition. -/
import Derived.Test.YtamcjkgedgocfaaGreatN6
import Derived.Test.YtamcjkgedgocfaaGreatG2
import Derived.Test.YtamcjkgedgocfaaGreatX2
import Derived.Test.YtamcjkgedgocfaaGreatM5
import Derived.Test.YtamcjkgedgocfaaGreatN5
namespace Go.Proofs.YtamcjkgedgocfaaGreat
open Go.RowKit
set_option linter.all false
section
end
section
abbrev AdF:=Nat→Option Addr×Nat
def upA (A:AdF) (i:Nat) (y:Option Addr×Nat):AdF:=fun j=>if j=i then y else A j
section
variable {P:Program} {Q:Exit→Act→World→Prop} {c:Nat→Nat→Row} {w0:Base}
theorem Q0i (K:Nat) {G:Nat→Nat→Row} (hG:∀p i,(G p i).n=0) {k:List Item} {st:St} (hk:noA k=true) (hn:st.qb K=true) (hr:qbR K st.r) (hc:∀q i j,q<K→j<(c q i).n→qbL K ((c q i).el j)=true) (h:Goes P Q (Q3a c K G) w0 k st):Goes P Q c w0 k st:=⟨fun e s a w hce F=>by
 subst hce
 rw[Qkc hk]
 exact h.run ⟨e.rho,Q3a e.chi K G,e.sg⟩ s a w rfl (F.chi (K:=K) (c':=Q3a e.chi K G) (fun q i hl=>(Q4a hl).symm) hn hr hc (fun q i j hl hj=>by rw[Q2a hl,hG] at hj;exact absurd hj (Nat.not_lt_zero _)) (fun q i j b p hl hj=>by rw[Q2a hl,hG] at hj;exact absurd hj (Nat.not_lt_zero _)))⟩
end
theorem RetX.fam {α:Type} {w:World} {x:α→SV} {r:α→List ORow} {G G':α→Nat→Nat→Row} (h:∀A p i j,j<(G' A p i).n→G A p i=G' A p i) {en:Ending} {w':World} (hr:RetX w x r G en w'):RetX w x r G' en w':=by
 obtain ⟨A,v,g,h1,h2,h3,h4,h5⟩:=hr
 refine ⟨A,v,g,h1,h2,h3,h4,⟨fun q i j hj=>?_⟩⟩
 have e:=h A q i j hj
 rw[←e] at hj
 rw[←e]
 exact h5.ok q i j hj
section
variable {P:Program} {T:Tb}
theorem Qcc {α:Type} (hT:TOk P T) {w:World} {Y:Inhabited Exs} {fn:Func} {st:St} {X:SV} {x:α→SV} {c0:Nat→Nat→Row} {K:Nat} {G:α→Nat→Nat→Row} (A:α) {r:α→List ORow} {sel:List RSrc} (h:Qul T (Q3a c0 K (G A)) st fn.results.toList=some X) (hs:Qaz X (x A)=sel) (hx:Qyo sel X (x A)) (hr:Qtf st sel (r A)) (hn:ndS sel=true)
 (hG:∀p i j,j<(G A p i).n→Qob ((G A p i).el j)=true) (hN:∀p i,(∃j,j<(G A p i).n)→Q3d w (G A p i).a) (hp:Qic (r A)) (hxx:(x A).noX=true):OutOk P (bodyPost P fn (RetX w x r G)) (Q3a c0 K (G A)) ⟨w,[]⟩ (.ret st):=
 Q5d hT h fun e s a w' v hc F hv=>by
  obtain ⟨g,h1,h2,h3,h4⟩:=Q7p F hc hv hx hr hn
  refine ⟨A,v,g,rfl,h2,h3.to hp,Q9i hxx h4,⟨fun q i j hj=>?_⟩⟩
  have e1:e.chi (q+K) i=G A q i:=by rw[hc,Q2a (by omega),Nat.add_sub_cancel]
  have:=F.ext.ok (q+K) i j (by rw[e1];exact hj)
  rw[e1] at this
  obtain ⟨b,p,f1,f2,_,f4,f5,vs,f6,f7⟩:=this
  refine ⟨b,p,f1,hN q i ⟨j,hj⟩ b p f1,f2,fun u hu hb=>?_,vs,Q2b (hG q i j hj) f6,f7⟩
  rcases h1 u hu b hb with ⟨q',h⟩|⟨k,h⟩
  · exact f5 q' h
  · exact f4 k h
end
theorem Qyi (N:Nat) (ox:Nat→Nat→Bool):∃(tg:Nat→AdF→Nat→Nat→Row) (th:Nat→AdF→Option Addr×Nat→Nat→Nat→Row) (tu:AdF→Nat→Option Addr×Nat→AdF),tg=(fun i A=>rrG A (nnN i N) ox)∧
 (∀p j,(tg 0 (fun _=>(none,0)) p j).n=0)∧(∀i A p j k,k<(tg i A p j).n→Qob ((tg i A p j).el k)=true)∧(∀i A,(tg i A 0 i).n=0)∧(∀i A (a:Option Addr) (cap:Nat) p' i',¬(p'=0∧i'=i)→th i A (a,cap) p' i'=tg i A p' i')∧
 (∀i A (a:Option Addr) (cap:Nat),th i A (a,cap) 0 i=⟨a,N,cap,1,fun k=>[.bool (ox i k)]⟩)∧(∀i A y,th i A y=tg (i+1) (tu A i y))∧(∀(A:AdF) i y j,j<i→tu A i y j=A j)∧(∀(A:AdF) i (a:Option Addr) (cap:Nat),tu A i (a,cap) i=(a,cap))∧
 (∀{w:World} {A:AdF} {i:Nat} {a:Option Addr} {cap:Nat},(∀j,Q3d w (A j).1)→Q3d w a→∀j,Q3d w (tu A i (a,cap) j).1)∧(∀{w:World} {i:Nat} {A:AdF},(∀j,Q3d w (A j).1)→∀p j,Q3d w (tg i A p j).a):=by
 refine ⟨fun i A=>rrG A (nnN i N) ox,fun i A y p j=>if p=0∧j=i then ⟨y.1,N,y.2,1,fun k=>[.bool (ox i k)]⟩ else rrG A (nnN i N) ox p j,upA,rfl,fun p j=>?_,fun i A p j k h=>Qwc p j k h,fun i A=>?_,fun i A a cap p' i' h=>?_,fun i A a cap=>?_,fun i A y=>?_,fun A i y j h=>?_,fun A i a cap=>?_,fun {w A i a cap} h g j=>?_,fun {w i A} h p j=>?_⟩
 · simp only[rrG,nnN,Nat.not_lt_zero,if_false]
   split<;>rfl
 · simp only[rrG,nnN,if_true,Nat.lt_irrefl,if_false]
 · simp only;rw[if_neg h]
 · simp only[and_self,if_true]
 · funext p j
   simp only[rrG,nnN,upA]
   by_cases p0:p=0
   · subst p0
     by_cases e:j=i
     · subst e;simp
     · by_cases l:j<i
       · have l2:j<i+1:=by omega
         simp[e,l,l2]
       · have l2:¬j<i+1:=by omega
         simp[e,l,l2]
   · simp[p0]
 · simp only[upA];rw[if_neg (by omega)]
 · simp only[upA,if_true]
 · simp only[upA]
   split
   · exact g
   · exact h j
 · simp only[rrG]
   split
   · exact h j
   · intro b p h;cases h
end
end Go.Proofs.YtamcjkgedgocfaaGreat
