/- Lemmas. No condition. -/
import Derived.Test.YtemnfncbgalljaaGreatG2
import Derived.Test.YtemnfncbgalljaaGreatX2
import Derived.Test.YtemnfncbgalljaaGreatSolveO
namespace Go.Proofs.YtemnfncbgalljaaGreat
open Go.RowKit
set_option linter.all false
abbrev AdF:=Nat->Option Addr×Nat
def upA (A:AdF) (i:Nat) (y:Option Addr×Nat):AdF:=fun j=>if j=i then y else A j
section
variable {P:Program} {Q:E9z} {c:R9z} {w0:Base}
theorem Q0i (K:Nat) {G:R9z} (hG:∀p i,(G p i).n=0) {k:List Item} {st:St} (hk:noA k=true) (hn:st.qb K=true) (hr:qbR K st.r) (hc:∀q i j,q<K->j<(c q i).n->qbL K ((c q i).el j)=true) (h:Goes P Q (Q3a c K G) w0 k st):Goes P Q c w0 k st:=⟨fun e s a w hce F=>by
 subst hce
 rw[Qkc hk]
 exact h.run ⟨e.rho,Q3a e.chi K G,e.sg⟩ s a w rfl (F.chi (K:=K) (c':=Q3a e.chi K G) (fun q i hl=>(Q4a hl).symm) hn hr hc (fun q i j hl hj=>by rw[Q2a hl,hG] at hj;exact absurd hj (Nat.not_lt_zero _)) (fun q i j b p hl hj=>by rw[Q2a hl,hG] at hj;exact absurd hj (Nat.not_lt_zero _)))⟩
end
theorem RetX.fam {α:Type} {w:World} {x:α->SV} {r:α->List ORow} {G G':α->Nat->Nat->Row} (h:∀A p i j,j<(G' A p i).n->G A p i=G' A p i) {en:Ending} {w':World} (hr:RetX w x r G en w'):RetX w x r G' en w':=by
 obtain ⟨A,v,g,h1,h2,h3,h4,h5⟩:=hr
 refine ⟨A,v,g,h1,h2,h3,h4,⟨fun q i j hj=>?_⟩⟩
 have e:=h A q i j hj
 rw[<-e] at hj
 rw[<-e]
 exact h5.ok q i j hj
section
variable {P:Program} {T:Tb}
theorem Qcc {α:Type} (hT:TOk P T) {w:World} {Y:Inhabited Exs} {fn:Func} {st:St} {X:SV} {x:α->SV} {c0:R9z} {K:Nat} {G:α->Nat->Nat->Row} (A:α) {r:α->List ORow} {sel:List RSrc} (h:Qul T (Q3a c0 K (G A)) st fn.results.toList=some X) (hs:Qaz X (x A)=sel) (hx:Qyo sel X (x A)) (hr:Qtf st sel (r A)) (hn:ndS sel=true)
 (hG:∀p i j,j<(G A p i).n->Qob ((G A p i).el j)=true) (hN:∀p i,(∃j,j<(G A p i).n)->Q3d w (G A p i).a) (hp:Qic (r A)) (hxx:(x A).noX=true):OutOk P (bodyPost P fn (RetX w x r G)) (Q3a c0 K (G A)) ⟨w,[]⟩ (.ret st):=
 Q5d hT h fun e s a w' v hc F hv=>by
  obtain ⟨g,h1,h2,h3,h4⟩:=Q7p F hc hv hx hr hn
  refine ⟨A,v,g,rfl,h2,h3.to hp,Q9i hxx h4,⟨fun q i j hj=>?_⟩⟩
  have e1:e.chi (q+K) i=G A q i:=by rw[hc,Q2a o9,Nat.add_sub_cancel]
  have:=F.ext.ok (q+K) i j (by rw[e1];exact hj)
  rw[e1] at this
  obtain ⟨b,p,f1,f2,_,f4,f5,vs,f6,f7⟩:=this
  refine ⟨b,p,f1,hN q i ⟨j,hj⟩ b p f1,f2,fun u hu hb=>?_,vs,Q2b (hG q i j hj) f6,f7⟩
  rcases h1 u hu b hb with ⟨q',h⟩|⟨k,h⟩
  · exact f5 q' h
  · exact f4 k h
end
theorem Qyi (N:Nat) (ox:B9y):∃(tg:Nat->AdF->Nat->Nat->Row) (th:Nat->AdF->Option Addr×Nat->Nat->Nat->Row) (tu:AdF->Nat->Option Addr×Nat->AdF),tg=(fun i A=>rrG A (nnN i N) ox)/\
 (∀p j,(tg 0 (fun _=>(none,0)) p j).n=0)/\(∀i A p j k,k<(tg i A p j).n->Qob ((tg i A p j).el k)=true)/\(∀i A,(tg i A 0 i).n=0)/\(∀i A (a:Option Addr) (cap:Nat) p' i',¬(p'=0/\i'=i)->th i A (a,cap) p' i'=tg i A p' i')/\
 (∀i A (a:Option Addr) (cap:Nat),th i A (a,cap) 0 i=⟨a,N,cap,1,fun k=>[.bool (ox i k)]⟩)/\(∀i A y,th i A y=tg (i+1) (tu A i y))/\(∀(A:AdF) i y j,j<i->tu A i y j=A j)/\(∀(A:AdF) i (a:Option Addr) (cap:Nat),tu A i (a,cap) i=(a,cap))/\
 (∀{w:World} {A:AdF} {i:Nat} {a:Option Addr} {cap:Nat},(∀j,Q3d w (A j).1)->Q3d w a->∀j,Q3d w (tu A i (a,cap) j).1)/\(∀{w:World} {i:Nat} {A:AdF},(∀j,Q3d w (A j).1)->∀p j,Q3d w (tg i A p j).a):=by
 refine ⟨fun i A=>rrG A (nnN i N) ox,fun i A y p j=>if p=0/\j=i then ⟨y.1,N,y.2,1,fun k=>[.bool (ox i k)]⟩ else rrG A (nnN i N) ox p j,upA,rfl,fun p j=>?_,fun i A p j k h=>Qwc p j k h,fun i A=>?_,fun i A a cap p' i' h=>?_,fun i A a cap=>?_,fun i A y=>?_,fun A i y j h=>?_,fun A i a cap=>?_,fun {w A i a cap} h g j=>?_,fun {w i A} h p j=>?_⟩
 · simp only[rrG,nnN,Nat.not_lt_zero,if_false]
   split<;>rfl
 · simp only[rrG,nnN,if_true,Nat.lt_irrefl,if_false]
 · simp only;rw[if_neg h]
 · simp only[and_self,if_true]
 · funext p j
   simp only[rrG,nnN,upA]
   by_cases p0:p=0
   · subst p0
     by_cases e:j=i
     · subst e;simp
     · by_cases l:j<i
       · have l2:j<i+1:=by omega
         simp[e,l,l2]
       · have l2:¬j<i+1:=by omega
         simp[e,l,l2]
   · simp[p0]
 · simp only[upA];rw[if_neg o9]
 · simp only[upA,if_true]
 · simp only[upA]
   split
   · exact g
   · exact h j
 · simp only[rrG]
   split
   · exact h j
   · intro b p h;cases h
def Qxga (a:Option Addr) (n c size:Nat) (el:Nat->List SC) (a':Option Addr) (n' c' size':Nat) (el':Nat->List SC):Nat->Nat->Row:=fun q _=>match q with
 | 0=>⟨a,n,c,size,el⟩
 | _+1=>⟨a',n',c',size',el'⟩
theorem RowIs.twoS {c:R9z} {w:World} {R R':ORow} {v v':Value} (h:RowIs c w R v) (h':RowIs c w R' v') (hp:∀j,j<R.n->Qob (R.el j)=true) (hp':∀j,j<R'.n->Qob (R'.el j)=true):∃a cap a' cap',v=.slice a R.n cap/\v'=.slice a' R'.n cap'/\XOk ⟨[],Qxga a R.n cap R.es R.el a' R'.n cap' R'.es R'.el,[]⟩ ⟨w,[]⟩:=by
 obtain ⟨a,cap,rfl⟩:=h.form
 obtain ⟨a',cap',rfl⟩:=h'.form
 refine ⟨a,cap,a',cap',rfl,rfl,fun q i j hj=>?_⟩
 match q,hj with
 | 0,hj=>
   obtain ⟨b,p,h1,h2,vs,h3,h4⟩:=h.row (c':=Qxga a R.n cap R.es R.el a' R'.n cap' R'.es R'.el) hp (j:=j) hj
   exact ⟨b,p,h1,h2,by simp,vs,h3,h4⟩
 | q+1,hj=>
   obtain ⟨b,p,h1,h2,vs,h3,h4⟩:=h'.row (c':=Qxga a R.n cap R.es R.el a' R'.n cap' R'.es R'.el) hp' (j:=j) hj
   exact ⟨b,p,h1,h2,by simp,vs,h3,h4⟩
theorem Q7t {c:R9z} {wc:World} {n N:Nat} {B:Nat->Option Addr×Nat} {f:B9y} {v:Value} (hx:XOk ⟨[],c,[]⟩ ⟨wc,[]⟩) (hR:RowIs c wc ⟨n,1,fun j=>[.val (.slice (B j).1 N (B j).2)]⟩ v)
 (hB:∀j,j<n->∃q i,c q i=⟨(B j).1,N,(B j).2,1,fun k=>[.bool (f j k)]⟩) (hN:N<=maxLen):∃a cap,v=.slice a n cap/\Sets wc a n (fun _=>N) f:=by
 obtain ⟨a,cap,rfl⟩:=hR.form
 refine ⟨a,cap,rfl,fun hn=>?_⟩
 obtain ⟨b,p,hb,hlt,-⟩:=hR.rowG (j:=0) hn
 refine ⟨b,p,hb,hlt,fun i hi=>?_⟩
 obtain ⟨b',p',hb',_,vs,h1,h2⟩:=hR.rowG (j:=i) hi
 rw[hb] at hb';cases hb'
 match vs,h1 with
 | [u],⟨h1,_⟩=>
   have h1:u=.slice (B i).1 N (B i).2:=h1
   subst h1
   refine ⟨(B i).1,(B i).2,by simpa using h2 0 _ rfl,hN,fun hN0=>?_⟩
   obtain ⟨q,k,hq⟩:=hB i hi
   have hx':=fun j (hj:j<N)=>hx q k j (by simp only[hq];exact hj)
   simp only[hq] at hx'
   obtain ⟨b2,p2,e2,l2,_⟩:=hx' 0 hN0
   refine ⟨b2,p2,e2,l2,fun j hj=>?_⟩
   obtain ⟨b3,p3,e3,_,_,vs,f4,f5⟩:=hx' j hj
   rw[e2] at e3;cases e3
   match vs,f4 with
   | [u],⟨f4,_⟩=>
     have f4:u=.bool (f i j):=f4
     subst f4
     simpa using f5 0 _ rfl
theorem Qsaa {w:World} {B s n:Nat} {E:TypeId} {v:Value} {xs:List Value} (h:w.ownsRow B E s v n xs) (hx:∀u∈xs,u.oneCell'=true):OwnR w s v n xs/\∀b,v.ownBlock=some b->B<=b/\b<w.heap.size:=by
 refine ⟨⟨h.1,hx,?_⟩,fun b hb=>h.lt b hb⟩
 rcases h.2 with h|⟨g,cap,cur,rfl,_,h3,h4,h5,h6,h7⟩
 · exact .inl h
 · exact .inr ⟨g,0,cap,cur,E,rfl,h3,h4,h5,by omega,by simpa using h7⟩
theorem OS.fams {w:World} {B:Nat} {v:Value} {n N:Nat} {V:Nat->Value} {S:B9y} (h:OS w B v n V (fun _=>N) S):
 ∃A:Nat->Option Addr×Nat,RowsAt w Qra B [v] [⟨n,1,fun j=>[.val (.slice (A j).1 N (A j).2)]⟩]/\FamsAt w B [v] (rrG A (nnN n N) S):=by
 have hV:∀i,∃p:Option Addr×Nat,i<n->V i=.slice p.1 N p.2:=fun i=>by
  by_cases hi:i<n
  · obtain ⟨a,c,e,_⟩:=Qdc (h.row i hi)
    exact ⟨(a,c),fun _=>e⟩
  · exact ⟨(none,0),fun g=>absurd g hi⟩
 obtain ⟨A,hA⟩:=Classical.axiomOfChoice hV
 refine ⟨A,⟨rfl,fun i R hi=>?_,fun i j b u u' hi hj _ _=>?_⟩,⟨fun q i j hj=>?_⟩⟩
 · match i,hi with
   | 0,hi=>
     have hi:R=⟨n,1,fun j=>[.val (.slice (A j).1 N (A j).2)]⟩:=(Option.some.inj hi).symm
     subst hi
     obtain ⟨h1,h2⟩:=Qsaa h.top (fun u hu=>by
      obtain ⟨j,hj,rfl⟩:=List.mem_map.1 hu
      rw[hA j (List.mem_range.1 hj)];rfl)
     refine ⟨v,_,rfl,h1,fun j hj=>?_,h2⟩
     have hj:j<n:=hj
     have e:(((List.range n).map V).drop (j * 1)).take 1=[V j]:=by
      rw[Nat.mul_one]
      refine List.ext_getElem? fun k=>?_
      rw[List.getElem?_take,List.getElem?_drop]
      cases k with
      | zero=>simp[List.getElem?_range hj]
      | succ k=>simp
     show isL _ _ ((((List.range n).map V).drop (j * 1)).take 1)
     rw[e]
     exact ⟨hA j hj,trivial⟩
 · match i,j,hi,hj with
   | 0,0,_,_=>rfl
 · unfold rrG at hj⊢
   by_cases hq:q=0
   · rw[if_pos hq] at hj⊢
     simp only at hj⊢
     by_cases hi:i<n
     · rw[Qde hi] at hj
       obtain ⟨g,c,e,h1,h2,_⟩:=Qif (h.row i hi) o9
       have e2:=(hA i hi).symm.trans e
       obtain ⟨e3,-,e4⟩:=Value.slice.inj e2
       refine ⟨g,0,e3,h1,h2,fun u hu hb=>?_,[.bool (S i j)],⟨rfl,trivial⟩,fun t u ht=>?_⟩
       · simp only[List.mem_singleton] at hu
         subst hu
         rcases h.topne hi with g1|g1
         · rw[g1] at hb;cases hb
         · exact g1 (by rw[hb,e];rfl)
       · match t,ht with
         | 0,ht=>
           have ht:=Option.some.inj ht
           subst ht
           have hr:=h.row i hi
           rw[e] at hr
           have:=World.ownsRow.cellAt hr j o9
           rw[Qmk hj] at this
           simpa using this
     · rw[nnN,if_neg hi] at hj;exact absurd hj (Nat.not_lt_zero _)
   · rw[if_neg hq] at hj;exact absurd hj (Nat.not_lt_zero _)
theorem Qgs {c:R9z} {w:World} {n:Nat} {F T N Y:I9z} {v:Value} (hR:RowIs c w ⟨n,4,fun j=>[.int .i64 (F j),.int .i64 (T j),.int .i64 (N j),.int .u8 (Y j)]⟩ v):∃a cap,v=.slice a n cap/\Cons w a n F T N Y:=by
 obtain ⟨a,cap,rfl⟩:=hR.form
 refine ⟨a,cap,rfl,fun hn=>?_⟩
 obtain ⟨b,p,hb,hlt,-⟩:=hR.rowG (j:=0) hn
 refine ⟨b,p,hb,hlt,fun i hi=>?_⟩
 obtain ⟨b',p',hb',_,vs,h1,h2⟩:=hR.rowG (j:=i) hi
 rw[hb] at hb';cases hb'
 match vs,h1 with
 | [u0,u1,u2,u3],⟨g0,g1,g2,g3,_⟩=>
   have g0:u0=.int .i64 (F i):=g0
   have g1:u1=.int .i64 (T i):=g1
   have g2:u2=.int .i64 (N i):=g2
   have g3:u3=.int .u8 (Y i):=g3
   subst g0 g1 g2 g3
   exact ⟨by simpa using h2 0 _ rfl,by simpa [Nat.add_assoc] using h2 1 _ rfl,by simpa [Nat.add_assoc] using h2 2 _ rfl,by simpa [Nat.add_assoc] using h2 3 _ rfl⟩
noncomputable def Qd6 (n nl:Nat) (F T:I9z) (S:B9y) (k j:Nat):Bool:=@decide (∃i,i<n/\Leads nl F T i k/\S i j=true) (Classical.propDecidable _)
theorem Q38 {n N nl:Nat} {F T:I9z} {S X:B9y} (h:IsSol n N nl F T S X) {k j:Nat} (hk:k<n) (hj:j<N):X k j=Qd6 n nl F T S k j:=by
 rw[Bool.eq_iff_iff,h k hk j hj]
 unfold Qd6
 simp only[decide_eq_true_eq]
theorem OwnSets.fams {w w':World} {n N nl:Nat} {F T:I9z} {S X:B9y} {v:Value} {V:Nat->Value} (hO:OS w' w.heap.size v n V (fun _=>N) X) (hS:IsSol n N nl F T S X):
 ∃A:Nat->Option Addr×Nat,RowsAt w' Qra w.heap.size [v] [⟨n,1,fun j=>[.val (.slice (A j).1 N (A j).2)]⟩]/\FamsAt w' w.heap.size [v] (rrG A (nnN n N) (Qd6 n nl F T S)):=
 (OS.congr hO (L':=fun _=>N) (S':=Qd6 n nl F T S) fun i hi=>⟨rfl,fun j hj=>Q38 hS hi hj⟩).fams
theorem Q37 (n nl N:Nat) (S:B9y) (F T Nn Y:I9z) (w:World) (c:R9z) (v v':Value) (B:Nat->Option Addr×Nat) (hx:XOk ⟨[],c,[]⟩ ⟨w,[]⟩) (hB:∀j,j<n->∃q i,c q i=⟨(B j).1,N,(B j).2,1,fun k=>[.bool (S j k)]⟩)
 (hn:n<=592) (hl:nl<=1152) (hN:N<=600) (hF:Qnv n nl F T) (hR:RowIs c w ⟨n,1,fun j=>[.val (.slice (B j).1 N (B j).2)]⟩ v) (hR':RowIs c w ⟨nl,4,fun j=>[.int .i64 (F j),.int .i64 (T j),.int .i64 (Nn j),.int .u8 (Y j)]⟩ v'):
 Calls Tryz.prog 202 #[v,v'] w (RetX w (fun _:Nat->Option Addr×Nat=>.tup [.one (.rs 0),.one (.int .i64 0)]) (fun A=>[⟨n,1,fun j=>[.val (.slice (A j).1 N (A j).2)]⟩]) (fun A=>rrG A (nnN n N) (Qd6 n nl F T S))):=by
 obtain ⟨a,cap,rfl,hX⟩:=Q7t hx hR hB (by unfold maxLen;omega)
 obtain ⟨a',cap',rfl,hY⟩:=Qgs hR'
 refine (Qtx a a' n nl cap cap' (fun _=>N) S F T Nn Y w hn hl (fun _ _=>rfl) (fun _ _=>hN) hF (Lib.hid (Qc2 hn hl (fun _ _=>hN) (fun _ _=>rfl) hF)) hX hY).mono ?_
 rintro e w' ⟨v,V,X,rfl,hO,hS,hb⟩
 obtain ⟨A,h1,h2⟩:=OwnSets.fams hO hS
 obtain ⟨a2,c2,rfl,_⟩:=Qdc hO.top
 exact ⟨A,_,_,rfl,hb,h1,⟨_,rfl,⟨rfl,rfl⟩,rfl,trivial⟩,h2⟩
theorem Qe6 (n nl N:Nat) (S:B9y) (F T Nn Y:I9z) (w:World) (c:R9z) (v v':Value) (B:Nat->Option Addr×Nat) (hx:XOk ⟨[],c,[]⟩ ⟨w,[]⟩) (hB:∀j,j<n->∃q i,c q i=⟨(B j).1,N,(B j).2,1,fun k=>[.bool (S j k)]⟩)
 (hn:n<=592) (hl:nl<=1152) (hN:N<=600) (hF:Qnv n nl F T) (hR:RowIs c w ⟨n,1,fun j=>[.val (.slice (B j).1 N (B j).2)]⟩ v) (hR':RowIs c w ⟨nl,4,fun j=>[.int .i64 (F j),.int .i64 (T j),.int .i64 (Nn j),.int .u8 (Y j)]⟩ v'):
 Calls Tryz.prog 145 #[v,v'] w (RetX w (fun _:Nat->Option Addr×Nat=>.pt (.one (.rs 0))) (fun A=>[⟨n,1,fun j=>[.val (.slice (A j).1 N (A j).2)]⟩]) (fun A=>rrG A (nnN n N) (Qd6 n nl F T S))):=by
 obtain ⟨a,cap,rfl,hX⟩:=Q7t hx hR hB (by unfold maxLen;omega)
 obtain ⟨a',cap',rfl,hY⟩:=Qgs hR'
 refine (Qev a a' n nl cap cap' (fun _=>N) S F T Nn Y w hn hl (fun _ _=>rfl) (fun _ _=>hN) hF hX hY).mono ?_
 rintro e w' ⟨v,V,X,rfl,hO,hS,hb⟩
 obtain ⟨A,h1,h2⟩:=OwnSets.fams hO hS
 obtain ⟨a2,c2,rfl,_⟩:=Qdc hO.top
 exact ⟨A,_,_,rfl,hb,h1,⟨rfl,rfl⟩,h2⟩
end Go.Proofs.YtemnfncbgalljaaGreat
