/- Texts joined: CnC SolveW. No condition. -/
import Derived.Test.YtamcjkgedgocfaaGreatN6
import Derived.Test.YtamcjkgedgocfaaGreatS1
import Derived.Test.YtamcjkgedgocfaaGreatSolveO
import Derived.Test.YtamcjkgedgocfaaGreatX2
namespace Go.Proofs.YtamcjkgedgocfaaGreat
open Go.RowKit
set_option linter.all false
section
theorem Q7t {c:Nat→Nat→Row} {wc:World} {n N:Nat} {B:Nat→Option Addr×Nat} {f:Nat→Nat→Bool} {v:Value} (hx:XOk ⟨[],c,[]⟩ ⟨wc,[]⟩) (hR:RowIs c wc ⟨n,1,fun j=>[.val (.slice (B j).1 N (B j).2)]⟩ v)
 (hB:∀j,j<n→∃q i,c q i=⟨(B j).1,N,(B j).2,1,fun k=>[.bool (f j k)]⟩) (hN:N≤maxLen):∃a cap,v=.slice a n cap∧Sets wc a n (fun _=>N) f:=by
 obtain ⟨a,cap,rfl⟩:=hR.form
 refine ⟨a,cap,rfl,fun hn=>?_⟩
 obtain ⟨b,p,hb,hlt,-⟩:=hR.rowG (j:=0) hn
 refine ⟨b,p,hb,hlt,fun i hi=>?_⟩
 obtain ⟨b',p',hb',_,vs,h1,h2⟩:=hR.rowG (j:=i) hi
 rw[hb] at hb';cases hb'
 match vs,h1 with
 | [u],⟨h1,_⟩=>
   have h1:u=.slice (B i).1 N (B i).2:=h1
   subst h1
   refine ⟨(B i).1,(B i).2,by simpa using h2 0 _ rfl,hN,fun hN0=>?_⟩
   obtain ⟨q,k,hq⟩:=hB i hi
   have hx':=fun j (hj:j<N)=>hx q k j (by simp only[hq];exact hj)
   simp only[hq] at hx'
   obtain ⟨b2,p2,e2,l2,_⟩:=hx' 0 hN0
   refine ⟨b2,p2,e2,l2,fun j hj=>?_⟩
   obtain ⟨b3,p3,e3,_,_,vs,f4,f5⟩:=hx' j hj
   rw[e2] at e3;cases e3
   match vs,f4 with
   | [u],⟨f4,_⟩=>
     have f4:u=.bool (f i j):=f4
     subst f4
     simpa using f5 0 _ rfl
end
section
theorem Qsaa {w:World} {B s n:Nat} {E:TypeId} {v:Value} {xs:List Value} (h:w.ownsRow B E s v n xs) (hx:∀u∈xs,u.oneCell'=true):OwnR w s v n xs∧∀b,v.ownBlock=some b→B≤b∧b<w.heap.size:=by
 refine ⟨⟨h.1,hx,?_⟩,fun b hb=>h.lt b hb⟩
 rcases h.2 with h|⟨g,cap,cur,rfl,_,h3,h4,h5,h6,h7⟩
 · exact .inl h
 · exact .inr ⟨g,0,cap,cur,E,rfl,h3,h4,h5,by omega,by simpa using h7⟩
theorem OS.fams {w:World} {B:Nat} {v:Value} {n N:Nat} {V:Nat→Value} {S:Nat→Nat→Bool} (h:OS w B v n V (fun _=>N) S):
 ∃A:Nat→Option Addr×Nat,RowsAt w Qra B [v] [⟨n,1,fun j=>[.val (.slice (A j).1 N (A j).2)]⟩]∧FamsAt w B [v] (rrG A (nnN n N) S):=by
 have hV:∀i,∃p:Option Addr×Nat,i<n→V i=.slice p.1 N p.2:=fun i=>by
  by_cases hi:i<n
  · obtain ⟨a,c,e,_⟩:=Qdc (h.row i hi)
    exact ⟨(a,c),fun _=>e⟩
  · exact ⟨(none,0),fun g=>absurd g hi⟩
 obtain ⟨A,hA⟩:=Classical.axiomOfChoice hV
 refine ⟨A,⟨rfl,fun i R hi=>?_,fun i j b u u' hi hj _ _=>?_⟩,⟨fun q i j hj=>?_⟩⟩
 · match i,hi with
   | 0,hi=>
     have hi:R=⟨n,1,fun j=>[.val (.slice (A j).1 N (A j).2)]⟩:=(Option.some.inj hi).symm
     subst hi
     obtain ⟨h1,h2⟩:=Qsaa h.top (fun u hu=>by
      obtain ⟨j,hj,rfl⟩:=List.mem_map.1 hu
      rw[hA j (List.mem_range.1 hj)];rfl)
     refine ⟨v,_,rfl,h1,fun j hj=>?_,h2⟩
     have hj:j<n:=hj
     have e:(((List.range n).map V).drop (j * 1)).take 1=[V j]:=by
      rw[Nat.mul_one]
      refine List.ext_getElem? fun k=>?_
      rw[List.getElem?_take,List.getElem?_drop]
      cases k with
      | zero=>simp[List.getElem?_range hj]
      | succ k=>simp
     show isL _ _ ((((List.range n).map V).drop (j * 1)).take 1)
     rw[e]
     exact ⟨hA j hj,trivial⟩
 · match i,j,hi,hj with
   | 0,0,_,_=>rfl
 · unfold rrG at hj⊢
   by_cases hq:q=0
   · rw[if_pos hq] at hj⊢
     simp only at hj⊢
     by_cases hi:i<n
     · rw[Qde hi] at hj
       obtain ⟨g,c,e,h1,h2,_⟩:=Qif (h.row i hi) (by omega)
       have e2:=(hA i hi).symm.trans e
       obtain ⟨e3,-,e4⟩:=Value.slice.inj e2
       refine ⟨g,0,e3,h1,h2,fun u hu hb=>?_,[.bool (S i j)],⟨rfl,trivial⟩,fun t u ht=>?_⟩
       · simp only[List.mem_singleton] at hu
         subst hu
         rcases h.topne hi with g1|g1
         · rw[g1] at hb;cases hb
         · exact g1 (by rw[hb,e];rfl)
       · match t,ht with
         | 0,ht=>
           have ht:=Option.some.inj ht
           subst ht
           have hr:=h.row i hi
           rw[e] at hr
           have:=World.ownsRow.cellAt hr j (by omega)
           rw[Qmk hj] at this
           simpa using this
     · rw[nnN,if_neg hi] at hj;exact absurd hj (Nat.not_lt_zero _)
   · rw[if_neg hq] at hj;exact absurd hj (Nat.not_lt_zero _)
theorem Qgs {c:Nat→Nat→Row} {w:World} {n:Nat} {F T N Y:Nat→Int} {v:Value} (hR:RowIs c w ⟨n,4,fun j=>[.int .i64 (F j),.int .i64 (T j),.int .i64 (N j),.int .u8 (Y j)]⟩ v):∃a cap,v=.slice a n cap∧Cons w a n F T N Y:=by
 obtain ⟨a,cap,rfl⟩:=hR.form
 refine ⟨a,cap,rfl,fun hn=>?_⟩
 obtain ⟨b,p,hb,hlt,-⟩:=hR.rowG (j:=0) hn
 refine ⟨b,p,hb,hlt,fun i hi=>?_⟩
 obtain ⟨b',p',hb',_,vs,h1,h2⟩:=hR.rowG (j:=i) hi
 rw[hb] at hb';cases hb'
 match vs,h1 with
 | [u0,u1,u2,u3],⟨g0,g1,g2,g3,_⟩=>
   have g0:u0=.int .i64 (F i):=g0
   have g1:u1=.int .i64 (T i):=g1
   have g2:u2=.int .i64 (N i):=g2
   have g3:u3=.int .u8 (Y i):=g3
   subst g0 g1 g2 g3
   exact ⟨by simpa using h2 0 _ rfl,by simpa [Nat.add_assoc] using h2 1 _ rfl,by simpa [Nat.add_assoc] using h2 2 _ rfl,by simpa [Nat.add_assoc] using h2 3 _ rfl⟩
noncomputable def Qd6 (n nl:Nat) (F T:Nat→Int) (S:Nat→Nat→Bool) (k j:Nat):Bool:=@decide (∃i,i<n∧Leads nl F T i k∧S i j=true) (Classical.propDecidable _)
theorem Q38 {n N nl:Nat} {F T:Nat→Int} {S X:Nat→Nat→Bool} (h:IsSol n N nl F T S X) {k j:Nat} (hk:k<n) (hj:j<N):X k j=Qd6 n nl F T S k j:=by
 rw[Bool.eq_iff_iff,h k hk j hj]
 unfold Qd6
 simp only[decide_eq_true_eq]
theorem OwnSets.fams {w w':World} {n N nl:Nat} {F T:Nat→Int} {S X:Nat→Nat→Bool} {v:Value} {V:Nat→Value} (hO:OS w' w.heap.size v n V (fun _=>N) X) (hS:IsSol n N nl F T S X):
 ∃A:Nat→Option Addr×Nat,RowsAt w' Qra w.heap.size [v] [⟨n,1,fun j=>[.val (.slice (A j).1 N (A j).2)]⟩]∧FamsAt w' w.heap.size [v] (rrG A (nnN n N) (Qd6 n nl F T S)):=
 (OS.congr hO (L':=fun _=>N) (S':=Qd6 n nl F T S) fun i hi=>⟨rfl,fun j hj=>Q38 hS hi hj⟩).fams
theorem Q37 (n nl N:Nat) (S:Nat→Nat→Bool) (F T Nn Y:Nat→Int) (w:World) (c:Nat→Nat→Row) (v v':Value) (B:Nat→Option Addr×Nat) (hx:XOk ⟨[],c,[]⟩ ⟨w,[]⟩) (hB:∀j,j<n→∃q i,c q i=⟨(B j).1,N,(B j).2,1,fun k=>[.bool (S j k)]⟩)
 (hn:n≤592) (hl:nl≤1152) (hN:N≤600) (hF:Qnv n nl F T) (hR:RowIs c w ⟨n,1,fun j=>[.val (.slice (B j).1 N (B j).2)]⟩ v) (hR':RowIs c w ⟨nl,4,fun j=>[.int .i64 (F j),.int .i64 (T j),.int .i64 (Nn j),.int .u8 (Y j)]⟩ v'):
 Calls Tryz.prog 125 #[v,v'] w (RetX w (fun _:Nat→Option Addr×Nat=>.tup [.one (.rs 0),.one (.int .i64 0)]) (fun A=>[⟨n,1,fun j=>[.val (.slice (A j).1 N (A j).2)]⟩]) (fun A=>rrG A (nnN n N) (Qd6 n nl F T S))):=by
 obtain ⟨a,cap,rfl,hX⟩:=Q7t hx hR hB (by unfold maxLen;omega)
 obtain ⟨a',cap',rfl,hY⟩:=Qgs hR'
 refine (Qtx a a' n nl cap cap' (fun _=>N) S F T Nn Y w hn hl (fun _ _=>rfl) (fun _ _=>hN) hF (Lib.hid (Qc2 hn hl (fun _ _=>hN) (fun _ _=>rfl) hF)) hX hY).mono ?_
 rintro e w' ⟨v,V,X,rfl,hO,hS,hb⟩
 obtain ⟨A,h1,h2⟩:=OwnSets.fams hO hS
 obtain ⟨a2,c2,rfl,_⟩:=Qdc hO.top
 exact ⟨A,_,_,rfl,hb,h1,⟨_,rfl,⟨rfl,rfl⟩,rfl,trivial⟩,h2⟩
end
end Go.Proofs.YtamcjkgedgocfaaGreat
