/- Lemmas. No condition. -/
import Derived.Test.YtemnfncbgalljaaGreatC4
import Derived.Test.YtemnfncbgalljaaGreatE5
namespace Go.Proofs.YtemnfncbgalljaaGreat
open Go.RowKit
set_option linter.all false
set_option maxRecDepth 100000
set_option maxHeartbeats 64000000
def Qwl (N P:Nat) (nx:N9z) (nq:Nat->Nat->Nat) (um:N9z) (le:Nat->List SC) (rg kl:B9y) (nn:N9z) (ad A1 A2 A3:AdF):Nat->Nat->Row
 | 0,_=>⟨(ad 0).1,N,(ad 0).2,1,fun j=>[.xs 1 j]⟩
 | 1,i=>⟨(A3 i).1,nx i,(A3 i).2,1,fun k=>[.int .i64 (.ofNat (nq i k))]⟩
 | 2,_=>⟨(ad 1).1,N,(ad 1).2,1,fun j=>[.int .u32 (.ofNat (um j))]⟩
 | 3,_=>⟨(ad 2).1,P,(ad 2).2,6,le⟩
 | 4,_=>⟨(ad 3).1,P,(ad 3).2,1,fun j=>[.xs 5 j]⟩
 | 5,i=>⟨(A1 i).1,nn i,(A1 i).2,1,fun k=>[.bool (rg i k)]⟩
 | 6,_=>⟨(ad 4).1,P,(ad 4).2,1,fun j=>[.xs 7 j]⟩
 | 7,i=>⟨(A2 i).1,nn i,(A2 i).2,1,fun k=>[.bool (kl i k)]⟩
 | _,_=>⟨none,0,0,0,fun _=>[]⟩
theorem Qk4 {N P:Nat} {nx:N9z} {nq:Nat->Nat->Nat} {um:N9z} {le:Nat->List SC} {rg kl:B9y} {nn:N9z} {ad A1 A2 A3:AdF}:∀q i,8<=q->(Qwl N P nx nq um le rg kl nn ad A1 A2 A3 q i).n=0
 | q+8,_,_=>rfl
theorem Qks {N P:Nat} {nx:N9z} {nq:Nat->Nat->Nat} {um:N9z} {le:Nat->List SC} {rg kl:B9y} {nn:N9z} {ad A1 A2 A3:AdF} (hle:∀j,qbL 8 (le j)=true):∀q i j,q<8->j<(Qwl N P nx nq um le rg kl nn ad A1 A2 A3 q i).n->qbL 8 ((Qwl N P nx nq um le rg kl nn ad A1 A2 A3 q i).el j)=true:=fun q i j hq hj=>by
 match q,hq with
 | 0,_=>rfl
 | 1,_=>rfl
 | 2,_=>rfl
 | 3,_=>exact hle j
 | 4,_=>rfl
 | 5,_=>rfl
 | 6,_=>rfl
 | 7,_=>rfl
def Qgba (a b c d e:Option Addr×Nat):AdF
 | 0=>a
 | 1=>b
 | 2=>c
 | 3=>d
 | _=>e
theorem Ql4 {N P:Nat} {nx:N9z} {nq:Nat->Nat->Nat} {um:N9z} {le:Nat->List SC} {rg kl:B9y} {A1 A2 A3:AdF} {c:R9z} {w:World} {v0 v1 v2 v3 v4:Value} (hx:XOk ⟨[],c,[]⟩ ⟨w,[]⟩) (hle:∀j,Qob (le j)=true) (hz:∀i,N<=i->nx i=0)
 (h1:∀j,j<P->∃q i,c q i=⟨(A1 j).1,N,(A1 j).2,1,fun k=>[.bool (rg j k)]⟩) (h2:∀j,j<P->∃q i,c q i=⟨(A2 j).1,N,(A2 j).2,1,fun k=>[.bool (kl j k)]⟩) (h3:∀j,j<N->∃q i,c q i=⟨(A3 j).1,nx j,(A3 j).2,1,fun k=>[.int .i64 (.ofNat (nq j k))]⟩)
 (R0:RowIs c w ⟨N,1,fun j=>[.val (.slice (A3 j).1 (nx j) (A3 j).2)]⟩ v0) (R1:RowIs c w ⟨N,1,fun j=>[.int .u32 (.ofNat (um j))]⟩ v1) (R2:RowIs c w ⟨P,6,le⟩ v2) (R3:RowIs c w ⟨P,1,fun j=>[.val (.slice (A1 j).1 N (A1 j).2)]⟩ v3) (R4:RowIs c w ⟨P,1,fun j=>[.val (.slice (A2 j).1 N (A2 j).2)]⟩ v4):
 ∃ad:AdF,v0=.slice (ad 0).1 N (ad 0).2/\v1=.slice (ad 1).1 N (ad 1).2/\v2=.slice (ad 2).1 P (ad 2).2/\v3=.slice (ad 3).1 P (ad 3).2/\v4=.slice (ad 4).1 P (ad 4).2/\XOk ⟨[],Qwl N P nx nq um le rg kl (nnN P N) ad A1 A2 A3,[]⟩ ⟨w,[]⟩:=by
 obtain ⟨a0,c0,rfl⟩:=R0.form
 obtain ⟨a1,c1,rfl⟩:=R1.form
 obtain ⟨a2,c2,rfl⟩:=R2.form
 obtain ⟨a3,c3,rfl⟩:=R3.form
 obtain ⟨a4,c4,rfl⟩:=R4.form
 refine ⟨Qgba (a0,c0) (a1,c1) (a2,c2) (a3,c3) (a4,c4),rfl,rfl,rfl,rfl,rfl,fun q i j hj=>?_⟩
 generalize hc9:Qwl N P nx nq um le rg kl (nnN P N) (Qgba (a0,c0) (a1,c1) (a2,c2) (a3,c3) (a4,c4)) A1 A2 A3=c9 at hj⊢
 have key:∀(q' i':Nat) (R:Row),c q' i'=R->j<R.n->Qob (R.el j)=true->∃b p,R.a=some ⟨b,p,none⟩/\b<w.heap.size/\b ∉ ([]:List Nat)/\∃vs,isL ⟨[],c9,[]⟩ (R.el j) vs/\∀(t:Nat) (v:Value),vs[t]? =some v->w.cell? ⟨b,p+(j * R.size+t),none⟩=some v:=by
  intro q' i' R e hj hp
  have:=hx q' i' j (by simp only[e];exact hj)
  simp only[e] at this
  obtain ⟨b,p,g1,g2,g3,vs,g4,g5⟩:=this
  exact ⟨b,p,g1,g2,g3,vs,Q2b hp g4,g5⟩
 have keyR:∀{R:ORow} {a:Option Addr} {cap:Nat},RowIs c w R (.slice a R.n cap)->(∀j,j<R.n->Qob (R.el j)=true)->j<R.n->∃b p,a=some ⟨b,p,none⟩/\b<w.heap.size/\b ∉ ([]:List Nat)/\∃vs,isL ⟨[],c9,[]⟩ (R.el j) vs/\∀(t:Nat) (v:Value),vs[t]? =some v->w.cell? ⟨b,p+(j * R.es+t),none⟩=some v:=by
  intro R a cap hR hp hj
  obtain ⟨b,p,h1,h2,vs,h3,h4⟩:=hR.row (c':=c9) hp (j:=j) hj
  exact ⟨b,p,h1,h2,by simp,vs,h3,h4⟩
 have one:∀{u:Value} {q i:Nat} {vs:List Value},isL ⟨[],c9,[]⟩ [.val u] vs->u=.slice (c9 q i).a (c9 q i).n (c9 q i).c->isL ⟨[],c9,[]⟩ [.xs q i] vs:=by
  intro u q i vs h e
  match vs,h with
  | [x],⟨h,_⟩=>
    have h:x=u:=h
    exact ⟨h.trans e,trivial⟩
 subst hc9
 match q,hj with
 | 0,hj=>
   obtain ⟨b,p,g1,g2,g3,vs,g4,g5⟩:=keyR R0 (fun _ _=>rfl) hj
   exact ⟨b,p,g1,g2,g3,vs,one g4 rfl,g5⟩
 | 1,hj=>
   by_cases hi:i<N
   · obtain ⟨q',i',e⟩:=h3 i hi
     exact key q' i' _ e hj rfl
   · have hj:j<nx i:=hj
     rw[hz i o9] at hj;exact absurd hj (Nat.not_lt_zero _)
 | 2,hj=>exact keyR R1 (fun _ _=>rfl) hj
 | 3,hj=>exact keyR R2 (fun j _=>hle j) hj
 | 4,hj=>
   obtain ⟨b,p,g1,g2,g3,vs,g4,g5⟩:=keyR R3 (fun _ _=>rfl) hj
   have hj:j<P:=hj
   refine ⟨b,p,g1,g2,g3,vs,one g4 ?_,g5⟩
   show _=Value.slice (A1 j).1 (nnN P N j) (A1 j).2
   rw[Qde hj]
 | 5,hj=>
   have hj:j<nnN P N i:=hj
   by_cases hi:i<P
   · rw[Qde hi] at hj
     obtain ⟨q',i',e⟩:=h1 i hi
     exact key q' i' ⟨(A1 i).1,N,(A1 i).2,1,fun k=>[.bool (rg i k)]⟩ e hj rfl
   · rw[nnN,if_neg hi] at hj;exact absurd hj (Nat.not_lt_zero _)
 | 6,hj=>
   obtain ⟨b,p,g1,g2,g3,vs,g4,g5⟩:=keyR R4 (fun _ _=>rfl) hj
   have hj:j<P:=hj
   refine ⟨b,p,g1,g2,g3,vs,one g4 ?_,g5⟩
   show _=Value.slice (A2 j).1 (nnN P N j) (A2 j).2
   rw[Qde hj]
 | q+8,hj=>exact absurd hj (Nat.not_lt_zero _)
 | 7,hj=>
   have hj:j<nnN P N i:=hj
   by_cases hi:i<P
   · rw[Qde hi] at hj
     obtain ⟨q',i',e⟩:=h2 i hi
     exact key q' i' ⟨(A2 i).1,N,(A2 i).2,1,fun k=>[.bool (kl i k)]⟩ e hj rfl
   · rw[nnN,if_neg hi] at hj;exact absurd hj (Nat.not_lt_zero _)
theorem Qqb {p:Prop} (h:p:=by (first|((try with_reducible refine Q8c ?_ ?_ ?_ ?_);all_goals (cbv;(try simp only[true_and,and_true]);(try ((repeat' apply And.intro)<;>(first|trivial|rfl|exact RowLe.rfl' _|decide|(rw[Qda har _ o9];done)|((exact Q0a rfl (fun j hj=>⟨rfl,trivial⟩)))|((exact Q0a rfl (fun j hj=>(by (have ej:j=0:=Nat.lt_one_iff.1 hj);subst ej;exact ⟨⟨rfl,rfl⟩,rfl,trivial⟩))))|((exact hS))|((exact hA))|((rw[Qda har i (by have h9:n<=2 * N+1:=qbI hI;omega)];done))|((rw[Qda har t (by have h9:=hnx (show a i<N from qa hI y9);omega)];done))|((exact (hF hI y9).1))|((exact (hF hI y9).2))|fail))));done)|fail)):Pf p:=⟨h⟩
theorem Q7aa (N P k:Nat) (G:WyG) (nx:N9z) (nq:Nat->Nat->Nat) (um lp:N9z) (el:I9z) (ed:B9z) (ef eb lo:I9z) (rg kl:B9y) (nn:N9z) (ad A1 A2 A3:AdF) (w:World) (hk:k<P) (hnk:nn k=N) (hN9:N<=600) (hGN:G.N=N) (hGp:G.p=lp k) (hp:lp k<N) (hGs:∀a,a<N->(G.sc a).length=nx a/\∀t,t<nx a->(G.sc a).getD t 0=nq a t) (hGl:∀a,a<N->∀q∈G.sc a,q<N)
 (hnx2:∀{a:Nat},a<N->nx a<=2) (hGr:∀m,G.rg m=rg k m) (hGk:∀n,G.kl n=kl k n) (hlo:eb k=3->0<=lo k) (hGt:∀{ar:A9z},ar=rAr->eb k=3->∀n,n<N->decide (ar .and .u32 (ar .shr .u32 (.ofNat (um n)) (lo k)) 1=1)=G.tw n) (hGt0:eb k≠3->∀n,G.tw n=false)
 (hX:XOk ⟨[],Qwl N P nx nq um (fun j=>[.int .i64 (.ofNat (lp j)),.int .i64 (el j),.bool (ed j),.int .u8 (ef j),.int .u8 (eb j),.int .i64 (lo j)]) rg kl nn ad A1 A2 A3,[]⟩ ⟨w,[]⟩):
 Calls Tryz.prog 88 #[.agg #[.slice (ad 0).1 N (ad 0).2,.slice (ad 1).1 N (ad 1).2,.slice (ad 2).1 P (ad 2).2,.slice (ad 3).1 P (ad 3).2,.slice (ad 4).1 P (ad 4).2],.int .i64 (.ofNat k)] w (RetR w Qra (.tup [.one (.rs 0),.one (.rs 1)]) [⟨N,1,fun j=>[.bool (G.inB j)]⟩,⟨N,1,fun j=>[.bool (G.usB j)]⟩]):=by
 refine Calls.to (c:=Qwl N P nx nq um (fun j=>[.int .i64 (.ofNat (lp j)),.int .i64 (el j),.bool (ed j),.int .u8 (ef j),.int .u8 (eb j),.int .i64 (lo j)]) rg kl nn ad A1 A2 A3) ⟨fun _ _=>rfl,fun _ _=>rfl,trivial⟩ rfl ?_
 obtain ⟨QI,hQI⟩:=x9 (WyG.WI G:Nat->Nat->(Nat->Nat)->(Nat->Bool)->(Nat->Bool)->(Nat->Bool)->Prop)
 obtain ⟨QJ,hQJ⟩:=x9 (WyG.WJ G:Nat->Nat->Nat->(Nat->Nat)->(Nat->Bool)->(Nat->Bool)->(Nat->Bool)->Prop)
 obtain ⟨tn,htn⟩:=x9 (turn:(Nat->Nat)->Nat->Nat->Nat->Nat)
 obtain ⟨tb,htb⟩:=x9 (turn:(Nat->Bool)->Nat->Bool->Nat->Bool)
 obtain ⟨xw,hxw⟩:=x9 (fun i a u=>u i||(decide (0<i)&&G.tw (a i)):Nat->(Nat->Nat)->(Nat->Bool)->Bool)
 obtain ⟨iB,hiB⟩:=x9 (G.inB:B9z)
 obtain ⟨uB,huB⟩:=x9 (G.usB:B9z)
 have q0:QI 0 1 (fun _=>lp k) (fun _=>false) (fun _=>false) (fun _=>false):=by
  rw[hQI,<-hGp];exact WyG.WI.first (by rw[hGp,hGN];exact hp)
 have qa:∀{i n:Nat} {a:N9z} {u I U:B9z},QI i n a u I U->i<n->a i<N:=fun h hi=>by
  rw[hQI] at h;have:=(h.w _ hi).1;rw[hGN] at this;exact this
 have qja:∀{i t n:Nat} {a:N9z} {u I U:B9z},QJ i t n a u I U->a i<N:=fun h=>by
  rw[hQJ] at h;have:=(h.w _ h.lt).1;rw[hGN] at this;exact this
 have qw:∀{i t n:Nat} {a:N9z} {u I U:B9z},WyG.WJ G i t n a u I U->a i<N/\(G.sc (a i)).length=nx (a i)/\∀t,t<nx (a i)->(G.sc (a i)).getD t 0=nq (a i) t:=fun h=>by
  have:=(h.w _ h.lt).1
  rw[hGN] at this
  exact ⟨this,hGs _ this⟩
 have qx:∀{i:Nat} {a:N9z} {u:B9z},xw i a u=true↔u i=true\/(0<i/\G.tw (a i)=true):=fun {i a u}=>by
  rw[hxw];simp only[Bool.or_eq_true,Bool.and_eq_true,decide_eq_true_eq]
 have qb:∀{i t n:Nat} {a:N9z} {u I U:B9z},QJ i t n a u I U->i<2 * N+1/\n<=2 * N+1:=fun h=>by
  rw[hQJ] at h
  have h1:=h.lt;have h2:=h.len
  rw[hGN] at h2
  omega
 have qbI:∀{i n:Nat} {a:N9z} {u I U:B9z},QI i n a u I U->n<=2 * N+1:=fun h=>by
  rw[hQI] at h
  have h2:=h.len
  rw[hGN] at h2
  omega
 have qlt:∀{i t n:Nat} {a:N9z} {u I U:B9z},QJ i t n a u I U->i<n:=fun h=>by
  rw[hQJ] at h;exact h.lt
 have qsk:∀{i n:Nat} {a:N9z} {u I U:B9z},QI i n a u I U->i<n->kl k (a i)=true->QI (i+1) n a u I U:=fun h hi hk=>by
  rw[hQI] at h⊢;exact h.skip hi (by rw[hGk];exact hk)
 have qen:∀{i n:Nat} {a:N9z} {u I U:B9z},QI i n a u I U->i<n->kl k (a i)=false->QJ i 0 n a u I U:=fun h hi hk=>by
  rw[hQI] at h;rw[hQJ];exact h.enter hi (by rw[hGk];exact hk)
 have qnx:∀{i t n:Nat} {a:N9z} {u I U:B9z},QJ i t n a u I U->nx (a i)<=t->QI (i+1) n a u I U:=fun h ht=>by
  rw[hQJ] at h;rw[hQI];exact h.next (by rw[(qw h).2.1];exact ht)
 have qs1:∀{i t n:Nat} {a:N9z} {u I U:B9z},QJ i t n a u I U->t<nx (a i)->rg k (nq (a i) t)=false->QJ i (t+1) n a u I U:=fun h ht hr=>by
  rw[hQJ] at h⊢
  refine h.same fun g=>?_
  rw[(qw h).2.2 _ ht,hGr,hr] at g;cases g
 have qs2:∀{i t n:Nat} {a:N9z} {u I U:B9z},QJ i t n a u I U->t<nx (a i)->U (nq (a i) t)=true->QJ i (t+1) n a u I U:=fun h ht hr=>by
  rw[hQJ] at h⊢
  refine h.same fun g=>?_
  rw[(qw h).2.2 _ ht]
  exact ⟨h.sub _ hr,fun _=>hr⟩
 have qs3:∀{i t n:Nat} {a:N9z} {u I U:B9z},QJ i t n a u I U->t<nx (a i)->xw i a u=false->I (nq (a i) t)=true->QJ i (t+1) n a u I U:=fun h ht hx hr=>by
  rw[hQJ] at h⊢
  refine h.same fun g=>?_
  rw[(qw h).2.2 _ ht]
  exact ⟨hr,fun g=>by rw[qx.2 g] at hx;cases hx⟩
 have qp1:∀{i t n:Nat} {a:N9z} {u I U:B9z},QJ i t n a u I U->t<nx (a i)->rg k (nq (a i) t)=true->xw i a u=true->U (nq (a i) t)=false->QJ i (t+1) (n+1) (tn a n (nq (a i) t)) (tb u n true) (tb I (nq (a i) t) true) (tb U (nq (a i) t) true):=fun {i t n a u I U} h ht hr hx hu=>by
  rw[hQJ] at h⊢
  have e:=(qw h).2.2 _ ht
  rw[htn,htb,<-e]
  exact h.push (by rw[(qw h).2.1];exact ht) (fun m hm=>by rw[hGN];exact hGl _ (qw h).1 m hm) (by rw[e,hGr];exact hr) true ⟨fun _=>qx.1 hx,fun _=>rfl⟩ (.inl ⟨rfl,by rw[e];exact hu,rfl⟩)
 have qp0:∀{i t n:Nat} {a:N9z} {u I U:B9z},QJ i t n a u I U->t<nx (a i)->rg k (nq (a i) t)=true->xw i a u=false->I (nq (a i) t)=false->QJ i (t+1) (n+1) (tn a n (nq (a i) t)) (tb u n false) (tb I (nq (a i) t) true) U:=fun {i t n a u I U} h ht hr hx hu=>by
  rw[hQJ] at h⊢
  have e:=(qw h).2.2 _ ht
  rw[htn,htb,<-e]
  exact h.push (by rw[(qw h).2.1];exact ht) (fun m hm=>by rw[hGN];exact hGl _ (qw h).1 m hm) (by rw[e,hGr];exact hr) false ⟨fun g=>(by cases g),fun g=>by rw[qx.2 g] at hx;cases hx⟩ (.inr ⟨rfl,by rw[e];exact hu,rfl⟩)
 have r1:∀{i t n:Nat} {a a':N9z} {u' I U:B9z} {x:Bool},QJ i t n a' u' I U/\a' i=a i/\xw i a' u'=x->t<nx (a i)->rg k (nq (a i) t)=false->QJ i (t+1) n a' u' I U/\a' i=a i/\xw i a' u'=x:=fun h ht hr=>by
  obtain ⟨h,e1,e2⟩:=h
  exact ⟨qs1 h (by rw[e1];exact ht) (by rw[e1];exact hr),e1,e2⟩
 have r2:∀{i t n:Nat} {a a':N9z} {u' I U:B9z} {x:Bool},QJ i t n a' u' I U/\a' i=a i/\xw i a' u'=x->t<nx (a i)->U (nq (a i) t)=true->QJ i (t+1) n a' u' I U/\a' i=a i/\xw i a' u'=x:=fun h ht hr=>by
  obtain ⟨h,e1,e2⟩:=h
  exact ⟨qs2 h (by rw[e1];exact ht) (by rw[e1];exact hr),e1,e2⟩
 have r3:∀{i t n:Nat} {a a':N9z} {u' I U:B9z} {x:Bool},QJ i t n a' u' I U/\a' i=a i/\xw i a' u'=x->t<nx (a i)->x=false->I (nq (a i) t)=true->QJ i (t+1) n a' u' I U/\a' i=a i/\xw i a' u'=x:=fun h ht hx hr=>by
  obtain ⟨h,e1,e2⟩:=h
  exact ⟨qs3 h (by rw[e1];exact ht) (e2.trans hx) (by rw[e1];exact hr),e1,e2⟩
 have r4:∀{i t n:Nat} {a a':N9z} {u' I U:B9z} {x:Bool},QJ i t n a' u' I U/\a' i=a i/\xw i a' u'=x->t<nx (a i)->rg k (nq (a i) t)=true->x=true->U (nq (a i) t)=false->QJ i (t+1) (n+1) (tn a' n (nq (a i) t)) (tb u' n true) (tb I (nq (a i) t) true) (tb U (nq (a i) t) true)/\tn a' n (nq (a i) t) i=a i/\xw i (tn a' n (nq (a i) t)) (tb u' n true)=x:=fun {i t n a a' u' I U x} h ht hr hx hu=>by
  obtain ⟨h,e1,e2⟩:=h
  have hq:=qlt h
  refine ⟨?_,?_,?_⟩
  · rw[<-e1];exact qp1 h (by rw[e1];exact ht) (by rw[e1];exact hr) (e2.trans hx) (by rw[e1];exact hu)
  · rw[htn,WyG.turn_ne o9];exact e1
  · rw[<-e2,hxw,htn,htb];simp only[WyG.turn_ne (show i≠n by omega)]
 have r5:∀{i t n:Nat} {a a':N9z} {u' I U:B9z} {x:Bool},QJ i t n a' u' I U/\a' i=a i/\xw i a' u'=x->t<nx (a i)->rg k (nq (a i) t)=true->x=false->I (nq (a i) t)=false->QJ i (t+1) (n+1) (tn a' n (nq (a i) t)) (tb u' n false) (tb I (nq (a i) t) true) U/\tn a' n (nq (a i) t) i=a i/\xw i (tn a' n (nq (a i) t)) (tb u' n false)=x:=fun {i t n a a' u' I U x} h ht hr hx hu=>by
  obtain ⟨h,e1,e2⟩:=h
  have hq:=qlt h
  refine ⟨?_,?_,?_⟩
  · rw[<-e1];exact qp0 h (by rw[e1];exact ht) (by rw[e1];exact hr) (e2.trans hx) (by rw[e1];exact hu)
  · rw[htn,WyG.turn_ne o9];exact e1
  · rw[<-e2,hxw,htn,htb];simp only[WyG.turn_ne (show i≠n by omega)]
 have r6:∀{i t n:Nat} {a a':N9z} {u' I U:B9z} {x:Bool},QJ i t n a' u' I U/\a' i=a i/\xw i a' u'=x->nx (a i)<=t->QI (i+1) n a' u' I U:=fun h ht=>by
  obtain ⟨h,e1,_⟩:=h
  exact qnx h (by rw[e1];exact ht)
 have hnx:∀{a:Nat},a<N->nx a<=2:=hnx2
 have qf:∀{i n:Nat} {a:N9z} {u I U:B9z},QI i n a u I U->n<=i->∀m,I m=iB m/\U m=uB m:=fun h hi m=>by
  rw[hQI] at h;rw[hiB,huB];exact h.fin hi m
 have x1:∀{i:Nat} {a:N9z} {u:B9z},u i=true->true=xw i a u:=fun {i a u} h=>(qx.2 (.inl h)).symm
 have x2:∀{i:Nat} {a:N9z} {u:B9z},u i=false->¬0<i->false=xw i a u:=fun {i a u} h g=>by rw[hxw];simp only[h,decide_eq_false g];rfl
 have x3:∀{i:Nat} {a:N9z} {u:B9z},u i=false->eb k≠3->false=xw i a u:=fun {i a u} h g=>by rw[hxw];simp only[h,hGt0 g,Bool.and_false];rfl
 have x4:∀{ar:A9z},ar=rAr->∀{i:Nat} {a:N9z} {u:B9z},u i=false->0<i->eb k=3->a i<N->decide (ar .and .u32 (ar .shr .u32 (.ofNat (um (a i))) (lo k)) 1=1)=xw i a u:=by
  intro ar har i a u h g g3 ga
  rw[hxw,hGt har g3 _ ga];simp only[h,decide_eq_true g,Bool.true_and,Bool.false_or]
 have hdm:∀{a t:Nat},a<N->t<nx a->nq a t<N:=fun {a t} ha ht=>by
  have h1:=hGs a ha
  rw[<-h1.2 t ht]
  refine hGl a ha _ ?_
  rw[List.getD,List.getElem?_eq_getElem (by rw[h1.1];exact ht)]
  exact List.getElem_mem _
 have tn1:∀{a:N9z} {n m j:Nat},j≠n->tn a n m j=a j:=fun h=>by rw[htn];exact WyG.turn_ne h
 have tn2:∀{a:N9z} {n m:Nat},tn a n m n=m:=by rw[htn];exact WyG.turn_at
 have tb1:∀{a:B9z} {n j:Nat} {m:Bool},j≠n->tb a n m j=a j:=fun h=>by rw[htb];exact WyG.turn_ne h
 have tb2:∀{a:B9z} {n:Nat} {m:Bool},tb a n m n=m:=by rw[htb];exact WyG.turn_at
 have hki:∀x:Nat,x<N->((x:Nat):Int)<((nn k:Nat):Int):=fun x hx=>by rw[hnk];exact Int.ofNat_lt.2 hx
 rw[<-hiB,<-huB]
 clear hQI hQJ htn htb hxw hiB huB qw qx hGs hGl hGr hGk hGt hGt0 hGN hGp hnk
 refine Qaa (args:=[.pt (.agg [.xs 0 0,.xs 2 0,.xs 3 0,.xs 4 0,.xs 6 0]),.pt (.one (.int .i64 (.ofNat k)))]) (c:=(Qwl N P nx nq um (fun j=>[.int .i64 (.ofNat (lp j)),.int .i64 (el j),.bool (ed j),.int .u8 (ef j),.int .u8 (eb j),.int .i64 (lo j)]) rg kl nn ad A1 A2 A3)) Tryz.func88 rfl hX rfl rfl ?_
 obtain ⟨_,_,_,hnt,ar,har,cm,hcm,_,_,_,_,ar01,ar12,zpl,hzpl,zjn,hzjn,zup,hzup,_,_,_,_,hT⟩:=Qca
 have hmk:(N:Int)<=1073741824:=by omega
 have x4:=@x4 ar har
 have hA:∀{n:Nat} {a:N9z} {u:B9z} {m:Nat} {x:Bool},RowLe ⟨zpl n 1,2,zjn n (fun j=>[SC.int .i64 (.ofNat (a j)),SC.bool (u j)]) (fun j=>Qte [SC.int .i64 (.ofNat m),SC.lit x] (0+j * 2) 2)⟩ ⟨n+1,2,fun j=>[.int .i64 (.ofNat (tn a n m j)),.bool (tb u n x j)]⟩:=by
  intro n a u m x
  refine Q7a hzpl hzjn rfl (fun j hj=>?_) ?_
  · rw[tn1 o9,tb1 o9];exact Qpa _
  · rw[tn2,tb2];exact ⟨⟨rfl,rfl⟩,rfl,trivial⟩
 have hS:∀{S:B9z} {m:Nat},RowLe ⟨N,1,zup (fun j=>[SC.bool (S j)]) m 0 [SC.lit true]⟩ ⟨N,1,fun j=>[SC.bool (tb S m true j)]⟩:=by
  intro S m
  refine Qad hzup rfl (fun j hj g=>⟨?_,trivial⟩) (fun _=>⟨?_,trivial⟩)
  · rw[tb1 g];exact rfl
  · rw[tb2];exact rfl
 have hg0:∀i:Nat,cm .gtr (.ofNat i) 0=false->¬0<i:=fun i h g=>by
  rw[hcm] at h
  exact of_decide_eq_false h (Int.natCast_pos.2 g)
 have hg1:∀i:Nat,cm .gtr (.ofNat i) 0=true->0<i:=fun i h=>by
  rw[hcm] at h
  exact Int.natCast_pos.1 (of_decide_eq_true h)
 have hnn:∀X:Int,0<=X->X<X.toNat+1:=fun X h=>by omega
 have hF:∀{i n:Nat} {a:N9z} {u I U:B9z},QI i n a u I U->n<=i->RowLe ⟨N,1,fun j=>[SC.bool (I j)]⟩ ⟨N,1,fun j=>[SC.bool (iB j)]⟩/\RowLe ⟨N,1,fun j=>[SC.bool (U j)]⟩ ⟨N,1,fun j=>[SC.bool (uB j)]⟩:=fun h hi=>⟨Q0a rfl (fun j hj=>⟨(qf h hi j).1,trivial⟩),Q0a rfl (fun j hj=>⟨(qf h hi j).2,trivial⟩)⟩
 refine Qhn ?_
 obtain ⟨zA,zB,zC,zD,zE,zF,hzA,hzB,hzC,hzD,hzE,hzF⟩:∃zA zB zC zD zE zF:Nat,zA=zB+4/\zB=zC+4/\zC=zD+4/\zD=zE+4/\zE=zF+4/\zF=400:=⟨_,_,_,_,_,_,rfl,rfl,rfl,rfl,rfl,rfl⟩
 have hpl:Qic [⟨N,1,fun j=>[.bool (iB j)]⟩,⟨N,1,fun j=>[.bool (uB j)]⟩]:=⟨fun _ _=>rfl,fun _ _=>rfl,trivial⟩
 repeat' (first
  | refine goa ?_|refine go3 (fun hlt=>?_) (fun hge=>?_)|refine go2 (fun h=>?_) (fun h=>?_)|exact go0|refine gof ?_|refine Qvha ?_ ?_
  | ((first|with_reducible apply Qhb hT|with_reducible apply Qna hT);(·(cbv;try rfl));(·(cbv;try rfl));(·exact Qqb);(·exact Qqb);(·rfl))
  | ((first|with_reducible apply Qcn hT|with_reducible apply Qgn hT);(·(cbv;try rfl));(·(cbv;try rfl));(·exact Qqb);(·exact Qqb);(·rfl);(·first|assumption|exact ⟨fun _ _=>rfl,trivial⟩);(·rfl))
  | refine gob ?_
  | ((with_reducible refine Q4c ?_ ?_);(·first|((exact ⟨Int.natCast_nonneg N,hmk⟩))|((rw[hzpl];exact Nat.le_trans (Nat.add_le_add_right (qb hJ).2 1) (show 2 * N+1+1<=1073741824 from by omega)))))
  | ((with_reducible apply Qsw))
  | ((with_reducible apply go_ngF))
  | (((with_reducible apply Qxa);(·exact Int.natCast_nonneg _);(·exact Int.ofNat_lt.2 hk)))
  | (((with_reducible refine Q4d (id:=2) (by kernel_rfl) ?_);(refine Q9d 2 8 rfl rfl rfl rfl rfl trivial rfl (Qks (fun _=>rfl)) Qk4 (fun a0 _=>?_));(refine Q9d 6 9 rfl rfl rfl rfl rfl trivial rfl (Qyf (Qks (fun _=>rfl)) rfl Qvc) Qku (fun a1 _=>?_));(refine Qx4 (σ:=Unit) (fun _=>Q3a (Q3a (Qwl N P nx nq um (fun j=>[.int .i64 (.ofNat (lp j)),.int .i64 (el j),.bool (ed j),.int .u8 (ef j),.int .u8 (eb j),.int .i64 (lo j)]) rg kl nn ad A1 A2 A3) 8 (Q1g a0 [.xs 0 0,.xs 2 0,.xs 3 0,.xs 4 0,.xs 6 0])) 9 (Q1g a1 [.int .i64 (.ofNat (lp k)),.int .i64 (el k),.bool (ed k),.int .u8 (ef k),.int .u8 (eb k),.int .i64 (lo k)])) [17,18,19,20,21,22,23,24] (fun _=>[(4,.pt (.one (.rs 0))),(5,.pt (.one (.rs 1)))]) (fun _=>[]) (fun _=>[some ⟨N,1,fun _=>[.lit false]⟩,some ⟨N,1,fun _=>[.lit false]⟩]) rfl ?_ (fun _=>?_))))
  | (((with_reducible refine Qzh () rfl ?_ ?_ ?_);(·(refine Q8c ?_ ?_ ?_ ?_<;>(cbv;(try simp only[true_and,and_true]);(try ((repeat' apply And.intro)<;>(first|trivial|rfl|exact RowLe.rfl' _))))));(·(cbv;try rfl));(·simp)))
  | (((with_reducible refine Qww 0 1 ?_ ?_ () rfl ?_ ?_ ?_);(·simp);(·simp);(·(refine Q8c ?_ ?_ ?_ ?_<;>(cbv;(try simp only[true_and,and_true]);(try ((repeat' apply And.intro)<;>(first|trivial|rfl|exact RowLe.rfl' _))))));(·(cbv;try rfl));(·simp)))
  | ((with_reducible apply Qud 7 2);(·(cbv;try rfl)))
  | ((with_reducible refine Qgha (σ:={x:Nat×Nat×(Nat->Nat)×(Nat->Bool)×(Nat->Bool)×(Nat->Bool) // QI x.1 x.2.1 x.2.2.1 x.2.2.2.1 x.2.2.2.2.1 x.2.2.2.2.2}) (zs9 [9,1,11,1,29,103]) (fun x=>[(8,.pt (.one (.int .i64 (.ofNat x.1.1))))]) (fun x=>[]) (fun x=>[(0,⟨N,1,fun j=>[.bool (x.1.2.2.2.2.1 j)]⟩),(1,⟨N,1,fun j=>[.bool (x.1.2.2.2.2.2 j)]⟩),(2,⟨x.1.2.1,2,fun j=>[.int .i64 (.ofNat (x.1.2.2.1 j)),.bool (x.1.2.2.2.1 j)]⟩)]) (fun x=>2 * N+1 - x.1.1) ⟨(0,1,fun _=>lp k,fun _=>false,fun _=>false,fun _=>false),q0⟩ ?_ ?_);(·exact pfp Qqb);(rintro ⟨⟨i,n,a,u,I,U⟩,hI⟩ mm hmm))
  | (((with_reducible refine Q4d (id:=9) (by kernel_rfl) ?_);(refine Qw4 (σ:=Unit) (fun _=>Q3a (Q3a (Qwl N P nx nq um (fun j=>[.int .i64 (.ofNat (lp j)),.int .i64 (el j),.bool (ed j),.int .u8 (ef j),.int .u8 (eb j),.int .i64 (lo j)]) rg kl nn ad A1 A2 A3) 8 (Q1g a0 [.xs 0 0,.xs 2 0,.xs 3 0,.xs 4 0,.xs 6 0])) 9 (Q1g a1 [.int .i64 (.ofNat (lp k)),.int .i64 (el k),.bool (ed k),.int .u8 (ef k),.int .u8 (eb k),.int .i64 (lo k)])) [48,49,50,51,52,53,54,55,56,57,58,59,60,61,62,63,64,65,66,67,68,69,70,71,72] (fun _=>[]) (fun _=>[(3,[.int .i64 (.ofNat (a i)),.bool (xw i a u)])]) (fun _=>[]) rfl ?_ (fun _=>?_))))
  | (((with_reducible refine Qzh () rfl ?_ ?_ ?_);(·(refine Q8c ?_ ?_ ?_ ?_<;>(cbv;(try simp only[true_and,and_true]);(try ((repeat' apply And.intro)<;>(first|trivial|rfl|exact RowLe.rfl' _|(exact x1 y9)|(exact x2 y9 (hg0 _ y9))|(exact x3 y9 (of_decide_eq_false y9))|(exact x4 y9 (hg1 _ y9) (of_decide_eq_true y9) (qa hI y9))))))));(·(cbv;try rfl));(·simp)))
  | ((refine god ?_))
  | (((with_reducible apply Q1b hT (zA+4));(·cbv);(try with_reducible refine Qnf (by rewrite [hzA];cbv) ?_);(try with_reducible refine Qnf (by rewrite [hzB];cbv) ?_);(try with_reducible refine Qnf (by rewrite [hzC];cbv) ?_);(try with_reducible refine Qnf (by rewrite [hzD];cbv) ?_);(try with_reducible refine Qnf (by rewrite [hzE];cbv) ?_);(try with_reducible refine Qnf (by rewrite [hzF];cbv) ?_)))
  | ((with_reducible refine Qgha (σ:={x:Nat×Nat×(Nat->Nat)×(Nat->Bool)×(Nat->Bool)×(Nat->Bool) // QJ i x.1 x.2.1 x.2.2.1 x.2.2.2.1 x.2.2.2.2.1 x.2.2.2.2.2/\x.2.2.1 i=a i/\xw i x.2.2.1 x.2.2.2.1=xw i a u}) (zs9 [11,1,30,1,35,1,37,1,81,51]) (fun x=>[(80,.pt (.one (.int .i64 (.ofNat x.1.1))))]) (fun x=>[]) (fun x=>[(0,⟨N,1,fun j=>[.bool (x.1.2.2.2.2.1 j)]⟩),(1,⟨N,1,fun j=>[.bool (x.1.2.2.2.2.2 j)]⟩),(2,⟨x.1.2.1,2,fun j=>[.int .i64 (.ofNat (x.1.2.2.1 j)),.bool (x.1.2.2.2.1 j)]⟩)]) (fun x=>nx (a i) - x.1.1) ⟨(0,n,a,u,I,U),qen hI y9 y9,rfl,rfl⟩ ?_ ?_);(·exact pfp Qqb);(rintro ⟨⟨t,n',a',u',I',U'⟩,hJ,ha',hx'⟩ mm hmm))
  | (((with_reducible apply Qxa);(·exact Int.natCast_nonneg _);(·first|exact hki _ (qa hI y9)|exact Int.ofNat_lt.2 (qa hI y9)|exact hki _ (hdm (qa hI y9) y9)|exact Int.ofNat_lt.2 (hdm (qa hI y9) y9))))
  | (((with_reducible apply Qxa);(·exact hlo (of_decide_eq_true y9));(·exact hnn _ (hlo (of_decide_eq_true y9)))))
  | ((with_reducible refine Qfha (⟨(t+1,n',a',u',I',U'),r1 ⟨hJ,ha',hx'⟩ y9 y9⟩:{x:Nat×Nat×(Nat->Nat)×(Nat->Bool)×(Nat->Bool)×(Nat->Bool) // QJ i x.1 x.2.1 x.2.2.1 x.2.2.2.1 x.2.2.2.2.1 x.2.2.2.2.2/\x.2.2.1 i=a i/\xw i x.2.2.1 x.2.2.2.1=xw i a u}) ?_ ?_);(·exact Nat.lt_of_lt_of_eq (show nx (a i) - (t+1)<nx (a i) - t from by omega) (Eq.symm y9));(·exact pfp Qqb))
  | ((with_reducible refine Qfha (⟨(t+1,n',a',u',I',U'),r2 ⟨hJ,ha',hx'⟩ y9 y9⟩:{x:Nat×Nat×(Nat->Nat)×(Nat->Bool)×(Nat->Bool)×(Nat->Bool) // QJ i x.1 x.2.1 x.2.2.1 x.2.2.2.1 x.2.2.2.2.1 x.2.2.2.2.2/\x.2.2.1 i=a i/\xw i x.2.2.1 x.2.2.2.1=xw i a u}) ?_ ?_);(·exact Nat.lt_of_lt_of_eq (show nx (a i) - (t+1)<nx (a i) - t from by omega) (Eq.symm y9));(·exact pfp Qqb))
  | ((with_reducible refine Qfha (⟨(t+1,n',a',u',I',U'),r3 ⟨hJ,ha',hx'⟩ y9 y9 y9⟩:{x:Nat×Nat×(Nat->Nat)×(Nat->Bool)×(Nat->Bool)×(Nat->Bool) // QJ i x.1 x.2.1 x.2.2.1 x.2.2.2.1 x.2.2.2.2.1 x.2.2.2.2.2/\x.2.2.1 i=a i/\xw i x.2.2.1 x.2.2.2.1=xw i a u}) ?_ ?_);(·exact Nat.lt_of_lt_of_eq (show nx (a i) - (t+1)<nx (a i) - t from by omega) (Eq.symm y9));(·exact pfp Qqb))
  | ((with_reducible refine Qfha (⟨(t+1,n'+1,tn a' n' (nq (a i) t),tb u' n' true,tb I' (nq (a i) t) true,tb U' (nq (a i) t) true),r4 ⟨hJ,ha',hx'⟩ y9 y9 y9 y9⟩:{x:Nat×Nat×(Nat->Nat)×(Nat->Bool)×(Nat->Bool)×(Nat->Bool) // QJ i x.1 x.2.1 x.2.2.1 x.2.2.2.1 x.2.2.2.2.1 x.2.2.2.2.2/\x.2.2.1 i=a i/\xw i x.2.2.1 x.2.2.2.1=xw i a u}) ?_ ?_);(·exact Nat.lt_of_lt_of_eq (show nx (a i) - (t+1)<nx (a i) - t from by omega) (Eq.symm y9));(·exact pfp Qqb))
  | ((with_reducible refine Qfha (⟨(t+1,n'+1,tn a' n' (nq (a i) t),tb u' n' false,tb I' (nq (a i) t) true,U'),r5 ⟨hJ,ha',hx'⟩ y9 y9 y9 y9⟩:{x:Nat×Nat×(Nat->Nat)×(Nat->Bool)×(Nat->Bool)×(Nat->Bool) // QJ i x.1 x.2.1 x.2.2.1 x.2.2.2.1 x.2.2.2.2.1 x.2.2.2.2.2/\x.2.2.1 i=a i/\xw i x.2.2.1 x.2.2.2.1=xw i a u}) ?_ ?_);(·exact Nat.lt_of_lt_of_eq (show nx (a i) - (t+1)<nx (a i) - t from by omega) (Eq.symm y9));(·exact pfp Qqb))
  | ((with_reducible refine Qfha (⟨(i+1,n,a,u,I,U),qsk hI y9 y9⟩:{x:Nat×Nat×(Nat->Nat)×(Nat->Bool)×(Nat->Bool)×(Nat->Bool) // QI x.1 x.2.1 x.2.2.1 x.2.2.2.1 x.2.2.2.2.1 x.2.2.2.2.2}) ?_ ?_);(·(exact Nat.lt_of_lt_of_eq (show 2 * N+1 - (i+1)<2 * N+1 - i from (by have h9:n<=2 * N+1:=qbI hI;omega)) (Eq.symm y9)));(·exact pfp Qqb))
  | ((with_reducible refine Qfha (⟨(i+1,n',a',u',I',U'),r6 ⟨hJ,ha',hx'⟩ y9⟩:{x:Nat×Nat×(Nat->Nat)×(Nat->Bool)×(Nat->Bool)×(Nat->Bool) // QI x.1 x.2.1 x.2.2.1 x.2.2.2.1 x.2.2.2.2.1 x.2.2.2.2.2}) ?_ ?_);(·(exact Nat.lt_of_lt_of_eq (show 2 * N+1 - (i+1)<2 * N+1 - i from (by have h9:n<=2 * N+1:=qbI hI;omega)) (Eq.symm y9)));(·exact pfp Qqb))
  | fail)
end Go.Proofs.YtemnfncbgalljaaGreat
