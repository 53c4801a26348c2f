/- Lemmas. No condition. -/
import Derived.Test.YtemnfncbgalljabM9
import Derived.Test.YtemnfncbgalljabN1
namespace Go.Proofs.Ytemnfncbgalljab
open Go.RowKit
set_option linter.all false
set_option maxHeartbeats 64000000
section
variable {P:Program} {Q:E9z} {c:R9z} {w0:Base}
theorem Q2i {f:I9z} {o o':Nat} {dst:Option Nat} {k:List Item} {st:St} (ho:o=o') (h16:o'<16) (h:Goes P Q c w0 k (st.put dst (.pt (.one (.int .i64 (f o')))))):
 OutOk P Q c w0 (.ask o [.int .i64 (f 0),.int .i64 (f 1),.int .i64 (f 2),.int .i64 (f 3),.int .i64 (f 4),.int .i64 (f 5),.int .i64 (f 6),.int .i64 (f 7),.int .i64 (f 8),.int .i64 (f 9),.int .i64 (f 10),.int .i64 (f 11),.int .i64 (f 12),.int .i64 (f 13),.int .i64 (f 14),.int .i64 (f 15)] dst k st):=by
 subst ho
 exact Q3f (.int .i64 (f o)) (Qwh f h16) rfl h
theorem Qfn {f:I9z} {b o o':Nat} {v:Int} {dst:Option Nat} {k:List Item} {st:St} (ho:o=o') (h16:o'<16) (h:∀g,g=turn f o' v->Goes P Q c w0 k (({ st with h:=Q0b st.h b (some (Qyg g)) }:St).put dst undefS)):
 OutOk P Q c w0 (.askS b o [.int .i64 (f 0),.int .i64 (f 1),.int .i64 (f 2),.int .i64 (f 3),.int .i64 (f 4),.int .i64 (f 5),.int .i64 (f 6),.int .i64 (f 7),.int .i64 (f 8),.int .i64 (f 9),.int .i64 (f 10),.int .i64 (f 11),.int .i64 (f 12),.int .i64 (f 13),.int .i64 (f 14),.int .i64 (f 15)] (.int .i64 v) dst k st):=by
 subst ho
 exact Qan (Qyg (turn f o v)) h16 (Q8r f v h16) (h _ rfl)
theorem Q04 {f:B9z} {o o':Nat} {dst:Option Nat} {k:List Item} {st:St} (ho:o=o') (h16:o'<16) (h:Goes P Q c w0 k (st.put dst (.pt (.one (.bool (f o')))))):
 OutOk P Q c w0 (.ask o [.bool (f 0),.bool (f 1),.bool (f 2),.bool (f 3),.bool (f 4),.bool (f 5),.bool (f 6),.bool (f 7),.bool (f 8),.bool (f 9),.bool (f 10),.bool (f 11),.bool (f 12),.bool (f 13),.bool (f 14),.bool (f 15)] dst k st):=by
 subst ho
 exact Q3f (.bool (f o)) (Qvh f h16) rfl h
end
def Qlk (f:I9z):Value:=.agg #[.int .i64 (f 0),.int .i64 (f 1),.int .i64 (f 2),.int .i64 (f 3),.int .i64 (f 4),.int .i64 (f 5),.int .i64 (f 6),.int .i64 (f 7),.int .i64 (f 8),.int .i64 (f 9),.int .i64 (f 10),.int .i64 (f 11),.int .i64 (f 12),.int .i64 (f 13),.int .i64 (f 14),.int .i64 (f 15)]
def z16:Nat->Int:=fun _=>0
def occS (s:GStmt):Nat->Int:=(Qlf cE (z16,z16) s).1
theorem Qji {f:I9z} {l:Int} (h:0<=l) {v:Int} (hv:v=rAr .add .i64 (f l.toNat) 1):turn f l.toNat v=Qbk f l:=by
 subst hv
 rw[<-Quv]
 congr 1
 simp only[Int.ofNat_eq_natCast]
 omega
theorem Qaba (s:GStmt) (w:World) (hs:s.ok=true):
 Calls Try.prog 43 #[s.val] w (Ret w (Qlk (occS s))):=by
 have hD:=Qff hs
 obtain ⟨k,⟨ql,qd,qf⟩,⟨rk,rop,rbo,⟨ak,an,⟨al,ad,af⟩⟩,⟨bk,bn,⟨bl,bd,bf⟩⟩,⟨pl,pd,pf⟩⟩,⟨ck,cn,⟨cl,cd,cf⟩⟩,l⟩:=s
 have d3:decide (k=3)=true->0<=l/\l<16:=fun h=>hD.1 (of_decide_eq_true h)
 have d1:decide (k=1)=true->0<=ql/\ql<16:=fun h=>(hD.2.2 (of_decide_eq_true h)).1
 have dr4:decide (k=1)=true->decide (rk=4)=true->0<=pl/\pl<16:=fun h h'=>(hD.2.2 (of_decide_eq_true h)).2.1 (.inl (of_decide_eq_true h'))
 have dr5:decide (k=1)=true->decide (rk=5)=true->0<=pl/\pl<16:=fun h h'=>(hD.2.2 (of_decide_eq_true h)).2.1 (.inr (of_decide_eq_true h'))
 have da2:decide (ak=2)=true->0<=al/\al<16:=fun h=>by
  have h:=of_decide_eq_true h
  simp only[GStmt.ok,GRv.ok,GOper.ok,GOper.eqB,GPlace.eqB,GRv.eqB,GPlace.ok,GOper.zero,GPlace.zero,GRv.zero] at hs
  grind
 have da3:decide (ak=3)=true->0<=al/\al<16:=fun h=>by
  have h:=of_decide_eq_true h
  simp only[GStmt.ok,GRv.ok,GOper.ok,GOper.eqB,GPlace.eqB,GRv.eqB,GPlace.ok,GOper.zero,GPlace.zero,GRv.zero] at hs
  grind
 have db2:decide (bk=2)=true->0<=bl/\bl<16:=fun h=>by
  have h:=of_decide_eq_true h
  simp only[GStmt.ok,GRv.ok,GOper.ok,GOper.eqB,GPlace.eqB,GRv.eqB,GPlace.ok,GOper.zero,GPlace.zero,GRv.zero] at hs
  grind
 have db3:decide (bk=3)=true->0<=bl/\bl<16:=fun h=>by
  have h:=of_decide_eq_true h
  simp only[GStmt.ok,GRv.ok,GOper.ok,GOper.eqB,GPlace.eqB,GRv.eqB,GPlace.ok,GOper.zero,GPlace.zero,GRv.zero] at hs
  grind
 have dc2:decide (ck=2)=true->0<=cl/\cl<16:=fun h=>by
  have h:=of_decide_eq_true h
  simp only[GStmt.ok,GRv.ok,GOper.ok,GOper.eqB,GPlace.eqB,GRv.eqB,GPlace.ok,GOper.zero,GPlace.zero,GRv.zero] at hs
  grind
 have dc3:decide (ck=3)=true->0<=cl/\cl<16:=fun h=>by
  have h:=of_decide_eq_true h
  simp only[GStmt.ok,GRv.ok,GOper.ok,GOper.eqB,GPlace.eqB,GRv.eqB,GPlace.ok,GOper.zero,GPlace.zero,GRv.zero] at hs
  grind
 obtain ⟨y,hy⟩:=x9 (occS (GStmt.mk k ⟨ql,qd,qf⟩ ⟨rk,rop,rbo,⟨ak,an,⟨al,ad,af⟩⟩,⟨bk,bn,⟨bl,bd,bf⟩⟩,⟨pl,pd,pf⟩⟩ ⟨ck,cn,⟨cl,cd,cf⟩⟩ l))
 rw[<-hy]
 clear hD
 have hk:(k=1/\ck=0/\(rk=1\/rk=2\/rk=3\/rk=4\/rk=5))\/k=2\/(k=3/\ck=0)\/k=4:=by
  simp only[GStmt.ok,GRv.ok,GOper.ok,GOper.eqB,GPlace.eqB,GRv.eqB,GPlace.ok,GOper.zero,GPlace.zero,GRv.zero] at hs
  grind
 have va:k=1->rk=1\/rk=2\/rk=3->ak=1\/ak=2\/ak=3:=fun h h'=>by
  simp only[GStmt.ok,GRv.ok,GOper.ok,GOper.eqB,GPlace.eqB,GRv.eqB,GPlace.ok,GOper.zero,GPlace.zero,GRv.zero] at hs
  grind
 have vb:k=1->rk=2\/rk=3->bk=1\/bk=2\/bk=3:=fun h h'=>by
  simp only[GStmt.ok,GRv.ok,GOper.ok,GOper.eqB,GPlace.eqB,GRv.eqB,GPlace.ok,GOper.zero,GPlace.zero,GRv.zero] at hs
  grind
 have vc:k=2\/k=4->ck=1\/ck=2\/ck=3:=fun h=>by
  simp only[GStmt.ok,GRv.ok,GOper.ok,GOper.eqB,GPlace.eqB,GRv.eqB,GPlace.ok,GOper.zero,GPlace.zero,GRv.zero] at hs
  grind
 clear hs
 rcases hk with ⟨rfl,rfl,rfl|rfl|rfl|rfl|rfl⟩|rfl|⟨rfl,rfl⟩|rfl
 all_goals
  skip
  refine Qaa (args:=[.pt (.agg (GStmt.sc _))]) (c:=Qra) Try.func43 rfl (Qga _) rfl rfl ?_
  obtain ⟨_,hnd,_,hnt,_,har,_,hcm,_,hmx,_,hmn,ar01,ar12,_,hzpl,_,hzjn,_,hzup,_,hzmi,_,hzdp,hT⟩:=Qca
  repeat' (first
   | (refine gov ?_;(try simp only[ar01,ar12]))
   | refine goa ?_|refine go2 (fun h=>?_) (fun h=>?_)|refine gof ?_
   | refine Qhha Try.func45 Try.results45 Try.call45 ?_
   | refine Qhha Try.func61 Try.results61 Try.call61 ?_
   | (with_reducible apply Qqa 4)
   | (((with_reducible apply Qxa);(·exact (d3 (by first|assumption|rfl)).1);(·have q:=(d3 (by first|assumption|rfl)).2;omega)))
   | (((with_reducible apply Qxa);(·exact (d1 (by first|assumption|rfl)).1);(·have q:=(d1 (by first|assumption|rfl)).2;omega)))
   | (((with_reducible apply Qxa);(·exact (dr4 (by first|assumption|rfl) (by first|assumption|rfl)).1);(·have q:=(dr4 (by first|assumption|rfl) (by first|assumption|rfl)).2;omega)))
   | (((with_reducible apply Qxa);(·exact (dr5 (by first|assumption|rfl) (by first|assumption|rfl)).1);(·have q:=(dr5 (by first|assumption|rfl) (by first|assumption|rfl)).2;omega)))
   | (((with_reducible apply Qxa);(·exact (da2 y9).1);(·have q:=(da2 y9).2;omega)))
   | (((with_reducible apply Qxa);(·exact (da3 y9).1);(·have q:=(da3 y9).2;omega)))
   | (((with_reducible apply Qxa);(·exact (db2 y9).1);(·have q:=(db2 y9).2;omega)))
   | (((with_reducible apply Qxa);(·exact (db3 y9).1);(·have q:=(db3 y9).2;omega)))
   | (((with_reducible apply Qxa);(·exact (dc2 y9).1);(·have q:=(dc2 y9).2;omega)))
   | (((with_reducible apply Qxa);(·exact (dc3 y9).1);(·have q:=(dc3 y9).2;omega)))
   | (((with_reducible apply Q2i (f:=fun _=>0));(·exact Qzb _);(·(first|(have q:=d3 (by first|assumption|rfl);omega)|(have q:=d1 (by first|assumption|rfl);omega)|(have q:=dr4 (by first|assumption|rfl) (by first|assumption|rfl);omega)|(have q:=dr5 (by first|assumption|rfl) (by first|assumption|rfl);omega)|(have q:=da2 y9;omega)|(have q:=da3 y9;omega)|(have q:=db2 y9;omega)|(have q:=db3 y9;omega)|(have q:=dc2 y9;omega)|(have q:=dc3 y9;omega)))))
   | (((with_reducible apply Q2i);(·exact Qzb _);(·(first|(have q:=d3 (by first|assumption|rfl);omega)|(have q:=d1 (by first|assumption|rfl);omega)|(have q:=dr4 (by first|assumption|rfl) (by first|assumption|rfl);omega)|(have q:=dr5 (by first|assumption|rfl) (by first|assumption|rfl);omega)|(have q:=da2 y9;omega)|(have q:=da3 y9;omega)|(have q:=db2 y9;omega)|(have q:=db3 y9;omega)|(have q:=dc2 y9;omega)|(have q:=dc3 y9;omega)))))
   | (((with_reducible apply Qfn (f:=fun _=>0));(·exact Qzb _);(·(first|(have q:=d3 (by first|assumption|rfl);omega)|(have q:=d1 (by first|assumption|rfl);omega)|(have q:=dr4 (by first|assumption|rfl) (by first|assumption|rfl);omega)|(have q:=dr5 (by first|assumption|rfl) (by first|assumption|rfl);omega)|(have q:=da2 y9;omega)|(have q:=da3 y9;omega)|(have q:=db2 y9;omega)|(have q:=db3 y9;omega)|(have q:=dc2 y9;omega)|(have q:=dc3 y9;omega)));(intro g hg)))
   | (((with_reducible apply Qfn);(·exact Qzb _);(·(first|(have q:=d3 (by first|assumption|rfl);omega)|(have q:=d1 (by first|assumption|rfl);omega)|(have q:=dr4 (by first|assumption|rfl) (by first|assumption|rfl);omega)|(have q:=dr5 (by first|assumption|rfl) (by first|assumption|rfl);omega)|(have q:=da2 y9;omega)|(have q:=da3 y9;omega)|(have q:=db2 y9;omega)|(have q:=db3 y9;omega)|(have q:=dc2 y9;omega)|(have q:=dc3 y9;omega)));(intro g hg)))
   | fail)
 all_goals (subst har)
 all_goals (first|show Qlk g=Qlk y|show Qlk z16=Qlk y)
 all_goals
  have tb:∀(f:I9z) (l:Int),0<=l->turn f l.toNat (rAr .add .i64 (f l.toNat) 1)=Qbk f l:=fun f l h=>Qji h rfl
  have t0:∀l:Int,0<=l->turn (fun _=>0) l.toNat 1=Qbk z16 l:=fun l h=>Qji (f:=fun _=>0) h (by decide)
  refine congrArg Qlk ?_
  rw[hy]
  clear hT hy hnd hnt hcm hmx hmn hzpl hzjn hzup hzmi hzdp ar01 ar12
  try have e1:=(d1 rfl).1
  try have e2:=(d3 rfl).1
  try have e3:=(dr4 rfl rfl).1
  try have e4:=(dr5 rfl rfl).1
  try have e5:=(da2 y9).1
  try have e6:=(da3 y9).1
  try have e7:=(db2 y9).1
  try have e8:=(db3 y9).1
  try have e9:=(dc2 y9).1
  try have e10:=(dc3 y9).1
  try have v1:=va rfl (by decide)
  try have v2:=vb rfl (by decide)
  try have v3:=vc (by decide)
  clear d1 d3 dr4 dr5 da2 da3 db2 db3 dc2 dc3 va vb vc
  try simp only[decide_eq_true_eq,decide_eq_false_iff_not] at *
  simp_all[occS,Qlf,Qee,cE]
def Qct (k:Int) (a:GOper) (d:GPlace) (n:Nat) (g:Nat->GOper):Nat->Int:=(Qld cE (z16,z16) k a d n g).1
theorem Qtv (f:I9z) (a b:Int):Qbk (Qbk f a) b=Qbk (Qbk f b) a:=by
 funext j
 unfold Qbk
 by_cases h1:Int.ofNat j=a<;>by_cases h2:Int.ofNat j=b
 · simp only[if_pos h1,if_pos h2]
 · simp only[if_pos h1,if_neg h2]
 · simp only[if_neg h1,if_pos h2]
 · simp only[if_neg h1,if_neg h2]
theorem Qwp (g:Nat->GOper) (may:Bool) (p:GPlace) (b:Bool) (x:(Nat->Int)×(Nat->Int)):∀n,(Qse cE may g n (cE x p b)).1=Qbk (Qse cE may g n x).1 p.l
 | 0=>rfl
 | n+1=>by
   have ih:=Qwp g may p b x n
   simp only[Qse,Qee]
   by_cases h:(g n).k=1
   · simp only[if_pos h];exact ih
   · simp only[if_neg h]
     show Qbk (Qse cE may g n (cE x p b)).1 (g n).p.l=Qbk (Qbk (Qse cE may g n x).1 (g n).p.l) p.l
     rw[ih,Qtv]
theorem Qph {x:Int} (h:0<=x/\x<16):x.toNat<16:=by omega
theorem Q0j {p:Prop} (h:p:=by (first|((try with_reducible refine Q8c ?_ ?_ ?_ ?_);all_goals (cbv;(try simp only[true_and,and_true]);(try ((repeat' apply And.intro)<;>(first|trivial|rfl|exact RowLe.rfl' _|decide|(rw[Qda har _ o9])|((rw[a0];rfl))|((rw[a2 i (g1 i y9 y9 y9)];done))|((rw[hg',a1 i (by have h1:=of_decide_eq_true (show decide ((g i).k=2)=true by assumption);omega),har,tb _ _ (g2 i y9 y9).1];done))|((rw[hg',a1 i (by have h1:=of_decide_eq_true (show decide ((g i).k=3)=true by assumption);omega),har,tb _ _ (g3 i y9 y9).1];done))|fail))));done)|fail)):Pf p:=⟨h⟩
theorem Qf8 (k fn nx el ak an al af dl df:Int) (ad dd:Bool) (A:Option Addr) (n cap:Nat) (g:Nat->GOper) (w:World) (hn:n<=maxLen) (hX:XOk ⟨[],Q5r A n cap 5 fun i=>(g i).sc,[]⟩ ⟨w,[]⟩) (hok:(GJump.mk k ⟨ak,an,⟨al,ad,af⟩⟩ fn nx el (Q8j n g) ⟨dl,dd,df⟩).ok=true):
 Calls Try.prog 46 #[.agg #[.int .u8 k,.int .u8 ak,.int .i64 an,.int .i64 al,.bool ad,.int .u8 af,.int .i64 fn,.int .i64 nx,.int .i64 el,.slice A n cap,.int .i64 dl,.bool dd,.int .u8 df]] w (Ret w (Qlk (Qct k ⟨ak,an,⟨al,ad,af⟩⟩ ⟨dl,dd,df⟩ n g))):=by
 unfold maxLen at hn
 rw[Qvn] at hok
 obtain ⟨y,hy⟩:=x9 (Qct k ⟨ak,an,⟨al,ad,af⟩⟩ ⟨dl,dd,df⟩ n g)
 rw[<-hy]
 obtain ⟨acc,hacc⟩:=x9 (fun i=>(Qse cE true g i (z16,z16)).1:Nat->Nat->Int)
 have a0:acc 0=z16:=by rw[hacc];rfl
 have a1:∀i,(g i).k≠1->acc (i+1)=Qbk (acc i) (g i).p.l:=fun i h=>by rw[hacc];simp only[Qse,Qee,if_neg h];rfl
 have a2:∀i,(g i).k=1->acc (i+1)=acc i:=fun i h=>by rw[hacc];simp only[Qse,Qee,if_pos h]
 have hg:∀i,i<n->(g i).ok=true:=fun i hi=>by
  have:(Qed n fun i=>(g i).ok)=true:=by
   simp only[Qgr,Bool.and_eq_true] at hok
   exact hok.2
  exact Qla.1 this i hi
 have g2:∀i,i<n->decide ((g i).k=2)=true->0<=(g i).p.l/\(g i).p.l<16:=fun i hi h=>Qmd (hg i hi) (by have:=of_decide_eq_true h;omega)
 have g3:∀i,i<n->decide ((g i).k=3)=true->0<=(g i).p.l/\(g i).p.l<16:=fun i hi h=>Qmd (hg i hi) (by have:=of_decide_eq_true h;omega)
 have g1:∀i,i<n->decide ((g i).k=2)=false->decide ((g i).k=3)=false->(g i).k=1:=fun i hi h h'=>by
  have h1:=hg i hi
  have h:=of_decide_eq_false h
  have h':=of_decide_eq_false h'
  simp only[GOper.ok,Bool.or_eq_true,Bool.and_eq_true,beq_iff_eq] at h1
  grind
 have d4:decide (k=4)=true->0<=dl/\dl<16:=fun h=>by
  have h:=of_decide_eq_true h
  subst h
  simp only[Qgr,Bool.and_eq_true] at hok
  have h1:=hok.1.2
  simp only[show ((4:Int)==4)=true from rfl,Bool.not_true,Bool.false_or] at h1
  exact Qsg h1
 have y4:k=4->y=Qbk (acc n) dl:=fun h=>by
  rw[hy,Qct,Qld,if_neg o9,if_pos h,hacc]
  exact Qwp g true _ _ _ n
 have n4:k≠4->n=0:=fun h=>by
  have h':(k==4)=false:=by simp[h]
  simp only[Qgr,h',Bool.and_eq_true,Bool.not_eq_true'] at hok
  grind
 have y1:k≠4->k≠2->y=z16:=fun h h'=>by
  rw[hy,Qct,Qld,if_neg h',if_neg h]
 have k2:k=2->(GOper.mk ak an ⟨al,ad,af⟩).ok=true:=fun h=>by
  subst h
  simp only[Qgr] at hok
  grind
 have va:k=2->ak=1\/ak=2\/ak=3:=fun h=>by
  have:=k2 h
  simp only[GOper.ok,Bool.or_eq_true,Bool.and_eq_true,beq_iff_eq] at this
  grind
 have da2:k=2->decide (ak=2)=true->0<=al/\al<16:=fun h h'=>Qmd (k2 h) (by have:=of_decide_eq_true h';show ak≠1;omega)
 have da3:k=2->decide (ak=3)=true->0<=al/\al<16:=fun h h'=>Qmd (k2 h) (by have:=of_decide_eq_true h';show ak≠1;omega)
 have ya1:k=2->ak=1->y=z16:=fun h h'=>by
  rw[hy,Qct,Qld,if_pos h,Qee,if_pos h']
 have ya2:k=2->ak≠1->y=Qbk z16 al:=fun h h'=>by
  rw[hy,Qct,Qld,if_pos h,Qee,if_neg h'];rfl
 clear hok hy hacc hg k2
 have tb:∀(f:I9z) (l:Int),0<=l->turn f l.toNat (rAr .add .i64 (f l.toNat) 1)=Qbk f l:=fun f l h=>Qji h rfl
 have t0:∀l:Int,0<=l->turn (fun _=>0) l.toNat 1=Qbk z16 l:=fun l h=>Qji (f:=fun _=>0) h (by decide)
 refine Qaa (args:=[.pt (.agg [.int .u8 k,.int .u8 ak,.int .i64 an,.int .i64 al,.bool ad,.int .u8 af,.int .i64 fn,.int .i64 nx,.int .i64 el,.xs 0 0,.int .i64 dl,.bool dd,.int .u8 df])]) (c:=(Q5r A n cap 5 fun i=>(g i).sc)) Try.func46 rfl hX rfl rfl ?_
 obtain ⟨_,_,_,hnt,_,har,_,hcm,_,_,_,_,ar01,ar12,_,hzpl,_,_,_,_,_,_,_,_,hT⟩:=Qca
 by_cases q:k=2
 · subst q
   repeat' (first
    | (refine gov ?_;(try simp only[ar01,ar12]))
    | refine goa ?_|refine go2 (fun h=>?_) (fun h=>?_)|refine gof ?_
    | refine Qhha Try.func62 Try.results62 Try.call62 ?_
    | refine Qhha Try.func61 Try.results61 Try.call61 ?_
    | (with_reducible apply Qqa 4)
    | (((with_reducible apply Qxa);(·exact (da2 rfl y9).1);(·have q:=(da2 rfl y9).2;omega)))
    | (((with_reducible apply Qxa);(·exact (da3 rfl y9).1);(·have q:=(da3 rfl y9).2;omega)))
    | (((with_reducible apply Q2i (f:=fun _=>0));(·exact Qzb _);(·first|(have q:=da2 rfl y9;omega)|(have q:=da3 rfl y9;omega))))
    | (((with_reducible apply Qfn (f:=fun _=>0));(·exact Qzb _);(·first|(have q:=da2 rfl y9;omega)|(have q:=da3 rfl y9;omega));(intro g hg)))
    | fail)
   all_goals (subst har)
   all_goals (first|show Qlk g=Qlk y|show Qlk z16=Qlk y)
   all_goals
    refine congrArg Qlk ?_
    first
     | (rw[hg,ya2 rfl (by have:=of_decide_eq_true (show decide (ak=2)=true by assumption);omega)];exact t0 _ (da2 rfl y9).1)
     | (rw[hg,ya2 rfl (by have:=of_decide_eq_true (show decide (ak=3)=true by assumption);omega)];exact t0 _ (da3 rfl y9).1)
     | (rw[ya1 rfl (by have h1:=of_decide_eq_false (show decide (ak=2)=false by assumption);have h2:=of_decide_eq_false (show decide (ak=3)=false by assumption);have:=va rfl;omega)])
 have q2:decide (k=2)=false:=by simpa using q
 repeat' (first
  | refine goa ?_|refine go3 (fun hlt=>?_) (fun hge=>?_)|refine go2 (fun h=>?_) (fun h=>?_)|refine gof ?_
  | refine Qhha Try.func62 Try.results62 Try.call62 ?_
  | refine Qhha Try.func61 Try.results61 Try.call61 ?_
  | ((with_reducible refine Qgha (σ:={i:Nat // i<=n}) (zs9 [8,21]) (fun x=>[zc9 5 x.1]) (fun x=>[(2,Qyg (acc x.1))]) (fun x=>[]) (fun x=>n - x.1) ⟨0,by omega⟩ ?_ ?_);(·exact pfp Q0j);(rintro ⟨i,hi⟩ mm hmm))
  | ((with_reducible refine Qfha ⟨i+1,by omega⟩ ?_ ?_);(·exact msr o9 y9);(·exact pfp Q0j))
  | (((with_reducible apply Qxa);(·first|exact (g2 i y9 y9).1|exact (g3 i y9 y9).1|exact (d4 y9).1);(·first|exact (g2 i y9 y9).2|exact (g3 i y9 y9).2|exact (d4 y9).2)))
  | (((with_reducible apply Q2i);(·exact Qzb _);(·first|exact Qph (g2 i y9 y9)|exact Qph (g3 i y9 y9)|exact Qph (d4 y9))))
  | (((with_reducible apply Qfn);(·exact Qzb _);(·first|exact Qph (g2 i y9 y9)|exact Qph (g3 i y9 y9)|exact Qph (d4 y9));(intro g' hg')))
  | fail)
 all_goals (have hin:i=n:=by omega)
 all_goals subst hin
 all_goals (first|show Qlk g'=Qlk y|show Qlk (acc i)=Qlk y)
 all_goals (refine congrArg Qlk ?_)
 · rw[y4 (of_decide_eq_true y9),hg',har,tb _ _ (d4 y9).1]
 · have h4:k≠4:=of_decide_eq_false y9
   rw[y1 h4 q,n4 h4,a0]
section
set_option maxRecDepth 100000
def farB (f:I9z) (c:Nat):Bool:= !(Qed 16 fun i=>decide (i<c)||!decide (0<f i))
theorem via {z y b:Bool} (hz:z=y) (h:z=b):y=b:=hz▸h
theorem Qs2 {x:Int} {b:Bool} (h:rCm .gtr x 0=b):decide (0<x)=b:=h
theorem farC (f:I9z) (c:Nat) (w:World) (hc:c<=16):
 Calls Try.prog 58 #[Qlk f,.int .i64 (.ofNat c)] w (Ret w (.bool (farB f c))):=by
 obtain ⟨z0,hz0⟩:=x9 (farB f c)
 have hz1:∀i,c<=i->i<16->decide (0<f i)=true->z0=true:=fun i h1 h2 h=>by
  rw[hz0,farB,Qfb h2 (by simp only[h];simp;omega)];rfl
 have hz2:(∀i,c<=i->i<16->decide (0<f i)=false)->z0=false:=fun h=>by
  rw[hz0,farB,Qla.2 (fun i hi=>?_)];·rfl
  by_cases g:i<c
  · simp[g]
  · rw[h i o9 hi];simp
 rw[<-hz0]
 clear hz0
 refine Qaa (args:=[.pt (.agg (Qyg f)),.pt (.one (.int .i64 (.ofNat c)))]) (c:=Qra) Try.func58 rfl (Qga _) rfl rfl ?_
 obtain ⟨_,_,_,hnt,_,har,cm,hcm,_,_,_,_,ar01,ar12,_,hzpl,_,_,_,_,_,_,_,_,hT⟩:=Qca
 have hl16:∀t:Nat,cm .lss (.ofNat t) 16=true->t<16:=fun t h=>by
  rw[hcm] at h
  have:=of_decide_eq_true (show decide ((t:Int)<16)=true from h)
  omega
 have hg16:∀t:Nat,cm .lss (.ofNat t) 16=false->16<=t:=fun t h=>by
  rw[hcm] at h
  have:=of_decide_eq_false (show decide ((t:Int)<16)=false from h)
  omega
 repeat' (first
  | refine go1 ?_|refine go2 (fun h=>?_) (fun h=>?_)
  | ((with_reducible refine Qgha (σ:={i:Nat // c<=i/\i<=16/\∀j,c<=j->j<i->decide (0<f j)=false}) (zs9 [4,1,7,8]) (fun x=>[zc9 5 x.1]) (fun x=>[]) (fun x=>[]) (fun x=>16 - x.1) ⟨c,Nat.le_refl c,hc,fun j h1 h2=>by omega⟩ ?_ ?_);(·exact pfp Qdb);(rintro ⟨i,hi1,hi2,hok⟩ mm hmm))
  | (((with_reducible apply Qxa);(·exact Int.natCast_nonneg _);(·have hq:=hl16 i y9;show (i:Int)<((16:Nat):Int);omega)))
  | (((with_reducible apply Q2i);(·first|exact Qzb _|exact (Qnq _).trans (Qnq _));(·first|exact hl16 _ y9|omega)))
  | ((with_reducible refine Qfha ⟨i+1,by omega,by have:=hl16 i y9;omega,fun j h1 h2=>by rcases Nat.lt_or_eq_of_le (Nat.le_of_lt_succ h2) with h'|rfl;exact hok j h1 h';exact Qs2 (by subst hcm;assumption)⟩ ?_ ?_);(·subst hmm;exact Nat.lt_of_lt_of_eq (Nat.sub_lt_sub_left (hl16 i y9) (Nat.lt_succ_self i)) rfl);(·exact pfp Qdb))
  | fail)
 all_goals (refine Qtb ?_)
 · exact (hz1 i hi1 (hl16 i y9) (Qs2 (by subst hcm;assumption))).symm
 · exact (hz2 fun j h1 h2=>hok j h1 (by have:=hg16 i y9;omega)).symm
def Qui (F:GFun) (b:Nat):Bool:=
 (Qed (F.sn b) fun i=>(F.s b i).ok&&!farB (occS (F.s b i)) F.ln)&&((F.jump b).ok&&!farB (Qct (F.jk b) (F.jo b) (F.jd b) (F.jn b) (F.ja b)) F.ln)&&(F.jump b).leads.all fun n=>decide (n<F.bn)
def Qaaa (F:GFun) (b:Nat):Value:=.agg #[.slice (F.sA b) (F.sn b) (F.sc b),.int .u8 (F.jk b),.int .u8 (F.jo b).k,.int .i64 (F.jo b).n,.int .i64 (F.jo b).p.l,.bool (F.jo b).p.d,.int .u8 (F.jo b).p.f,.int .i64 (F.jf b),.int .i64 (F.jx b),.int .i64 (F.je b),.slice (F.jA b) (F.jn b) (F.jc b),.int .i64 (F.jd b).l,.bool (F.jd b).d,.int .u8 (F.jd b).f]
theorem Qx5 (F:GFun) (w:World) (hF:F.At w) (hl16:F.ln<=16) (b:Nat):
 Calls Try.prog 41 #[F.val,Qaaa F b] w (Ret w (.bool (Qui F b))):=by
 have hXk wc (hk:KB ⟨w,[]⟩ wc):=Qa4 (hF.later hk).ok b
 obtain ⟨z0,hz0⟩:=x9 (Qui F b)
 obtain ⟨oS,hoS⟩:=x9 (occS)
 obtain ⟨oJ,hoJ⟩:=x9 (Qct (F.jk b) (F.jo b) (F.jd b) (F.jn b) (F.ja b))
 obtain ⟨fa,hfa⟩:=x9 (farB)
 have f1:∀i,i<F.sn b->(F.s b i).ok=false->z0=false:=fun i hi h=>by
  rw[hz0,Qui,Qfb hi (by rw[h];rfl)];rfl
 have f2:∀i,i<F.sn b->fa (oS (F.s b i)) F.ln=true->z0=false:=fun i hi h=>by
  rw[hfa,hoS] at h
  rw[hz0,Qui,Qfb hi (by rw[h];simp)];rfl
 have f3:(F.jump b).ok=false->z0=false:=fun h=>by rw[hz0,Qui,h];simp
 have f4:fa oJ F.ln=true->z0=false:=fun h=>by rw[hfa,hoJ] at h;rw[hz0,Qui,h];simp
 have f5:((F.jump b).leads.all fun n=>decide (n<F.bn))=false->z0=false:=fun h=>by rw[hz0,Qui,h];simp
 have f6:(∀i,i<F.sn b->(F.s b i).ok=true/\fa (oS (F.s b i)) F.ln=false)->(F.jump b).ok=true->fa oJ F.ln=false->((F.jump b).leads.all fun n=>decide (n<F.bn))=true->z0=true:=fun h1 h2 h3 h4=>by
  rw[hfa,hoJ] at h3
  rw[hfa,hoS] at h1
  rw[hz0,Qui,h2,h3,h4,Qla.2 (fun i hi=>by rw[(h1 i hi).1,(h1 i hi).2];rfl)];rfl
 have cS:∀i wc,(F.s b i).ok=true->Calls Try.prog 43 #[(F.s b i).val] wc (Ret wc (Qlk (oS (F.s b i)))):=fun i wc h=>by rw[hoS];exact Qaba _ wc h
 have cF:∀f wc,Calls Try.prog 58 #[Qlk f,.int .i64 (.ofNat F.ln)] wc (Ret wc (.bool (fa f F.ln))):=fun f wc=>by rw[hfa];exact farC f F.ln wc hl16
 have cJ:∀wc,KB ⟨w,[]⟩ wc->(F.jump b).ok=true->Calls Try.prog 46 #[.agg #[.int .u8 (F.jk b),.int .u8 (F.jo b).k,.int .i64 (F.jo b).n,.int .i64 (F.jo b).p.l,.bool (F.jo b).p.d,.int .u8 (F.jo b).p.f,.int .i64 (F.jf b),.int .i64 (F.jx b),.int .i64 (F.je b),.slice (F.jA b) (F.jn b) (F.jc b),.int .i64 (F.jd b).l,.bool (F.jd b).d,.int .u8 (F.jd b).f]] wc (Ret wc (Qlk oJ)):=fun wc hk h=>by
  rw[hoJ]
  exact Qf8 _ _ _ _ _ _ _ _ _ _ _ _ _ _ _ _ wc (by unfold maxLen;have:=hF.j b;omega) (hXk wc hk) h
 rw[<-hz0]
 clear hz0 hoS hoJ hfa
 unfold Qaaa
 obtain ⟨_,_,_,ln,_,_,_,_,_,_,_,sn,_,s,jA,jn,jc,ja,_,_,_,_,_,_⟩:=F
 obtain ⟨hX,hl,hb,hs,hj⟩:=hF
 simp only at hl hb hs hj
 simp only[] at f1 f2 f3 f4 f5 f6 cS cF cJ hXk
 have hsb:=hs b
 refine Qaa (args:=[.pt (.agg (GFun.dat _)),.pt (.agg (GFun.blkC _ b))]) (c:=(Qwa _)) Try.func41 rfl hX rfl rfl ?_
 obtain ⟨_,_,_,hnt,_,har,_,hcm,_,_,_,_,ar01,ar12,_,hzpl,_,_,_,_,_,_,_,_,hT⟩:=Qca
 repeat' (first
  | (refine gov ?_;(try simp only[ar01,ar12]))
  | refine goa ?_|refine go3 (fun hlt=>?_) (fun hge=>?_)|refine go2 (fun h=>?_) (fun h=>?_)|refine god ?_|refine gof ?_
  | ((with_reducible apply Qeb (hf:=Try.call57));(·(cbv;try rfl));(·intro wc hbc hxc;exact Qx8 (s b i) wc);intro z hz)
  | (refine' Qiha Try.call43 ?_ ?_;rotate_left;(·intro wc hbc hxc;exact cS i wc (by first|(rw[<-hz];assumption)|simp_all)))
  | ((with_reducible apply Qeb (hf:=Try.call58));(·(cbv;try rfl));(·intro wc hbc hxc;exact cF _ wc);intro z hz)
  | ((with_reducible apply Qeb (hf:=Try.call59));(·(cbv;try rfl));(·intro wc hbc hxc;exact Qu8 _ _ _ _ _ _ _ _ _ _ _ _ (jA b) (jn b) (jc b) (ja b) wc (by unfold maxLen;have:=hj b;omega) (hXk wc hbc));intro z hz)
  | (refine' Qiha Try.call46 ?_ ?_;rotate_left;(·intro wc hbc hxc;exact cJ wc hbc (by first|exact hz.symm.trans y9|simp_all)))
  | refine Qhha Try.func60 Try.results60 Try.call60 ?_
  | ((with_reducible refine Qgha (σ:={i:Nat // i<=sn b/\∀j,j<i->(s b j).ok=true/\fa (oS (s b j)) ln=false}) (zs9 [4,1,8,26]) (fun x=>[zc9 5 x.1]) (fun x=>[]) (fun x=>[]) (fun x=>sn b - x.1) ⟨0,by omega,fun j hj=>by omega⟩ ?_ ?_);(·exact pfp Qdb);(rintro ⟨i,hi,hok⟩ mm hmm))
  | ((with_reducible refine Qfha ⟨i+1,by omega,Q3b hok (show (s b i).ok=true/\fa (oS (s b i)) ln=false from ⟨via y9 y9,via y9 y9⟩)⟩ ?_ ?_);(·exact Nat.lt_of_lt_of_eq (show sn b - (i+1)<sn b - i from by omega) (Eq.symm y9));(·exact pfp Qdb))
  | (with_reducible apply Qqa 4)
  | fail)
 all_goals (refine Qtb ?_)
 all_goals first
  | exact (f1 i hlt (via y9 y9)).symm
  | exact (f2 i hlt (via y9 y9)).symm
  | exact (f3 (via y9 y9)).symm
  | exact (f4 (via y9 y9)).symm
  | skip
 all_goals (have hsi:i=sn b:=by omega)
 all_goals subst hsi
 all_goals
  have ht:=f6 hok (via y9 y9) (via y9 y9)
  clear f6 f1 f2 f3 f4 cS cF cJ hXk hX hT hmm hok
  subst hcm
  simp only[GFun.jump,GJump.leads] at f5 ht
  simp only[decide_eq_true_eq,decide_eq_false_iff_not] at *
  grind [rCm]
end
end Go.Proofs.Ytemnfncbgalljab
