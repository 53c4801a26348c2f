/- Lemmas. No condition. -/
import Derived.Test.YtemnfncbgalljabM8
namespace Go.Proofs.Ytemnfncbgalljab
open Go.RowKit
set_option linter.all false
set_option maxRecDepth 100000
set_option maxHeartbeats 64000000
section
variable {Q:E9z} {w0:Base}
theorem Qv4 (F:GFun) (x y:(Nat->Int)×(Nat->Int)) (s:GStmt) (hy:y=Qlf cE x s) (hD:Qvr (fun p=>0<=p.l/\p.l<16) s) {c0 c1 c4:Option (List SC)} {h:List (Option (List SC))} {t:List SV} {fr:List (List SV)} {rr:List (Option ORow)} {dst:Option Nat} {k:List Item}
 (hg:Goes Try.prog Q (Qwa F) w0 k (({ t:=t,h:=c0::c1::some (Qyg y.1)::some (Qyg y.2)::c4::h,fr:=fr,r:=rr }:St).put dst (.tup []))):
 OutOk Try.prog Q (Qwa F) w0 (.call 68 [.pt (.agg s.sc),.pt (.one (.fn 70 [(2,0),(3,0)]))] dst k { t:=t,h:=c0::c1::some (Qyg x.1)::some (Qyg x.2)::c4::h,fr:=fr,r:=rr }):=by
 subst hy
 exact Qae [2,3] (Q4w (Qbw (Qwa F)) x s hD) Try.call68 (by simp only[reV,SV.re,SA.re,SC.re,reP,nth];exact ⟨Qub _,rfl,trivial⟩) (hs0:=[Qyg x.1,Qyg x.2]) rfl ⟨Qub _,Qub _,trivial⟩ rfl rfl rfl (by decide) rfl rfl hg
theorem Qu4 (F:GFun) (b:Nat) (hj:F.jn b<=9223372036854775807) (x y:(Nat->Int)×(Nat->Int)) (hy:y=Qld cE x (F.jk b) (F.jo b) (F.jd b) (F.jn b) (F.ja b)) (hD:Qfr (fun p=>0<=p.l/\p.l<16) (F.jk b) (F.jo b) (F.jd b) (F.jn b) (F.ja b)) {c0 c1 c4:Option (List SC)} {h:List (Option (List SC))} {t:List SV} {fr:List (List SV)} {rr:List (Option ORow)} {dst:Option Nat} {k:List Item}
 (hg:Goes Try.prog Q (Qwa F) w0 k (({ t:=t,h:=c0::c1::some (Qyg y.1)::some (Qyg y.2)::c4::h,fr:=fr,r:=rr }:St).put dst (.tup []))):
 OutOk Try.prog Q (Qwa F) w0 (.call 69 [.pt (.agg [.int .u8 (F.jk b),.int .u8 (F.jo b).k,.int .i64 (F.jo b).n,.int .i64 (F.jo b).p.l,.bool (F.jo b).p.d,.int .u8 (F.jo b).p.f,.int .i64 (F.jf b),.int .i64 (F.jx b),.int .i64 (F.je b),.xs 3 b,.int .i64 (F.jd b).l,.bool (F.jd b).d,.int .u8 (F.jd b).f]),.pt (.one (.fn 70 [(2,0),(3,0)]))] dst k { t:=t,h:=c0::c1::some (Qyg x.1)::some (Qyg x.2)::c4::h,fr:=fr,r:=rr }):=by
 subst hy
 exact Qae [2,3] (Q3w F b (Qbw (Qwa F)) x hj hD) Try.call69 (by simp only[reV,SV.re,SA.re,SC.re,reP,nth];exact ⟨Qub _,rfl,trivial⟩) (hs0:=[Qyg x.1,Qyg x.2]) rfl ⟨Qub _,Qub _,trivial⟩ rfl rfl rfl (by decide) rfl rfl hg
end
structure TS where
 c:(Nat->Int)×(Nat->Int)
 is:Nat->Bool
 sets:Nat->Int
def Qbq (s:GStmt):Bool:=Qqi s&&!s.p.d&&decide (s.p.f=0)&&!decide (s.r.p.l=s.p.l)
def Q7j (x:TS) (s:GStmt):TS:=
 ⟨Qlf cE x.c s,if Qqi s=true then turn x.is s.p.l.toNat true else x.is,if Qbq s=true then turn x.sets s.p.l.toNat (rAr .add .i64 (x.sets s.p.l.toNat) 1) else x.sets⟩
def Qwm (s:Nat->GStmt):Nat->TS->TS
 | 0,x=>x
 | i+1,x=>Q7j (Qwm s i x) (s i)
def Qa7 (F:GFun) (b:Nat) (x:TS):TS:=
 let y:=Qwm (F.s b) (F.sn b) x
 ⟨Qld cE y.c (F.jk b) (F.jo b) (F.jd b) (F.jn b) (F.ja b),y.is,y.sets⟩
def Qke (F:GFun):Nat->TS
 | 0=>⟨(fun _=>0,fun _=>0),fun _=>false,fun _=>0⟩
 | b+1=>Qa7 F b (Qke F b)
def Qn5 (pa:Int) (x:TS):Bool:=Qed 16 fun t=>!(x.is t&&(decide (Int.ofNat t<=pa)||!decide (x.c.1 t=2)||!decide (x.c.2 t=1)||!decide (x.sets t=1)))
def Qsl (f:B9z):Value:=.agg #[.bool (f 0),.bool (f 1),.bool (f 2),.bool (f 3),.bool (f 4),.bool (f 5),.bool (f 6),.bool (f 7),.bool (f 8),.bool (f 9),.bool (f 10),.bool (f 11),.bool (f 12),.bool (f 13),.bool (f 14),.bool (f 15)]
def Qmo (F:GFun):Bool:=Qn5 F.pa (Qke F F.bn)
def GFun.In (F:GFun):Prop:=
 (∀b i,b<F.bn->i<F.sn b->Qvr (fun p=>0<=p.l/\p.l<16) (F.s b i))/\
 (∀b,b<F.bn->Qfr (fun p=>0<=p.l/\p.l<16) (F.jk b) (F.jo b) (F.jd b) (F.jn b) (F.ja b))
theorem Qwu {G:B9z} {i:Nat} {z:Bool} (_h:∀j,j<i->G j=true) (h16:i<16) (hz:z=Qed 16 G) (hg:G i=false):z=false:=hz.trans (Qfb h16 hg)
theorem Q2c {p:Prop} (h:p:=by (first|((try with_reducible refine Q8c ?_ ?_ ?_ ?_);all_goals (cbv;(try simp only[true_and,and_true]);(try ((repeat' apply And.intro)<;>(first|trivial|rfl|exact RowLe.rfl' _|decide|(rw[Qda har _ o9])|((rw[c3];done))|((rw[i3];done))|((rw[s3];done))|((rw[c0];done))|((rw[i0];done))|((rw[s0];done))|((rw[i1];simp_all;done))|((rw[s1];simp_all[Qbq];done))|((have hsb:=hs b;rw[Qda har _ o9]))|fail))));done)|fail)):Pf p:=⟨h⟩
theorem Q2aa (F:GFun) (w:World) (hF:F.At w) (hI:F.In):
 Calls Try.prog 53 #[F.val] w (Ret w (.tuple #[Qsl (Qke F F.bn).is,.bool (Qmo F)])):=by
 obtain ⟨Is,Ij⟩:=hI
 obtain ⟨X,hX0⟩:=x9 (Qke F:Nat->TS)
 obtain ⟨Y,hY0⟩:=x9 (fun b i=>Qwm (F.s b) i (X b):Nat->Nat->TS)
 obtain ⟨XC,hXC⟩:=x9 (fun b=>(X b).c:Nat->(Nat->Int)×(Nat->Int))
 obtain ⟨XI,hXI⟩:=x9 (fun b=>(X b).is:B9y)
 obtain ⟨XS,hXS⟩:=x9 (fun b=>(X b).sets:Nat->Nat->Int)
 obtain ⟨YC,hYC⟩:=x9 (fun b i=>(Y b i).c:Nat->Nat->(Nat->Int)×(Nat->Int))
 obtain ⟨YI,hYI⟩:=x9 (fun b i=>(Y b i).is:Nat->Nat->Nat->Bool)
 obtain ⟨YS,hYS⟩:=x9 (fun b i=>(Y b i).sets:Nat->Nat->Nat->Int)
 have c0:∀b,YC b 0=XC b:=fun b=>by rw[hYC,hXC,hY0];rfl
 have i0:∀b,YI b 0=XI b:=fun b=>by rw[hYI,hXI,hY0];rfl
 have s0:∀b,YS b 0=XS b:=fun b=>by rw[hYS,hXS,hY0];rfl
 have c1:∀b i,YC b (i+1)=Qlf cE (YC b i) (F.s b i):=fun b i=>by rw[hYC,hY0];rfl
 have i1:∀b i,YI b (i+1)=if Qqi (F.s b i)=true then turn (YI b i) (F.s b i).p.l.toNat true else YI b i:=fun b i=>by rw[hYI,hY0];rfl
 have s1:∀b i,YS b (i+1)=if Qbq (F.s b i)=true then turn (YS b i) (F.s b i).p.l.toNat (rAr .add .i64 (YS b i (F.s b i).p.l.toNat) 1) else YS b i:=fun b i=>by rw[hYS,hY0];rfl
 have c2:∀b,XC (b+1)=Qld cE (YC b (F.sn b)) (F.jk b) (F.jo b) (F.jd b) (F.jn b) (F.ja b):=fun b=>by rw[hXC,hYC,hY0,hX0];rfl
 have i2:∀b,XI (b+1)=YI b (F.sn b):=fun b=>by rw[hXI,hYI,hY0,hX0];rfl
 have s2:∀b,XS (b+1)=YS b (F.sn b):=fun b=>by rw[hXS,hYS,hY0,hX0];rfl
 have c3:XC 0=(fun _=>0,fun _=>0):=by rw[hXC,hX0];rfl
 have i3:XI 0=fun _=>false:=by rw[hXI,hX0];rfl
 have s3:XS 0=fun _=>0:=by rw[hXS,hX0];rfl
 have e1:(Qke F F.bn).is=XI F.bn:=by rw[hXI,hX0]
 obtain ⟨z0,hz0⟩:=x9 (Qmo F)
 obtain ⟨G,hG⟩:=x9 (fun t=>!(XI F.bn t&&(decide (Int.ofNat t<=F.pa)||!decide ((XC F.bn).1 t=2)||!decide ((XC F.bn).2 t=1)||!decide (XS F.bn t=1))):B9z)
 have hz1:z0=Qed 16 fun t=>!(XI F.bn t&&(decide (Int.ofNat t<=F.pa)||!decide ((XC F.bn).1 t=2)||!decide ((XC F.bn).2 t=1)||!decide (XS F.bn t=1))):=by rw[hz0,hXI,hXC,hXS,hX0];rfl
 have hQ:∀b i,b<F.bn->i<F.sn b->Qqi (F.s b i)=true->0<=(F.s b i).p.l/\(F.s b i).p.l<16:=fun b i hb hi h=>by
  have h1:=(Is b i hb hi).2.2
  have h2:(F.s b i).k=1:=by simp only[Qqi,Bool.and_eq_true,beq_iff_eq] at h;exact h.1.1
  exact (h1 h2).1
 have hzG:z0=Qed 16 G:=by rw[hz1,hG]
 have hGf1:∀t,XI F.bn t=true->rCm .leq (Int.ofNat t) F.pa=true->G t=false:=fun t h1 h2=>by
  have h2:decide (Int.ofNat t<=F.pa)=true:=h2
  simp only[hG,h1,h2];rfl
 have hGf2:∀t,XI F.bn t=true->decide ((XC F.bn).1 t=2)=false->G t=false:=fun t h1 h2=>by simp only[hG,h1,h2];simp
 have hGf3:∀t,XI F.bn t=true->decide ((XC F.bn).2 t=1)=false->G t=false:=fun t h1 h2=>by simp only[hG,h1,h2];simp
 have hGf4:∀t,XI F.bn t=true->decide (XS F.bn t=1)=false->G t=false:=fun t h1 h2=>by simp only[hG,h1,h2];simp
 have hGt1:∀t,XI F.bn t=false->G t=true:=fun t h1=>by simp only[hG,h1];rfl
 have hGt2:∀t,rCm .leq (Int.ofNat t) F.pa=false->decide ((XC F.bn).1 t=2)=true->decide ((XC F.bn).2 t=1)=true->decide (XS F.bn t=1)=true->G t=true:=fun t h1 h2 h3 h4=>by
  have h1:decide (Int.ofNat t<=F.pa)=false:=h1
  simp only[hG,h1,h2,h3,h4];simp
 clear hz1 hG
 rw[e1,<-hz0]
 clear hz0 hX0 hY0 hXC hXI hXS hYC hYI hYS e1
 obtain ⟨pa,un,lA,ln,lc,lk,lt,bA,bn,bc,sA,sn,sc,s,jA,jn,jc,ja,jk,jo,jf,jx,je,jd⟩:=F
 obtain ⟨hX,hl,hb,hs,hj⟩:=hF
 simp only at hl hb hs hj
 simp only[] at Is Ij c1 i1 s1 c2 i2 s2 hzG hQ hGf1 hGf2 hGf3 hGf4 hGt1 hGt2
 refine Qaa (args:=[.pt (.agg (GFun.dat _))]) (c:=(Qwa _)) Try.func53 rfl hX rfl rfl ?_
 obtain ⟨_,_,_,hnt,ar,har,cm,hcm,_,_,_,_,ar01,ar12,_,hzpl,_,_,_,_,_,_,_,_,hT⟩:=Qca
 simp only[<-hcm] at hGf1 hGt2
 have hl16:∀t:Nat,cm .lss (.ofNat t) 16=true->t<16:=fun t h=>by
  rw[hcm] at h
  have:=of_decide_eq_true (show decide ((t:Int)<16)=true from h)
  omega
 repeat' (first
  | refine go1 ?_|refine go3 (fun hlt=>?_) (fun hge=>?_)|refine go2 (fun h=>?_) (fun h=>?_)|refine gof ?_
  | ((with_reducible apply Qua (hf:=Try.call71));(·(cbv;try rfl));(·intro wc hbc hxc;exact twoC (s b i) wc);intro z hz)
  | ((with_reducible refine Qgha (σ:={b:Nat // b<=bn}) (zs9 [9,1,11,1,19,56]) (fun x=>[zc9 18 x.1]) (fun x=>[(1,Qrb (XI x.1)),(2,Qyg (XC x.1).1),(3,Qyg (XC x.1).2),(4,Qyg (XS x.1))]) (fun x=>[]) (fun x=>bn - x.1) ⟨0,by omega⟩ ?_ ?_);(·exact pfp Q2c);(rintro ⟨b,hb1⟩ mm hmm))
  | ((with_reducible refine Qgha (σ:={i:Nat // i<=sn b}) (zs9 [11,1,26,44]) (fun x=>[zc9 25 x.1]) (fun x=>[(1,Qrb (YI b x.1)),(2,Qyg (YC b x.1).1),(3,Qyg (YC b x.1).2),(4,Qyg (YS b x.1))]) (fun x=>[]) (fun x=>sn b - x.1) ⟨0,by omega⟩ ?_ ?_);(·exact pfp Q2c);(rintro ⟨i,hi⟩ mm hmm))
  | (refine Qv4 _ (YC b i) (YC b (i+1)) (s b i) (c1 b i) (Is b i y9 y9) ?_)
  | ((have hi':i=sn b:=o9;subst hi';refine Qu4 ⟨pa,un,lA,ln,lc,lk,lt,bA,bn,bc,sA,sn,sc,s,jA,jn,jc,ja,jk,jo,jf,jx,je,jd⟩ b (hj b) (YC b (sn b)) (XC (b+1)) (c2 b) (Ij b y9) ?_))
  | (((with_reducible apply Qxa);(·exact (hQ b i y9 y9 (by simp_all)).1);(·have hq:=(hQ b i y9 y9 (by simp_all)).2;omega)))
  | (((with_reducible apply Q3f (.int .i64 (YS b i (s b i).p.l.toNat)));(·have hq:=(hQ b i y9 y9 (by simp_all));exact Eq.trans (congrArg (fun o=>(Qyg (YS b i))[o]?) (Qzb (s b i).p.l)) (Qwh (YS b i) o9));(·rfl)))
  | (((with_reducible apply Qan (Qyg (YS b (i+1))));(·have hq:=(hQ b i y9 y9 (by simp_all));exact lt_of_eq_of_lt (Qzb (s b i).p.l) (by show _<16;omega));(·have hq:=(hQ b i y9 y9 (by simp_all));exact Eq.trans (congrArg (fun o=>Qka (Qyg (YS b i)) o [.int .i64 (ar .add .i64 (YS b i (s b i).p.l.toNat) 1)]) (Qzb (s b i).p.l)) (by rw[Q8r _ _ o9,s1,har,if_pos (by simp_all[Qbq])]))))
  | (((with_reducible apply Q5a (Qrb (YI b (i+1))));(·have hq:=(hQ b i y9 y9 (by simp_all));exact lt_of_eq_of_lt (Qzb (s b i).p.l) (by show _<16;omega));(·have hq:=(hQ b i y9 y9 (by simp_all));have hp:=Qsb (YI b i) true (o:=(s b i).p.l.toNat) o9;rw[i1,if_pos (by simp_all)];exact Eq.mpr (congrArg (fun o=>Qbc (Qka (Qrb (YI b i)) o [.lit true]) (Qrb (turn (YI b i) (s b i).p.l.toNat true))) (Qzb (s b i).p.l)) hp);(·rfl);(·simp)))
  | (((with_reducible refine Qma ⟨b+1,by omega⟩ ?_ ?_ ?_ ?_);(·exact Nat.lt_of_lt_of_eq (show bn - (b+1)<bn - b by omega) (Eq.symm y9));(·(refine Q8c ?_ ?_ ?_ ?_<;>(cbv;(try simp only[true_and,and_true]);(try ((repeat' apply And.intro)<;>(first|trivial|rfl|(rw[Qda har _ o9])|(rw[i2])|(rw[s2])))))));(·(cbv;try rfl));(·simp)))
  | ((with_reducible refine Qfha ⟨i+1,by omega⟩ ?_ ?_);(·exact Nat.lt_of_lt_of_eq (show sn b - (i+1)<sn b - i from by omega) (Eq.symm y9));(·exact pfp Q2c))
  | ((with_reducible refine Qgha (σ:={t:Nat // t<=16/\∀j,j<t->G j=true}) (zs9 [3,1,12,2,77,30]) (fun x=>[zc9 76 x.1]) (fun x=>[]) (fun x=>[]) (fun x=>16 - x.1) ⟨0,by omega,fun j hj=>by omega⟩ ?_ ?_);(·exact pfp Q2c);(rintro ⟨t,ht,htv⟩ mm hmm))
  | (((with_reducible apply Qxa);(·exact Int.natCast_nonneg _);(·have hq:=hl16 t y9;show (t:Int)<((16:Nat):Int);omega)))
  | ((with_reducible refine Qfha ⟨t+1,by have:=hl16 t y9;omega,Q3b htv (by have hbb:b=bn:=o9;subst hbb;first|exact hGt1 _ y9|exact hGt2 _ y9 y9 y9 y9)⟩ ?_ ?_);(·subst hmm;exact Nat.lt_of_lt_of_eq (Nat.sub_lt_sub_left (hl16 t y9) (Nat.lt_succ_self t)) rfl);(·exact pfp Q2c))
  | (((with_reducible apply Q3f (.bool (XI b t)));(·exact Qvh (XI b) (by first|assumption|exact hl16 _ y9|omega));(·rfl)))
  | (((with_reducible apply Q3f (.int .i64 ((XC b).1 t)));(·exact Eq.trans (congrArg (fun o=>(Qyg (XC b).1)[o]?) ((Qnq _).trans (Qnq t))) (Qwh (XC b).1 (by first|assumption|exact hl16 _ y9|omega)));(·rfl)))
  | (((with_reducible apply Q3f (.int .i64 ((XC b).2 t)));(·exact Eq.trans (congrArg (fun o=>(Qyg (XC b).2)[o]?) ((Qnq _).trans (Qnq t))) (Qwh (XC b).2 (by first|assumption|exact hl16 _ y9|omega)));(·rfl)))
  | (((with_reducible apply Q3f (.int .i64 (XS b t)));(·exact Eq.trans (congrArg (fun o=>(Qyg (XS b))[o]?) ((Qnq _).trans (Qnq t))) (Qwh (XS b) (by first|assumption|exact hl16 _ y9|omega)));(·rfl)))
  | fail)
 all_goals
  have hbb:b=bn:=by omega
  subst hbb
  first
   | (have h16:=hl16 t y9
      have e:z0=false:=Qwu htv h16 hzG (by first|exact hGf1 _ y9 y9|exact hGf2 _ y9 y9|exact hGf3 _ y9 y9|exact hGf4 _ y9 y9)
      rw[e];rfl)
   | (have h16:t=16:=by
       have h1:cm .lss (.ofNat t) 16=false:=by assumption
       rw[hcm] at h1
       have h2:=of_decide_eq_false (show decide ((t:Int)<16)=false from h1)
       omega
      subst h16
      have e:z0=true:=hzG.trans (Qla.2 htv)
      rw[e];rfl)
 trace_state
theorem Qmd {o:GOper} (h:o.ok=true) (h1:o.k≠1):0<=o.p.l/\o.p.l<16:=by
 simp only[GOper.ok,GPlace.ok,Bool.or_eq_true,Bool.and_eq_true,beq_iff_eq,decide_eq_true_eq] at h
 grind
theorem Qsg {p:GPlace} (h:p.ok=true):0<=p.l/\p.l<16:=by
 simp only[GPlace.ok,Bool.and_eq_true,decide_eq_true_eq] at h
 exact h.1
theorem Qff {s:GStmt} (h:s.ok=true):Qvr (fun p=>0<=p.l/\p.l<16) s:=by
 simp only[GStmt.ok,GRv.ok,Bool.or_eq_true,Bool.and_eq_true,beq_iff_eq,decide_eq_true_eq] at h
 refine ⟨fun hk=>?_,fun hk ha=>?_,fun hk=>⟨?_,fun hr=>?_,fun hr=>⟨fun ha=>?_,fun h1 hb=>?_⟩⟩⟩
 · show 0<=s.l/\s.l<16
   omega
 · refine Qmd ?_ ha
   grind
 · refine Qsg ?_
   grind
 · refine Qsg ?_
   grind
 · refine Qmd ?_ ha
   grind
 · refine Qmd ?_ hb
   grind
theorem Q5h {k:Int} {a:GOper} {fn nx el:Int} {n:Nat} {g:Nat->GOper} {d:GPlace} (h:(GJump.mk k a fn nx el (Q8j n g) d).ok=true):Qfr (fun p=>0<=p.l/\p.l<16) k a d n g:=by
 simp only[GJump.ok,Bool.or_eq_true,Bool.and_eq_true,beq_iff_eq,decide_eq_true_eq] at h
 refine ⟨fun hk ha=>?_,fun hk=>⟨?_,fun i hi h1=>?_⟩⟩
 · refine Qmd ?_ ha
   grind
 · refine Qsg ?_
   grind
 · refine Qmd ?_ h1
   have:(Q8j n g).all GOper.ok=true:=by grind
   rw[Q8j,List.all_map,List.all_eq_true] at this
   exact this i (List.mem_range.2 hi)
theorem Qno (F:GFun) (h:Qed F.bn (Qjc F)=true):F.In:=by
 refine ⟨fun b i hb hi=>Qff ?_,fun b hb=>Q5h (fn:=F.jf b) (nx:=F.jx b) (el:=F.je b) ?_⟩
 · have hv:=Qla.1 h b hb
   simp only[Qjc,Bool.and_eq_true] at hv
   exact Qla.1 hv.1 i hi
 · have hv:=Qla.1 h b hb
   simp only[Qjc,Bool.and_eq_true] at hv
   exact hv.2
theorem Qi5 (F:GFun) (h:Qrf F=true):F.In:=by
 simp only[Qrf,Bool.and_eq_true] at h
 exact Qno F h.1
def fchkV (F:GFun):Int:=if Q0c F then 4 else if !Qrf F then 8 else if !Qmo F then 12 else 0
theorem Qn7 (F:GFun) (w:World) (hF:F.At w):
 Calls Try.prog 35 #[F.val] w (Ret w (.int .i64 (fchkV F))):=by
 have h1 wc (hk:KB ⟨w,[]⟩ wc):=Q07 F wc (hF.later hk)
 have h2 wc (hk:KB ⟨w,[]⟩ wc):=Qnaa F wc (hF.later hk)
 have h3 (hm:Qrf F=true) (wc:World) (hk:KB ⟨w,[]⟩ wc):=Q2aa F wc (hF.later hk) (Qi5 F hm)
 unfold fchkV
 obtain ⟨q1,hq1⟩:=x9 (Q0c F)
 obtain ⟨q2,hq2⟩:=x9 (Qrf F)
 obtain ⟨q3,hq3⟩:=x9 (Qmo F)
 obtain ⟨is,his⟩:=x9 ((Qke F F.bn).is)
 rw[<-hq1] at h1⊢
 rw[<-hq2] at h2⊢
 rw[<-hq3] at h3⊢
 rw[<-hq2,<-his] at h3
 clear hq1 hq2 hq3 his
 obtain ⟨_,_,_,_,_,_,_,_,bn,_,_,_,_,s,_,_,_,_,_,_,jf,jx,je,_⟩:=F
 obtain ⟨hX,hl,hb,hs,hj⟩:=hF
 simp only at hl hb hs hj
 refine Qaa (args:=[.pt (.agg (GFun.dat _))]) (c:=(Qwa _)) Try.func35 rfl hX rfl rfl ?_
 obtain ⟨_,hnd,_,hnt,_,har,_,hcm,_,_,_,_,ar01,ar12,_,hzpl,_,_,_,_,_,_,_,_,hT⟩:=Qca
 repeat' (first
  | refine go1 ?_|refine go2 (fun h=>?_) (fun h=>?_)
  | ((with_reducible apply Qua (hf:=Try.call51));(·(cbv;try rfl));(·intro wc hbc hxc;exact h1 wc hbc);intro z hz)
  | ((with_reducible apply Qua (hf:=Try.call52));(·(cbv;try rfl));(·intro wc hbc hxc;exact h2 wc hbc);intro z hz)
  | (refine' Qiha Try.call53 ?_ ?_;rotate_left;(·intro wc hbc hxc;exact h3 (by first|(rw[<-hz];assumption)|simp_all) wc hbc))
  | fail)
 all_goals (refine Qyc ?_;clear hX hT h1 h2 h3;subst hnd hnt;simp_all)
end Go.Proofs.Ytemnfncbgalljab
