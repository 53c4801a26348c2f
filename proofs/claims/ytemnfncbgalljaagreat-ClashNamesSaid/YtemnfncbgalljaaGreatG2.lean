/- Lemmas. No condition. -/
import Derived.Test.YtemnfncbgalljaaGreatG1
namespace Go.Proofs.YtemnfncbgalljaaGreat
open Go.RowKit
set_option linter.all false
set_option maxHeartbeats 64000000
theorem RowIs.one {c:R9z} {w:World} {R:ORow} {v:Value} (h:RowIs c w R v) (hp:∀j,j<R.n->Qob (R.el j)=true):∃a cap,v=.slice a R.n cap/\XOk ⟨[],Q5r a R.n cap R.es R.el,[]⟩ ⟨w,[]⟩:=by
 obtain ⟨a,cap,rfl⟩:=h.form
 refine ⟨a,cap,rfl,fun q i j hj=>?_⟩
 obtain ⟨b,p,h1,h2,vs,h3,h4⟩:=h.row (c':=Q5r a R.n cap R.es R.el) hp (j:=j) hj
 exact ⟨b,p,h1,h2,by simp,vs,h3,h4⟩
theorem Qmr {L:List (Nat×Nat)} {p:Nat×Nat} {j:Nat} (hj:j<L.length) (h:L.getD j (0,0)=p):p∈L:=by
 rw[<-h];simp only[List.getD,List.getElem?_eq_getElem hj,Option.getD_some];exact List.getElem_mem hj
def Qvd (F:GFun) (b:Nat):List Nat:=(F.jump b).leads.map Int.toNat
inductive Reach (F:GFun):Nat->Prop where
 | zero:Reach F 0
 | step {b n:Nat}:Reach F b->n∈Qvd F b->Reach F n
def Q5b (S:B9z):Nat->Nat
 | 0=>0
 | m+1=>Q5b S m+if S m=true then 0 else 1
theorem Qfu (S:B9z):∀m,Q5b S m<=m
 | 0=>Nat.le_refl _
 | m+1=>by have:=Qfu S m;simp only[Q5b];split<;>omega
theorem Qmi {S:B9z} {n:Nat} (h:S n=false):∀m,Q5b (fun j=>if j=n then true else S j) m+(if n<m then 1 else 0)=Q5b S m
 | 0=>by simp[Q5b]
 | m+1=>by
   have ih:=Qmi h m
   simp only[Q5b]
   by_cases g:m=n
   · subst g
     rw[if_neg (Nat.lt_irrefl _)] at ih
     simp only[if_true,h,Bool.false_eq_true,if_false]
     rw[if_pos (show m<m+1 by omega)];omega
   · simp only[if_neg g]
     by_cases g2:n<m
     · rw[if_pos g2] at ih;rw[if_pos (show n<m+1 by omega)];omega
     · rw[if_neg g2] at ih;rw[if_neg (show ¬n<m+1 by omega)];omega
theorem Reach.lt {F:GFun} (hO:F.Ok) (hp:0<F.bn) {b:Nat} (h:Reach F b):b<F.bn:=by
 induction h with
 | zero=>exact hp
 | @step b n _ hn ih=>
   obtain ⟨m,hm,rfl⟩:=List.mem_map.1 hn
   have:=hO.lead ih m hm
   omega
section
set_option maxRecDepth 100000
def Qol (F:GFun) (b i:Int):Bool:=decide (0<=b)&&(decide (b<F.bn)&&(decide (0<=i)&&decide (i<=F.sn b.toNat)))
theorem Q78 (F:GFun) (w:World) (hF:F.At w) (b i:Int):
 Calls Tryz.prog 251 #[F.val,.agg #[.int .i64 b,.int .i64 i]] w (Ret w (.bool (Qol F b i))):=by
 obtain ⟨z,hz⟩:=x9 (Qol F b i)
 rw[<-hz]
 unfold Qol at hz
 by_cases hneg:0<=b
 · obtain ⟨n,rfl⟩:∃n:Nat,b=.ofNat n:=⟨b.toNat,by simp only[Int.ofNat_eq_natCast];omega⟩
   obtain ⟨pa,un,lA,ln,lc,lk,lt,bA,bn,bc,sA,sn,sc,s,jA,jn,jc,ja,jk,jo,jf,jx,je,jd⟩:=F
   obtain ⟨hX,hl,hb,hs,hj⟩:=hF
   simp only at hl hb hs hj
   simp only[Int.ofNat_eq_natCast,Int.toNat_natCast] at hz
   refine Qaa (args:=[.pt (.agg (GFun.dat _)),.pt (.agg [.int .i64 (.ofNat n),.int .i64 i])]) (c:=(Qwa _)) Tryz.func251 rfl hX rfl rfl ?_
   obtain ⟨_,hnd,_,hnt,_,har,cm,hcm,_,_,_,_,ar01,ar12,_,hzpl,_,_,_,_,_,_,_,_,hT⟩:=Qca
   have hl2:cm .lss (.ofNat n) (.ofNat bn)=true->n<bn:=fun h=>by rw[hcm] at h;have:=of_decide_eq_true h;simp only[Int.ofNat_eq_natCast] at this;omega
   have q0:cm .geq (.ofNat n) 0=true:=by rw[hcm];exact decide_eq_true hneg
   repeat' (first
    | refine goa ?_|refine go3 (fun hlt=>?_) (fun hge=>?_)|refine go2 (fun h=>?_) (fun h=>?_)|refine god ?_|refine gof ?_
    | fail)
   all_goals (refine Qtb ?_;rw[hz];clear hX hT hz hl2 hl hb hs hj ar01 ar12 q0;try subst hcm hnd hnt)
   all_goals simp only[rCm,Int.ofNat_eq_natCast,decide_eq_true_eq,decide_eq_false_iff_not] at *
   all_goals grind
 · skip
   obtain ⟨pa,un,lA,ln,lc,lk,lt,bA,bn,bc,sA,sn,sc,s,jA,jn,jc,ja,jk,jo,jf,jx,je,jd⟩:=F
   obtain ⟨hX,hl,hb,hs,hj⟩:=hF
   simp only at hl hb hs hj
   simp only at hz
   refine Qaa (args:=[.pt (.agg (GFun.dat _)),.pt (.agg [.int .i64 b,.int .i64 i])]) (c:=(Qwa _)) Tryz.func251 rfl hX rfl rfl ?_
   obtain ⟨_,hnd,_,hnt,_,har,cm,hcm,_,_,_,_,ar01,ar12,_,hzpl,_,_,_,_,_,_,_,_,hT⟩:=Qca
   have q0:cm .geq b 0=false:=by rw[hcm];exact decide_eq_false hneg
   repeat' (first
    | refine goa ?_|refine god ?_
    | fail)
   all_goals (refine Qtb ?_;rw[hz,decide_eq_false hneg];rfl)
theorem Qbu {F:GFun} {b i:Nat} (hb:b<F.bn) (hi:i<=F.sn b):Qol F b i=true:=by
 simp only[Qol,Bool.and_eq_true,decide_eq_true_eq]
 exact ⟨by omega,by omega,by omega,by simp only[Int.toNat_natCast];omega⟩
theorem Qk2 (F:GFun) (w:World) (hF:F.At w) (hO:F.Ok) (b i:Int):
 Calls Tryz.prog 203 #[F.val,.agg #[.int .i64 b,.int .i64 i]] w (Ret w (.int .i64 (if Qol F b i then 0 else 2))):=by
 have h1 wc (hk:KB ⟨w,[]⟩ wc):=hO.chk wc (hF.later hk)
 have h2 wc (hk:KB ⟨w,[]⟩ wc):=Q78 F wc (hF.later hk) b i
 obtain ⟨z,hz⟩:=x9 (Qol F b i)
 rw[<-hz] at h2⊢
 clear hz hO
 obtain ⟨_,_,_,_,_,_,lt,_,bn,_,_,_,_,_,_,_,_,_,_,_,_,_,_,_⟩:=F
 obtain ⟨hX,hl,hb,hs,hj⟩:=hF
 simp only at hl hb hs hj
 refine Qaa (args:=[.pt (.agg (GFun.dat _)),.pt (.agg [.int .i64 b,.int .i64 i])]) (c:=(Qwa _)) Tryz.func203 rfl hX rfl rfl ?_
 obtain ⟨_,_,_,hnt,_,har,_,hcm,_,_,_,_,ar01,ar12,_,hzpl,_,_,_,_,_,_,_,_,hT⟩:=Qca
 repeat' (first
  | refine goa ?_|refine go2 (fun h=>?_) (fun h=>?_)
  | (refine' Qiha Tryz.call85 ?_ ?_;rotate_left;(·intro wc hbc hxc;exact h1 wc hbc))
  | ((with_reducible apply Qua (hf:=Tryz.call251));(·(cbv;try rfl));(·intro wc hbc hxc;exact h2 wc hbc);intro z hz)
  | fail)
 all_goals (refine Qyc ?_;simp_all)
theorem Qf5 {F:GFun} {b i h:Nat} (hb:b<F.bn) (hi:i<=F.sn b) (hh:h<stN F.sn F.bn):(pbN F h<b\/(pbN F h=b/\piN F h<i))↔h<stN F.sn b+i:=by
 obtain ⟨h1,h2,h3⟩:=Qoc hh
 generalize pbN F h=x at h1 h2 h3⊢
 generalize piN F h=y at h2 h3⊢
 subst h3
 rcases Nat.lt_trichotomy x b with g|g|g
 · have:=Qfg (sn:=F.sn) (show x+1<=b from g)
   simp only[stN] at this
   exact ⟨fun _=>by omega,fun _=>.inl g⟩
 · subst g
   exact ⟨fun k=>by rcases k with k|k<;>omega,fun k=>.inr ⟨rfl,by omega⟩⟩
 · have:=Qfg (sn:=F.sn) (show b+1<=x from g)
   simp only[stN] at this
   exact ⟨fun k=>by omega,fun k=>by omega⟩
def Qs5 (x1 x2 y1 y2:Nat):Int:=if x1=y1 then (x2:Int) - y2 else (x1:Int) - y1
theorem Qn8 (x1 x2 y1 y2:Nat) (w:World) (h1:x1<1000) (h2:x2<1000) (h3:y1<1000) (h4:y2<1000):
 Calls Tryz.prog 206 #[.agg #[.int .i64 (.ofNat x1),.int .i64 (.ofNat x2)],.agg #[.int .i64 (.ofNat y1),.int .i64 (.ofNat y2)]] w (Ret w (.int .i64 (Qs5 x1 x2 y1 y2))):=by
 obtain ⟨z,hz⟩:=x9 (Qs5 x1 x2 y1 y2)
 rw[<-hz]
 unfold Qs5 at hz
 refine Qaa (args:=[.pt (.agg [.int .i64 (.ofNat x1),.int .i64 (.ofNat x2)]),.pt (.agg [.int .i64 (.ofNat y1),.int .i64 (.ofNat y2)])]) (c:=Qra) Tryz.func206 rfl (Qga _) rfl rfl ?_
 obtain ⟨_,_,_,hnt,ar,har,_,hcm,_,_,_,_,ar01,ar12,_,hzpl,_,_,_,_,_,_,_,_,hT⟩:=Qca
 have hsb:∀x y:Nat,x<1000->y<1000->ar .sub .i64 (.ofNat x) (.ofNat y)=(x:Int) - y:=fun x y h1 h2=>by
  rw[har];exact Go.IntWalk.i64_in _ (by simp only[Int.ofNat_eq_natCast];omega)
 repeat' (first
  | (refine gov ?_;(try simp only[ar01,ar12]))
  | refine goa ?_|refine go2 (fun h=>?_) (fun h=>?_)|refine gof ?_
  | refine Qhha Tryz.func253 Tryz.results253 Tryz.call253 ?_
  | (with_reducible apply Qqa 3)
  | fail)
 all_goals
  refine Qyc ?_
  simp only[hsb x1 y1 h1 h3,hsb x2 y2 h2 h4,decide_eq_true_eq,decide_eq_false_iff_not] at *
  rw[hz]
  split<;>omega
theorem Qcy (F:GFun) (w:World) (hF:F.At w) (hO:F.Ok) (b i:Nat) (hbb:b<F.bn) (hii:i<=F.sn b):
 Calls Tryz.prog 140 #[F.val,.agg #[.int .i64 (.ofNat b),.int .i64 (.ofNat i)]] w (Ret w (.tuple #[.int .i64 (.ofNat (stN F.sn b+i)),.int .i64 0])):=by
 have h1 wc (hk:KB ⟨w,[]⟩ wc):=Qk2 F wc (hF.later hk) hO b i
 have e:=Qbu hbb hii
 simp only[Int.ofNat_eq_natCast] at *
 rw[e] at h1
 have h2 wc (hk:KB ⟨w,[]⟩ wc):=Q9aa F wc (hF.later hk) hO.small.s hO.small.b
 have hlex0:=fun h=>Qf5 (F:=F) (h:=h) hbb hii
 have hN9:=hO.pts
 have hKN:=Q9t hbb hii
 obtain ⟨N,hN⟩:=x9 (stN F.sn F.bn)
 obtain ⟨K,hK⟩:=x9 (stN F.sn b+i)
 obtain ⟨pb,hpb⟩:=x9 (pbN F:N9z)
 obtain ⟨pi,hpi⟩:=x9 (piN F:N9z)
 have hR:ptR (Qgb F.sn F.bn)=⟨N,2,fun j=>[.int .i64 (.ofNat (pb j)),.int .i64 (.ofNat (pi j))]⟩:=by rw[ptR,Q6b,hN,hpb,hpi];rfl
 rw[hR] at h2
 rw[<-hN,<-hK] at hKN
 rw[<-hN] at hN9
 have hlex:∀h,h<N->((pb h<b\/(pb h=b/\pi h<i))↔h<K):=fun h hh=>by rw[hpb,hpi,hK];exact hlex0 h (hN▸hh)
 have hbs:∀h,h<N->pb h<1000/\pi h<1000:=fun h hh=>by
  obtain ⟨g1,g2,_⟩:=Qoc (F:=F) (n:=h) (hN▸hh)
  rw[hpb,hpi]
  have:=hO.bn24;have:=hO.sn24 g1
  exact ⟨by omega,by omega⟩
 have hb9:b<1000:=by have:=hO.bn24;omega
 have hi9:i<1000:=by have:=hO.sn24 hbb;omega
 rw[<-hK]
 obtain ⟨od,hod⟩:=x9 (fun m=>Qs5 (pb m) (pi m) b i:I9z)
 have ho (wc:World) (m:Nat) (hm:m<N):=Qn8 (pb m) (pi m) b i wc (hbs m hm).1 (hbs m hm).2 hb9 hi9
 have hlt0:∀m,m<N->(od m<0↔m<K):=fun m hm=>by
  rw[<-hlex m hm,hod]
  show Qs5 (pb m) (pi m) b i<0↔_
  unfold Qs5
  split<;>omega
 have hoe:∀m,Qs5 (pb m) (pi m) b i=od m:=fun m=>by rw[hod]
 simp only[hoe] at ho
 clear hR hpb hpi hK hN hO e hlex0 hod hlex hbs hoe
 obtain ⟨_,_,_,_,_,_,lt,_,bn,_,_,_,_,_,_,_,_,_,_,_,_,_,_,_⟩:=F
 obtain ⟨hX,hl,hb,hs,hj⟩:=hF
 simp only at hl hb hs hj
 simp only at hbb hii h1 h2
 refine Qaa (args:=[.pt (.agg (GFun.dat _)),.pt (.agg [.int .i64 (.ofNat b),.int .i64 (.ofNat i)])]) (c:=(Qwa _)) Tryz.func140 rfl hX rfl rfl ?_
 obtain ⟨_,_,_,hnt,ar,har,cm,hcm,_,_,_,_,ar01,ar12,_,hzpl,_,_,_,_,_,_,_,_,hT⟩:=Qca
 obtain ⟨md,hmd⟩:=x9 (fun u v=>(u+v) / 2:Nat->Nat->Nat)
 have hm1:∀u v,u<v->u<=md u v/\md u v<v:=fun u v h=>by rw[hmd];show u<=(u+v) / 2/\(u+v) / 2<v;omega
 have hmN:∀u v,u<v->v<=N->md u v<N:=fun u v h1 h2=>by have:=(hm1 u v h1).2;omega
 have hmid:∀u v,u<=1000->v<=1000->ar .quo .i64 (ar .shr .u64 (ar .quo .u64 (ar .add .i64 (.ofNat u) (.ofNat v)) 0) 1) 0=.ofNat (md u v):=fun u v h1 h2=>by
  rw[Qoq har o9,har,hmd]
  show IntKind.i64.wrap ((IntKind.u64.wrap ((u+v:Nat):Int)).fdiv (2 ^ (min (1:Int).toNat 64)))=(((u+v) / 2:Nat):Int)
  have e1:IntKind.u64.wrap ((u+v:Nat):Int)=((u+v:Nat):Int):=Int.emod_eq_of_lt o9 (by show _<(18446744073709551616:Int);omega)
  rw[e1]
  have e2:(((u+v:Nat):Int)).fdiv (2 ^ (min (1:Int).toNat 64))=(((u+v) / 2:Nat):Int):=by
   show (((u+v:Nat):Int)).fdiv 2=_
   rw[Int.fdiv_eq_ediv_of_nonneg _ o9];omega
  rw[e2,Go.IntWalk.i64_in _ o9]
 have hA:∀(z:Int) m,m<N->z=od m->cm .lss z 0=true->m<K:=fun z m hm hz h=>by
  rw[hcm] at h;have:=of_decide_eq_true h;rw[hz] at this;exact (hlt0 m hm).1 this
 have hB:∀(z:Int) m,m<N->z=od m->cm .lss z 0=false->K<=m:=fun z m hm hz h=>by
  rw[hcm] at h;have:=of_decide_eq_false h;rw[hz] at this
  exact Nat.le_of_not_lt fun g=>this ((hlt0 m hm).2 g)
 clear hlt0
 repeat' (first
  | refine goa ?_|refine go3 (fun hlt=>?_) (fun hge=>?_)|refine go2 (fun h=>?_) (fun h=>?_)|exact go0|refine gof ?_|refine Qvha ?_ ?_
  | (refine' Qiha Tryz.call203 ?_ ?_;rotate_left;(·intro wc hbc hxc;exact h1 wc hbc))
  | ((with_reducible apply Qoa (hf:=Tryz.call101));(·intro S;cbv;try rfl);(·intro wc S hbc hxc hrc;exact h2 wc hbc);(·rfl))
  | refine Qhha Tryz.func205 Tryz.results205 Tryz.call205 ?_
  | ((with_reducible refine Qgha (σ:={x:Nat×Nat // x.1<=K/\K<=x.2/\x.2<=N}) (zs9 [11,1,15,20]) (fun x=>[(9,.pt (.one (.int .i64 (.ofNat x.1.1)))),(10,.pt (.one (.int .i64 (.ofNat x.1.2))))]) (fun x=>[]) (fun x=>[]) (fun x=>x.1.2 - x.1.1) ⟨(0,N),by omega,by omega,by omega⟩ ?_ ?_);(·exact pfp Qdb);(rintro ⟨⟨u,v⟩,hu,hv,hvN⟩ mm hmm))
  | ((rw[hmid u v (by have hu':u<=K:=hu;omega) (by have hv':v<=N:=hvN;omega)]))
  | (((with_reducible apply Qbn (id:=5));(·rfl);(·kernel_rfl);(·kernel_rfl)))
  | (((with_reducible apply Qbn (id:=8));(·rfl);(·kernel_rfl);(·kernel_rfl)))
  | (((with_reducible apply Q4d);(·kernel_rfl)))
  | ((with_reducible apply Q4f (hf:=Tryz.call206));(·(cbv;try rfl));(·intro wc hbc hxc;exact ho wc _ (by first|exact hmN u v y9 hvN|assumption));intro z hz)
  | (((with_reducible apply Qxa);(·exact Int.natCast_nonneg _);(·exact Int.ofNat_lt.2 (by first|exact hmN u v y9 hvN|assumption))))
  | ((have hmK:md u v<K:=hA _ _ (hmN u v hlt hvN) hz h;(with_reducible refine Qma (⟨(md u v+1,v),Nat.succ_le_of_lt hmK,hv,hvN⟩:{x:Nat×Nat // x.1<=K/\K<=x.2/\x.2<=N}) ?_ ?_ ?_ ?_);(·exact Nat.lt_of_lt_of_eq (show v - (md u v+1)<v - u from by have:=hm1 u v hlt;omega) (Eq.symm y9));(·(refine Q8c ?_ ?_ ?_ ?_<;>(cbv;(try simp only[true_and,and_true]);(try ((repeat' apply And.intro)<;>(first|trivial|rfl|exact RowLe.rfl' _|(rw[Qda har _ o9])))))));(·(cbv;try rfl));(·simp)))
  | ((have hmK:K<=md u v:=hB _ _ (hmN u v hlt hvN) hz h;(with_reducible refine Qma (⟨(u,md u v),hu,hmK,Nat.le_of_lt (hmN u v hlt hvN)⟩:{x:Nat×Nat // x.1<=K/\K<=x.2/\x.2<=N}) ?_ ?_ ?_ ?_);(·exact Nat.lt_of_lt_of_eq (show md u v - u<v - u from by have:=hm1 u v hlt;omega) (Eq.symm y9));(·(refine Q8c ?_ ?_ ?_ ?_<;>(cbv;(try simp only[true_and,and_true]);(try ((repeat' apply And.intro)<;>(first|trivial|rfl|exact RowLe.rfl' _|(rw[Qda har _ o9])))))));(·(cbv;try rfl));(·simp)))
  | fail)
 all_goals
  have hu':u<=K:=hu
  have hv':K<=v:=hv
  have huK:u=K:=by omega
  subst huK
  rfl
end
theorem Q12 (F:GFun) (w:World) (hF:F.At w) (hO:F.Ok) (b i:Nat) (hbb:b<F.bn) (hii:i<=F.sn b):
 Calls Tryz.prog 139 #[F.val,.agg #[.int .i64 (.ofNat b),.int .i64 (.ofNat i)]] w (RetR w (Qwa F) (.tup [.one (.rs 0),.one (.int .i64 0)]) [ptR (Qgd F b i)]):=by
 have h1 wc (hk:KB ⟨w,[]⟩ wc):=Qk2 F wc (hF.later hk) hO b i
 have e:=Qbu hbb hii
 simp only[Int.ofNat_eq_natCast] at *
 rw[e] at h1
 have h2 wc (hk:KB ⟨w,[]⟩ wc):=Qoaa F wc (hF.later hk) hO b i hbb hii
 obtain ⟨R,hR⟩:=x9 (ptR (Qgd F b i))
 rw[<-hR] at h2⊢
 clear e hO hR
 obtain ⟨_,_,_,_,_,_,lt,_,bn,_,_,_,_,_,_,_,_,_,_,_,_,_,_,_⟩:=F
 obtain ⟨hX,hl,hb,hs,hj⟩:=hF
 simp only at hl hb hs hj
 simp only at h1 h2
 refine Qaa (args:=[.pt (.agg (GFun.dat _)),.pt (.agg [.int .i64 (.ofNat b),.int .i64 (.ofNat i)])]) (c:=(Qwa _)) Tryz.func139 rfl hX rfl rfl ?_
 obtain ⟨_,_,_,hnt,_,har,_,hcm,_,_,_,_,ar01,ar12,_,hzpl,_,_,_,_,_,_,_,_,hT⟩:=Qca
 repeat' (first
  | refine goa ?_|exact go0
  | (refine' Qiha Tryz.call203 ?_ ?_;rotate_left;(·intro wc hbc hxc;exact h1 wc hbc))
  | ((with_reducible apply Qoa (hf:=Tryz.call204));(·intro S;cbv;try rfl);(·intro wc S hbc hxc hrc;exact h2 wc hbc);(·rfl))
  | fail)
theorem Q4h {F:GFun} {b i:Nat}:(Qgd F b i).length<=2:=by
 unfold Qgd
 split
 · simp
 · rw[List.length_map]
   have h1:(F.jump b).leads.length<=2:=by
    unfold GJump.leads
    split
    · simp
    · split<;>simp
   have h2:∀l:List Int,l.length<=2->(Qdo l).length<=2:=fun l h=>by
    unfold Qdo
    split
    · split<;>simp
    · exact h
   exact h2 _ h1
theorem Qnp {F:GFun} (hO:F.Ok) {b:Nat} (hb:b<F.bn):∀n∈Qvd F b,n<F.bn:=fun n hn=>by
 obtain ⟨m,hm,rfl⟩:=List.mem_map.1 hn
 have:=hO.lead hb m hm
 omega
theorem Qtu {F:GFun} (hO:F.Ok) {b:Nat} (hb:b<F.bn):Q09 (F.jump b).leads=⟨(Qvd F b).length,1,fun j=>[.int .i64 (.ofNat ((Qvd F b).getD j 0))]⟩:=by
 rw[Q09,Qvd,List.length_map]
 congr 1
 funext j
 by_cases hj:j<(F.jump b).leads.length
 · have h2:=hO.lead hb _ (List.getElem_mem hj)
   have e:(F.jump b).leads[j]=Int.ofNat (F.jump b).leads[j].toNat:=by simp only[Int.ofNat_eq_natCast];omega
   simp only[List.getD,List.getElem?_map,List.getElem?_eq_getElem hj,Option.map_some,Option.getD_some]
   rw[<-e]
 · simp only[List.getD,List.getElem?_map,List.getElem?_eq_none (show (F.jump b).leads.length<=j by omega),Option.map_none,Option.getD_none]
   rfl
theorem Q8k {l:List Int} {x:Int}:x∈Qdo l↔x∈l:=by
 unfold Qdo
 split
 · split
   · simp only[List.mem_cons,List.not_mem_nil,or_false];exact or_comm
   · exact Iff.rfl
 · exact Iff.rfl
theorem Qat {F:GFun} (hO:F.Ok) {b i:Nat} (hb:b<F.bn) {p:Nat×Nat} (hp:p∈Qgd F b i):p.1<F.bn/\p.2<=F.sn p.1/\(Reach F b->Reach F p.1):=by
 unfold Qgd at hp
 split at hp
 · rename_i hi
   obtain rfl:=List.mem_singleton.1 hp
   exact ⟨hb,hi,id⟩
 · obtain ⟨n,hn,rfl⟩:=List.mem_map.1 hp
   have hn:=Q8k.1 hn
   have hm:n.toNat∈Qvd F b:=List.mem_map.2 ⟨n,hn,rfl⟩
   exact ⟨Qnp hO hb _ hm,Nat.zero_le _,fun h=>.step h hm⟩
def nmN (F:GFun) (a k:Nat):Nat:=stN F.sn ((Qgd F (pbN F a) (piN F a)).getD k (0,0)).1+((Qgd F (pbN F a) (piN F a)).getD k (0,0)).2
theorem Q7x {F:GFun} (hO:F.Ok) {a k:Nat} (ha:a<stN F.sn F.bn) (hk:k<(Qgd F (pbN F a) (piN F a)).length):
 let p:=(Qgd F (pbN F a) (piN F a)).getD k (0,0)
 p.1<F.bn/\p.2<=F.sn p.1/\nmN F a k<stN F.sn F.bn/\pbN F (nmN F a k)=p.1/\piN F (nmN F a k)=p.2/\(Reach F (pbN F a)->Reach F p.1):=by
 have hm:(Qgd F (pbN F a) (piN F a)).getD k (0,0)∈Qgd F (pbN F a) (piN F a):=Qmr hk rfl
 have q:=Qat hO (Qoc ha).1 hm
 have e:=Q7l q.1 q.2.1
 exact ⟨q.1,q.2.1,Q9t q.1 q.2.1,e.1,e.2,q.2.2⟩
theorem Qdl {F:GFun} (hO:F.Ok):0<stN F.sn F.bn:=by
 have:=Qgo F.sn hO.bpos
 simp only[stN] at this;omega
inductive ReachG (sc:Nat->List Nat):Nat->Prop where
 | zero:ReachG sc 0
 | step {b n:Nat}:ReachG sc b->n∈sc b->ReachG sc n
def Q0g (F:GFun) (a:Nat):List Nat:=(Qgd F (pbN F a) (piN F a)).map fun p=>stN F.sn p.1+p.2
theorem Qgg (F:GFun) (a:Nat):(Q0g F a).length=(Qgd F (pbN F a) (piN F a)).length:=by simp[Q0g]
theorem Qau {F:GFun} {a k:Nat} (hk:k<(Qgd F (pbN F a) (piN F a)).length):(Q0g F a).getD k 0=nmN F a k:=by
 simp[Q0g,nmN,List.getD,List.getElem?_eq_getElem hk]
theorem Qgi {F:GFun} (hO:F.Ok) {a:Nat} (ha:a<stN F.sn F.bn):∀n∈Q0g F a,n<stN F.sn F.bn:=fun n hn=>by
 obtain ⟨p,hp,rfl⟩:=List.mem_map.1 hn
 have q:=Qat hO (Qoc ha).1 hp
 exact Q9t q.1 q.2.1
end Go.Proofs.YtemnfncbgalljaaGreat
