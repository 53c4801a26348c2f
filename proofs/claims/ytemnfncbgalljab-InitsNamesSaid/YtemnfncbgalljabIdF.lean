/- Lemmas. No condition. -/
import Derived.Test.YtemnfncbgalljabIdE
import Derived.Test.YtemnfncbgalljabGrI
namespace Go.Proofs.Ytemnfncbgalljab
open Go.RowKit
set_option linter.all false
set_option maxRecDepth 100000
set_option maxHeartbeats 64000000
namespace FlowG
def mid (G:FlowG) (x:FS) (k:Nat):FS:=((G.sc (x.2.2.getD 0 0)).take k).foldl (relax G (G.be (x.2.2.getD 0 0) (x.1 (x.2.2.getD 0 0)))) (x.1,x.2.1,x.2.2.tail)
theorem mid_zero (G:FlowG) (x:FS):mid G x 0=(x.1,x.2.1,x.2.2.tail):=by simp[mid]
theorem mid_succ {G:FlowG} {x:FS} {k:Nat} (hk:k<(G.sc (x.2.2.getD 0 0)).length):mid G x (k+1)=relax G (G.be (x.2.2.getD 0 0) (x.1 (x.2.2.getD 0 0))) (mid G x k) ((G.sc (x.2.2.getD 0 0)).getD k 0):=by
 unfold mid
 generalize x.2.2.getD 0 0=b at hk⊢
 rw[List.take_add_one,List.foldl_append]
 simp only[List.getElem?_eq_getElem hk,Option.toList_some,List.foldl_cons,List.foldl_nil,List.getD,Option.getD_some]
theorem mid_end (G:FlowG) (O:B9y) (V:B9z) (b:Nat) (T:List Nat):mid G (O,V,b::T) (G.sc b).length=(G.sc b).foldl (relax G (G.be b (O b))) (O,V,T):=by
 simp[mid]
theorem mid_size {G:FlowG} {x:FS} {b:Nat} {T:List Nat} (hx:x.2.2=b::T) (k:Nat) (hl:∀n∈G.sc b,n<G.N):left G (mid G x k).1 (mid G x k).2.1 G.N+(mid G x k).2.2.length<=left G x.1 x.2.1 G.N+T.length:=by
 obtain ⟨O,V,L⟩:=x
 simp only at hx
 subst hx
 have:=(relax_all G (G.be b (O b)) ((G.sc b).take k) (O,V,T)).m (fun n hn=>hl n (List.mem_of_mem_take hn))
 simpa [mid] using this
theorem inv_mid {G:FlowG} {x:FS} (h:Inv G x) (h0:0<x.2.2.length) (hl:∀b,b<G.N->∀n∈G.sc b,n<G.N):Inv G (mid G x (G.sc (x.2.2.getD 0 0)).length)/\left G (mid G x (G.sc (x.2.2.getD 0 0)).length).1 (mid G x (G.sc (x.2.2.getD 0 0)).length).2.1 G.N+(mid G x (G.sc (x.2.2.getD 0 0)).length).2.2.length<left G x.1 x.2.1 G.N+x.2.2.length:=by
 obtain ⟨O,V,L⟩:=x
 obtain ⟨b,T,rfl⟩:=Qbla rfl h0
 have hb:=(h.r b (h.t b List.mem_cons_self)).2
 have:=inv_step h (hl b hb)
 have e:(b::T).getD 0 0=b:=rfl
 simp only[e]
 rw[mid_end]
 exact this
end FlowG
theorem Qska {p:Prop} (h:p:=by (first|((try with_reducible refine Q8c ?_ ?_ ?_ ?_);all_goals (cbv;(try simp only[true_and,and_true]);(try ((repeat' apply And.intro)<;>(first|trivial|rfl|exact RowLe.rfl' _|decide|(rw[Qda har _ o9];done)|((exact f1 _))|((exact f2 k0 o9 o9))|((rw[Qda har _ (by have:=nl2 (tg y 0);have h9:k<nl (tg y 0):=y9;omega)]))|((exact r1 hQ y9))|((exact r2))|((exact r3))|((exact r4))|((exact r5 hk y9))|((exact r6 hk y9))|((exact r7 hk y9))|((exact r8 y9 y9 y9))|((exact r9 y9 y9 y9))|((exact r10 y9 y9 y9))|((exact r11 y9 (by first|exact .inl y9|exact .inr y9)))|((exact r12 y9 (by first|exact .inl y9|exact .inr y9)))|((exact r13 y9 (by first|exact .inl y9|exact .inr y9)))|fail))));done)|fail)):Pf p:=⟨h⟩
theorem Qbpa (F:GFun) (w:World) (hF:F.At w) (hO:F.Ok):
 Calls Try.prog 18 #[F.val] w (RetR w (Qwa F) (.tup [.one (.rs 0),.one (.int .i64 0)]) [⟨stN F.sn F.bn,1,fun j=>[.int .u32 (.ofNat (mk (Qdma F j) F.ln))]⟩]):=by
 have h1 wc (hk:KB ⟨w,[]⟩ wc):=hO.chk wc (hF.later hk)
 have h2 wc (hk:KB ⟨w,[]⟩ wc):=pointsN F wc (hF.later hk) hO
 have h30 wc (hk:KB ⟨w,[]⟩ wc) (a:Nat) (ha:a<stN F.sn F.bn) (S:B9z):=Qxha F wc (hF.later hk) hO (pbN F a) (piN F a) (Qoc ha).1 S
 have h50 wc (hk:KB ⟨w,[]⟩ wc) (a:Nat) (ha:a<stN F.sn F.bn):=Q12 F wc (hF.later hk) hO (pbN F a) (piN F a) (Qoc ha).1 (Qoc ha).2.1
 have h60 wc (hk:KB ⟨w,[]⟩ wc) (b i:Nat):=Qcy F wc (hF.later hk) hO b i
 have hN9:=hO.pts
 have hN0:=Qdl hO
 have hl16:=hO.ln16
 have hl0:=hO.lpos
 have hsu:∀a,a<stN F.sn F.bn->∀n∈Q0g F a,n<stN F.sn F.bn:=fun a ha=>Qgi hO ha
 have hpa:=Q4oa hO
 obtain ⟨G,hG⟩:=x9 (Qjka F)
 have gN:G.N=stN F.sn F.bn:=by rw[hG];rfl
 have gl:G.ln=F.ln:=by rw[hG];rfl
 have gs:G.sc=Q0g F:=by rw[hG];rfl
 have gi:∀l,G.i0 l=(decide (1<=l)&&decide (Int.ofNat l<=F.pa)):=fun l=>by rw[hG];rfl
 obtain ⟨N,hN⟩:=x9 (stN F.sn F.bn)
 obtain ⟨pb,hpb⟩:=x9 (pbN F:N9z)
 obtain ⟨pi,hpi⟩:=x9 (piN F:N9z)
 have hR:ptR (Qgb F.sn F.bn)=⟨N,2,fun j=>[.int .i64 (.ofNat (pb j)),.int .i64 (.ofNat (pi j))]⟩:=by rw[ptR,Q6b,hN,hpb,hpi];rfl
 rw[hR] at h2
 obtain ⟨nl,hnl⟩:=x9 (fun a=>(Qgd F (pbN F a) (piN F a)).length:N9z)
 obtain ⟨q1,hq1⟩:=x9 (fun a k=>((Qgd F (pbN F a) (piN F a)).getD k (0,0)).1:Nat->Nat->Nat)
 obtain ⟨q2,hq2⟩:=x9 (fun a k=>((Qgd F (pbN F a) (piN F a)).getD k (0,0)).2:Nat->Nat->Nat)
 obtain ⟨nm,hnm⟩:=x9 (nmN F:Nat->Nat->Nat)
 obtain ⟨mO,hmO⟩:=x9 (fun x j=>mk (x.1 j) F.ln:FlowG.FS->Nat->Nat)
 obtain ⟨vv,hvv⟩:=x9 (fun x=>x.2.1:FlowG.FS->Nat->Bool)
 obtain ⟨tl,htl⟩:=x9 (fun x=>x.2.2.length:FlowG.FS->Nat)
 obtain ⟨tg,htg⟩:=x9 (fun x j=>x.2.2.getD j 0:FlowG.FS->Nat->Nat)
 obtain ⟨Y,hY⟩:=x9 (FlowG.mid G:FlowG.FS->Nat->FlowG.FS)
 obtain ⟨Q,hQ⟩:=x9 (FlowG.Inv G:FlowG.FS->Prop)
 obtain ⟨me,hme⟩:=x9 (fun x=>FlowG.left G x.1 x.2.1 G.N+x.2.2.length:FlowG.FS->Nat)
 obtain ⟨mM,hmM⟩:=x9 (fun x=>mk (G.be (x.2.2.getD 0 0) (x.1 (x.2.2.getD 0 0))) F.ln:FlowG.FS->Nat)
 obtain ⟨x0,hx0⟩:=x9 (FlowG.fst G)
 obtain ⟨rm,hrm⟩:=x9 (fun j=>mk (Qdma F j) F.ln:N9z)
 obtain ⟨al,hal⟩:=x9 (2 ^ F.ln - 1)
 obtain ⟨nn,hnn⟩:=x9 (fun n=>if n=0 then 0 else Int.ofNat (2 ^ F.ln - 1):I9z)
 have h3 wc (hk:KB ⟨w,[]⟩ wc) (x:FlowG.FS) (ha:tg x 0<N):Calls Try.prog 37 #[F.val,.agg #[.int .i64 (.ofNat (pb (tg x 0))),.int .i64 (.ofNat (pi (tg x 0)))],.int .u32 (.ofNat (mO x (tg x 0)))] wc (Ret wc (.tuple #[.int .u32 (.ofNat (mM x)),.int .i64 (Qcma (ptD F (pbN F (tg x 0)) (piN F (tg x 0))) (x.1 (tg x 0)))])):=by
  have:=h30 wc hk (tg x 0) (hN▸ha) (x.1 (tg x 0))
  rw[behF,<-hG] at this
  rw[hpb,hpi,hmO,hmM]
  rw[htg] at this⊢
  exact this
 obtain ⟨bz,hbz⟩:=x9 (fun x=>Qcma (ptD F (pbN F (tg x 0)) (piN F (tg x 0))) (x.1 (tg x 0)):FlowG.FS->Int)
 have h3 wc (hk:KB ⟨w,[]⟩ wc) (x:FlowG.FS) (ha:tg x 0<N):Calls Try.prog 37 #[F.val,.agg #[.int .i64 (.ofNat (pb (tg x 0))),.int .i64 (.ofNat (pi (tg x 0)))],.int .u32 (.ofNat (mO x (tg x 0)))] wc (Ret wc (.tuple #[.int .u32 (.ofNat (mM x)),.int .i64 (bz x)])):=by
  rw[hbz];exact h3 wc hk x ha
 have h5 wc (hk:KB ⟨w,[]⟩ wc) (a:Nat) (ha:a<N):Calls Try.prog 28 #[F.val,.agg #[.int .i64 (.ofNat (pb a)),.int .i64 (.ofNat (pi a))]] wc (RetR wc (Qwa F) (.tup [.one (.rs 0),.one (.int .i64 0)]) [⟨nl a,2,fun j=>[.int .i64 (.ofNat (q1 a j)),.int .i64 (.ofNat (q2 a j))]⟩]):=by
  rw[hpb,hpi,hnl,hq1,hq2];exact h50 wc hk a (hN▸ha)
 have h6 wc (hk:KB ⟨w,[]⟩ wc) (a k:Nat) (ha:a<N) (hk2:k<nl a):Calls Try.prog 9 #[F.val,.agg #[.int .i64 (.ofNat (q1 a k)),.int .i64 (.ofNat (q2 a k))]] wc (Ret wc (.tuple #[.int .i64 (.ofNat (nm a k)),.int .i64 0])):=by
  rw[hnl] at hk2
  have q:=Q7x hO (hN▸ha) hk2
  rw[hq1,hq2,hnm];exact h60 wc hk _ _ q.1 q.2.1
 have hsl:∀a,(G.sc a).length=nl a:=fun a=>by rw[gs,hnl];exact Qgg F a
 have hnm2:∀a k,k<nl a->(G.sc a).getD k 0=nm a k:=fun a k hk=>by rw[hnl] at hk;rw[gs,hnm];exact Qau hk
 have hsu:∀b,b<G.N->∀n∈G.sc b,n<G.N:=fun b hb=>by rw[gN] at hb⊢;rw[gs];exact hsu b hb
 have hnl2:∀a,nl a<=2:=fun a=>by rw[hnl];exact Q4h
 have g1:∀{a k},a<N->k<nl a->nm a k<N:=fun {a k} ha hk=>by
  have hk':=hk
  rw[<-hsl] at hk'
  rw[<-hnm2 a k hk,hN,<-gN]
  rw[hN,<-gN] at ha
  refine hsu a ha _ ?_
  simp only[List.getD,List.getElem?_eq_getElem hk',Option.getD_some]
  exact List.getElem_mem hk'
 have qh:∀{x},Q x->0<tl x->tg x 0<N:=fun {x} h h0=>by
  rw[hQ] at h;rw[htl] at h0
  obtain ⟨O,V,L⟩:=x
  obtain ⟨b,T,rfl⟩:=Qbla rfl h0
  rw[htg,hN,<-gN];exact (h.r b (h.t b List.mem_cons_self)).2
 have q0:Q x0:=by rw[hQ,hx0];exact FlowG.inv_first (by rw[gN];exact hN0)
 have qs:∀{x},Q x->0<tl x->Q (Y x (nl (tg x 0)))/\me (Y x (nl (tg x 0)))<me x:=fun {x} h h0=>by
  rw[hQ] at h;rw[htl] at h0
  have:=FlowG.inv_mid h h0 hsu
  rw[hQ,hY,hme,htg,<-hsl]
  exact this
 have ql:∀{x},Q x->0<tl x->∀k,tl (Y x k)<=10300:=fun {x} h h0 k=>by
  rw[hQ] at h;rw[htl] at h0
  obtain ⟨O,V,L⟩:=x
  obtain ⟨b,T,rfl⟩:=Qbla rfl h0
  have hs:=FlowG.mid_size (G:=G) (x:=(O,V,b::T)) (b:=b) (T:=T) rfl k (hsu b (h.r b (h.t b List.mem_cons_self)).2)
  have hm:=h.m
  have e:G.N * (G.ln+1)<=600 * 17:=Nat.mul_le_mul (by rw[gN];exact hN9) (by rw[gl];omega)
  rw[htl,hY]
  simp only[List.length_cons] at hm hs⊢
  omega
 have qe:∀{x},Q x->tl x=0->∀j,j<N->mO x j=rm j:=fun {x} h h0 j hj=>by
  rw[hQ] at h;rw[htl] at h0
  obtain ⟨O,V,L⟩:=x
  obtain rfl:L=[]:=List.eq_nil_of_length_eq_zero h0
  rw[hmO,hrm]
  refine Q9s fun l hl=>?_
  rw[hN,<-gN] at hj
  rw[<-gl] at hl
  show O j l=Qdma F j l
  rw[FlowG.inv_end h hj hl,hG];rfl
 have y0:∀{x},mO (Y x 0)=mO x/\vv (Y x 0)=vv x/\tl (Y x 0)=tl x - 1/\∀j,tg (Y x 0) j=tg x (j+1):=fun {x}=>by
  rw[hY,hmO,hvv,htl,htg,FlowG.mid_zero]
  exact ⟨rfl,rfl,List.length_tail,fun j=>Q0ka _ j⟩
 have yl:∀{x k} (n:Nat),mk (fun l=>(Y x k).1 n l&&G.be (x.2.2.getD 0 0) (x.1 (x.2.2.getD 0 0)) l) F.ln=mO (Y x k) n↔FlowG.sameB G (Y x k).1 (G.be (x.2.2.getD 0 0) (x.1 (x.2.2.getD 0 0))) n=true:=fun {x k} n=>by
  rw[hmO]
  constructor
  · intro h
    exact Qla.2 fun l hl=>decide_eq_true (Q97 h (by rw[gl] at hl;exact hl))
  · intro h
    exact Q9s fun l hl=>of_decide_eq_true (Qla.1 h l (by rw[gl];exact hl))
 obtain ⟨lm,hlm⟩:=x9 (fun x k n=>mk (fun l=>(Y x k).1 n l&&G.be (x.2.2.getD 0 0) (x.1 (x.2.2.getD 0 0)) l) F.ln:FlowG.FS->Nat->Nat->Nat)
 have yl:∀{x k} (n:Nat),lm x k n=mO (Y x k) n↔FlowG.sameB G (Y x k).1 (G.be (x.2.2.getD 0 0) (x.1 (x.2.2.getD 0 0))) n=true:=fun {x k} n=>by rw[hlm];exact yl n
 have yn:∀{x k},k<nl (tg x 0)->Y x (k+1)=FlowG.relax G (G.be (x.2.2.getD 0 0) (x.1 (x.2.2.getD 0 0))) (Y x k) (nm (tg x 0) k):=fun {x k} hk=>by
  rw[<-hnm2 _ _ hk]
  rw[<-hsl] at hk
  rw[hY];rw[htg] at hk⊢
  exact FlowG.mid_succ hk
 have yt:∀{x k},k<nl (tg x 0)->lm x k (nm (tg x 0) k)=mO (Y x k) (nm (tg x 0) k)->vv (Y x k) (nm (tg x 0) k)=true->Y x (k+1)=Y x k:=fun {x k} hk h1 h2=>by
  rw[yn hk]
  rw[hvv] at h2
  have h2:(Y x k).2.1 (nm (tg x 0) k)=true:=h2
  unfold FlowG.relax
  rw[if_pos (by rw[(yl _).1 h1,h2];rfl)]
 have yf:∀{x k},k<nl (tg x 0)->¬(lm x k (nm (tg x 0) k)=mO (Y x k) (nm (tg x 0) k)/\vv (Y x k) (nm (tg x 0) k)=true)->(∀j,mO (Y x (k+1)) j=if j=nm (tg x 0) k then lm x k (nm (tg x 0) k) else mO (Y x k) j)/\(∀j,vv (Y x (k+1)) j=if j=nm (tg x 0) k then true else vv (Y x k) j)/\tl (Y x (k+1))=tl (Y x k)+1/\(∀j,j<tl (Y x k)->tg (Y x (k+1)) j=tg (Y x k) j)/\tg (Y x (k+1)) (tl (Y x k))=nm (tg x 0) k:=fun {x k} hk h=>by
  have e:Y x (k+1)=(fun j l=>if j=nm (tg x 0) k then (Y x k).1 (nm (tg x 0) k) l&&G.be (x.2.2.getD 0 0) (x.1 (x.2.2.getD 0 0)) l else (Y x k).1 j l,fun j=>if j=nm (tg x 0) k then true else (Y x k).2.1 j,(Y x k).2.2++[nm (tg x 0) k]):=by
   rw[yn hk]
   unfold FlowG.relax
   rw[if_neg (fun g=>h ?_)]
   simp only[Bool.and_eq_true] at g
   exact ⟨(yl _).2 g.1,by rw[hvv];exact g.2⟩
  rw[e]
  refine ⟨fun j=>?_,fun j=>?_,?_,fun j hj=>?_,?_⟩
  · rw[hmO,hlm]
    simp only
    by_cases g:j=nm (tg x 0) k
    · simp only[if_pos g]
    · simp only[if_neg g]
  · rw[hvv]
  · rw[htl];simp
  · rw[htl] at hj;rw[htg];simp only[List.getD,List.getElem?_append_left hj]
  · rw[htl,htg];simp[List.getD]
 have i1:∀j,mO x0 j=if j=0 then mk G.i0 F.ln else al:=fun j=>by
  rw[hmO,hx0,hal,Qhoa]
  simp only[FlowG.fst]
  by_cases g:j=0
  · simp only[if_pos g]
  · simp only[if_neg g]
 have i2:∀j,vv x0 j=decide (j=0):=fun j=>by rw[hvv,hx0];rfl
 have i3:tl x0=1/\tg x0 0=0:=by rw[htl,htg,hx0];exact ⟨rfl,rfl⟩
 have hRM:(fun j=>[SC.int .u32 (.ofNat (mk (Qdma F j) F.ln))])=fun j=>[SC.int .u32 (.ofNat (rm j))]:=by rw[hrm]
 rw[hRM,<-hN]
 rw[<-hN] at hN9 hN0
 have hi0:mk G.i0 F.ln=2 ^ (F.pa.toNat+1) - 2:=by
  refine Nat.eq_of_testBit_eq fun l=>?_
  have e:2 ^ (F.pa.toNat+1) - 2=2 * (2 ^ F.pa.toNat - 1):=by rw[Nat.pow_succ];omega
  rw[Qze,gi,e]
  cases l with
  | zero=>simp[Nat.testBit_zero]
  | succ l=>
    rw[Nat.testBit_succ,Nat.mul_div_cancel_left _ (by decide:0<2),Nat.testBit_two_pow_sub_one]
    rw[Bool.eq_iff_iff]
    simp only[Bool.and_eq_true,decide_eq_true_eq,Int.ofNat_eq_natCast]
    omega
 have hlm2:∀{ar:A9z} (har:ar=rAr) x k n,ar .and .u32 (.ofNat (mO (Y x k) n)) (.ofNat (mM x))=.ofNat (lm x k n):=fun {ar} har x k n=>by
  rw[hmO,hmM,hlm];exact Qgna har o9 _ _
 clear yl yn hmO hmM hlm hvv htl htg hQ hY hme hx0 hrm hbz hnn hsu hsl hnm2 hnm hnl hq1 hq2 hpb hpi hR hN gi gs gN hG h30 h50 h60 hRM hO
 have hpa2:0<=F.pa/\F.pa.toNat<=15:=by omega
 rw[hi0] at i1
 clear hi0 gl
 obtain ⟨pa,_,_,ln,_,_,_,_,_,_,_,_,sc,_,_,_,_,_,_,_,_,_,_,_⟩:=F
 obtain ⟨hX,hl,hb,hs,hj⟩:=hF
 simp only at hl hb hs hj
 simp only at h1 h2 h3 h5 h6 hl16 hl0 hpa2 hal i1
 refine Qaa (args:=[.pt (.agg (GFun.dat _))]) (c:=(Qwa _)) Try.func18 rfl hX rfl rfl ?_
 obtain ⟨_,_,_,hnt,ar,har,cm,hcm,_,_,_,_,ar01,ar12,zpl,hzpl,zjn,hzjn,zup,hzup,zmi,hzmi,zdp,hzdp,hT⟩:=Qca
 have hal1:ar .sub .u32 (ar .shl .u32 1 (.ofNat ln)) 1=.ofNat al:=by
  rw[Qyz har o9,hal]
  exact Qsma har (a:=2 ^ ln) (b:=1) Nat.one_le_two_pow (Nat.pow_lt_pow_right (by decide) o9)
 have hpa1:ar .shl .u32 (ar .sub .u32 (ar .shl .u32 1 pa) 1) 1=.ofNat (2 ^ (pa.toNat+1) - 2):=by
  have e:pa=.ofNat pa.toNat:=by simp only[Int.ofNat_eq_natCast];omega
  have e1:=Qyz har (b:=pa.toNat) o9
  rw[<-e] at e1
  have e2:=Qsma har (a:=2 ^ pa.toNat) (b:=1) Nat.one_le_two_pow (Nat.pow_lt_pow_right (by decide) o9)
  have hle:=Nat.pow_le_pow_right (n:=2) (by decide) hpa2.2
  have e3:=Q8ma har (a:=2 ^ pa.toNat - 1) (b:=1) (by decide) o9
  rw[e1]
  refine (congrArg (fun z=>ar .shl .u32 z 1) e2).trans (e3.trans ?_)
  rw[Nat.pow_succ]
  exact congrArg Int.ofNat o9
 obtain ⟨fl,hfl⟩:=x9 (fun k j=>if j<k then Int.ofNat al else 0:Nat->Nat->Int)
 have f0:RowLe ⟨N,1,fun x=>[SC.int .u32 0]⟩ ⟨N,1,fun j=>[SC.int .u32 (fl 0 j)]⟩:=Q0a rfl fun j hj=>⟨⟨rfl,by rw[hfl];simp⟩,trivial⟩
 have f1:∀k,RowLe ⟨N,1,zup (fun j=>[SC.int .u32 (fl k j)]) k 0 [SC.int .u32 (.ofNat al)]⟩ ⟨N,1,fun j=>[SC.int .u32 (fl (k+1) j)]⟩:=fun k=>by
  refine Qad hzup rfl (fun j hj h=>⟨⟨rfl,?_⟩,trivial⟩) (fun _=>⟨⟨rfl,?_⟩,trivial⟩)
  · rw[hfl];simp only
    by_cases g:j<k
    · rw[if_pos g,if_pos o9]
    · rw[if_neg g,if_neg o9]
  · rw[hfl];simp only;rw[if_pos o9]
 have f2:∀k,N<=k->k<=N->RowLe ⟨N,1,zup (fun j=>[SC.int .u32 (fl k j)]) 0 0 [SC.int .u32 (.ofNat (2 ^ (pa.toNat+1) - 2))]⟩ ⟨N,1,fun j=>[SC.int .u32 (.ofNat (mO x0 j))]⟩:=fun k hk _=>by
  refine Qad hzup rfl (fun j hj h=>⟨⟨rfl,?_⟩,trivial⟩) (fun _=>⟨⟨rfl,?_⟩,trivial⟩)
  · rw[hfl,i1];simp only;rw[if_pos o9,if_neg h]
  · rw[i1];simp only[if_true]
 have f3:RowLe ⟨N,1,zup (fun x=>[SC.lit false]) 0 0 [SC.lit true]⟩ ⟨N,1,fun j=>[SC.bool (vv x0 j)]⟩:=by
  refine Qad hzup rfl (fun j hj h=>⟨?_,trivial⟩) (fun _=>⟨?_,trivial⟩)
  · rw[i2,decide_eq_false h];show false=false;rfl
  · rw[i2];exact rfl
 have f4:RowLe ⟨1,1,fun j=>Qte [SC.int IntKind.i64 0] (j * 1) 1⟩ ⟨tl x0,1,fun j=>[SC.int IntKind.i64 (Int.ofNat (tg x0 j))]⟩:=by
  refine Q0a i3.1.symm (fun j hj=>?_)
  have hj2:j=0:=by omega
  subst hj2
  rw[i3.2]
  exact ⟨⟨rfl,rfl⟩,trivial⟩
 have hpos:∀{x},cm .gtr (.ofNat (tl x)) 0=true->0<tl x:=fun {x} h=>by
  rw[hcm] at h;exact Int.ofNat_lt.1 (of_decide_eq_true h)
 have hzer:∀{x},cm .gtr (.ofNat (tl x)) 0=false->tl x=0:=fun {x} h=>by
  rw[hcm] at h
  have h2:¬(0<tl x):=fun g=>of_decide_eq_false h (Int.ofNat_lt.2 g)
  omega
 have r1:∀{x},Q x->cm .gtr (.ofNat (tl x)) 0=false->RowLe ⟨N,1,fun j=>[SC.int .u32 (.ofNat (mO x j))]⟩ ⟨N,1,fun j=>[SC.int .u32 (.ofNat (rm j))]⟩:=fun {x} h hz=>Q0a rfl fun j hj=>⟨⟨rfl,by rw[qe h (hzer hz) j hj]⟩,trivial⟩
 have r2:∀{x},RowLe ⟨N,1,fun j=>[SC.int .u32 (.ofNat (mO x j))]⟩ ⟨N,1,fun j=>[SC.int .u32 (.ofNat (mO (Y x 0) j))]⟩:=fun {x}=>Q0a rfl fun j hj=>⟨⟨rfl,by rw[y0.1]⟩,trivial⟩
 have r3:∀{x},RowLe ⟨N,1,fun j=>[SC.bool (vv x j)]⟩ ⟨N,1,fun j=>[SC.bool (vv (Y x 0) j)]⟩:=fun {x}=>Q0a rfl fun j hj=>⟨by rw[y0.2.1];exact rfl,trivial⟩
 have r4:∀{x},RowLe ⟨zmi (tl x) 1,1,zdp 1 (fun j=>[SC.int .i64 (.ofNat (tg x j))])⟩ ⟨tl (Y x 0),1,fun j=>[SC.int .i64 (.ofNat (tg (Y x 0) j))]⟩:=fun {x}=>
  Qx1 hzmi hzdp y0.2.2.1 (fun j hj=>by rw[y0.2.2.2];exact ⟨⟨rfl,rfl⟩,trivial⟩)
 have e1:∀{x k},k<=nl (tg x 0)->nl (tg x 0)<=k->Y x k=Y x (nl (tg x 0)):=fun {x k} h1 h2=>by rw[Nat.le_antisymm h1 h2]
 have r5:∀{x k},k<=nl (tg x 0)->nl (tg x 0)<=k->RowLe ⟨N,1,fun j=>[SC.int .u32 (.ofNat (mO (Y x k) j))]⟩ ⟨N,1,fun j=>[SC.int .u32 (.ofNat (mO (Y x (nl (tg x 0))) j))]⟩:=fun {x k} h1 h2=>by rw[e1 h1 h2];exact RowLe.rfl' _
 have r6:∀{x k},k<=nl (tg x 0)->nl (tg x 0)<=k->RowLe ⟨N,1,fun j=>[SC.bool (vv (Y x k) j)]⟩ ⟨N,1,fun j=>[SC.bool (vv (Y x (nl (tg x 0))) j)]⟩:=fun {x k} h1 h2=>by rw[e1 h1 h2];exact RowLe.rfl' _
 have r7:∀{x k},k<=nl (tg x 0)->nl (tg x 0)<=k->RowLe ⟨tl (Y x k),1,fun j=>[SC.int .i64 (.ofNat (tg (Y x k) j))]⟩ ⟨tl (Y x (nl (tg x 0))),1,fun j=>[SC.int .i64 (.ofNat (tg (Y x (nl (tg x 0))) j))]⟩:=fun {x k} h1 h2=>by rw[e1 h1 h2];exact RowLe.rfl' _
 have c1:∀{x k n},decide (ar .and .u32 (.ofNat (mO (Y x k) n)) (.ofNat (mM x))=Int.ofNat (mO (Y x k) n))=true->lm x k n=mO (Y x k) n:=fun {x k n} h=>by
  rw[hlm2 har] at h;exact Int.ofNat.inj (of_decide_eq_true h)
 have c2:∀{x k n},decide (ar .and .u32 (.ofNat (mO (Y x k) n)) (.ofNat (mM x))=Int.ofNat (mO (Y x k) n))=false->¬lm x k n=mO (Y x k) n:=fun {x k n} h g=>by
  rw[hlm2 har] at h;exact of_decide_eq_false h (congrArg Int.ofNat g)
 have e2:∀{x k},k<nl (tg x 0)->decide (ar .and .u32 (.ofNat (mO (Y x k) (nm (tg x 0) k))) (.ofNat (mM x))=Int.ofNat (mO (Y x k) (nm (tg x 0) k)))=true->vv (Y x k) (nm (tg x 0) k)=true->Y x k=Y x (k+1):=fun {x k} h g1 g2=>(yt h (c1 g1) g2).symm
 have e3:∀{x k},decide (ar .and .u32 (.ofNat (mO (Y x k) (nm (tg x 0) k))) (.ofNat (mM x))=Int.ofNat (mO (Y x k) (nm (tg x 0) k)))=false\/vv (Y x k) (nm (tg x 0) k)=false->¬(lm x k (nm (tg x 0) k)=mO (Y x k) (nm (tg x 0) k)/\vv (Y x k) (nm (tg x 0) k)=true):=fun {x k} h g=>by
  rcases h with h|h
  · exact c2 h g.1
  · rw[g.2] at h;cases h
 have r8:∀{x k},k<nl (tg x 0)->decide (ar .and .u32 (.ofNat (mO (Y x k) (nm (tg x 0) k))) (.ofNat (mM x))=Int.ofNat (mO (Y x k) (nm (tg x 0) k)))=true->vv (Y x k) (nm (tg x 0) k)=true->RowLe ⟨N,1,fun j=>[SC.int .u32 (.ofNat (mO (Y x k) j))]⟩ ⟨N,1,fun j=>[SC.int .u32 (.ofNat (mO (Y x (k+1)) j))]⟩:=fun {x k} h g1 g2=>by rw[e2 h g1 g2];exact RowLe.rfl' _
 have r9:∀{x k},k<nl (tg x 0)->decide (ar .and .u32 (.ofNat (mO (Y x k) (nm (tg x 0) k))) (.ofNat (mM x))=Int.ofNat (mO (Y x k) (nm (tg x 0) k)))=true->vv (Y x k) (nm (tg x 0) k)=true->RowLe ⟨N,1,fun j=>[SC.bool (vv (Y x k) j)]⟩ ⟨N,1,fun j=>[SC.bool (vv (Y x (k+1)) j)]⟩:=fun {x k} h g1 g2=>by rw[e2 h g1 g2];exact RowLe.rfl' _
 have r10:∀{x k},k<nl (tg x 0)->decide (ar .and .u32 (.ofNat (mO (Y x k) (nm (tg x 0) k))) (.ofNat (mM x))=Int.ofNat (mO (Y x k) (nm (tg x 0) k)))=true->vv (Y x k) (nm (tg x 0) k)=true->RowLe ⟨tl (Y x k),1,fun j=>[SC.int .i64 (.ofNat (tg (Y x k) j))]⟩ ⟨tl (Y x (k+1)),1,fun j=>[SC.int .i64 (.ofNat (tg (Y x (k+1)) j))]⟩:=fun {x k} h g1 g2=>by rw[e2 h g1 g2];exact RowLe.rfl' _
 have r11:∀{x k},k<nl (tg x 0)->decide (ar .and .u32 (.ofNat (mO (Y x k) (nm (tg x 0) k))) (.ofNat (mM x))=Int.ofNat (mO (Y x k) (nm (tg x 0) k)))=false\/vv (Y x k) (nm (tg x 0) k)=false->RowLe ⟨N,1,zup (fun j=>[SC.int .u32 (.ofNat (mO (Y x k) j))]) (nm (tg x 0) k) 0 [SC.int .u32 (ar .and .u32 (.ofNat (mO (Y x k) (nm (tg x 0) k))) (.ofNat (mM x)))]⟩ ⟨N,1,fun j=>[SC.int .u32 (.ofNat (mO (Y x (k+1)) j))]⟩:=fun {x k} h g=>by
  have q:=yf h (e3 g)
  refine Qad hzup rfl (fun j hj h=>⟨⟨rfl,?_⟩,trivial⟩) (fun _=>⟨⟨rfl,?_⟩,trivial⟩)
  · rw[q.1,if_neg h]
  · rw[q.1,if_pos rfl,hlm2 har]
 have r12:∀{x k},k<nl (tg x 0)->decide (ar .and .u32 (.ofNat (mO (Y x k) (nm (tg x 0) k))) (.ofNat (mM x))=Int.ofNat (mO (Y x k) (nm (tg x 0) k)))=false\/vv (Y x k) (nm (tg x 0) k)=false->RowLe ⟨N,1,zup (fun j=>[SC.bool (vv (Y x k) j)]) (nm (tg x 0) k) 0 [SC.lit true]⟩ ⟨N,1,fun j=>[SC.bool (vv (Y x (k+1)) j)]⟩:=fun {x k} h g=>by
  have q:=yf h (e3 g)
  refine Qad hzup rfl (fun j hj h=>⟨?_,trivial⟩) (fun _=>⟨?_,trivial⟩)
  · rw[q.2.1,if_neg h];exact rfl
  · rw[q.2.1,if_pos rfl];show true=true;rfl
 have r13:∀{x k},k<nl (tg x 0)->decide (ar .and .u32 (.ofNat (mO (Y x k) (nm (tg x 0) k))) (.ofNat (mM x))=Int.ofNat (mO (Y x k) (nm (tg x 0) k)))=false\/vv (Y x k) (nm (tg x 0) k)=false->RowLe ⟨zpl (tl (Y x k)) 1,1,zjn (tl (Y x k)) (fun j=>[SC.int .i64 (.ofNat (tg (Y x k) j))]) (fun j=>Qte [SC.int .i64 (.ofNat (nm (tg x 0) k))] (0+j * 1) 1)⟩ ⟨tl (Y x (k+1)),1,fun j=>[SC.int .i64 (.ofNat (tg (Y x (k+1)) j))]⟩:=fun {x k} h g=>by
  have q:=yf h (e3 g)
  refine Q7a hzpl hzjn q.2.2.1 (fun j hj=>⟨⟨rfl,?_⟩,trivial⟩) ⟨⟨rfl,?_⟩,trivial⟩
  · rw[q.2.2.2.1 j hj]
  · rw[q.2.2.2.2]
 have nl2:∀a,nl a<=2:=hnl2
 clear c1 c2 e1 e2 e3 hfl hlm2 i1 i2 i3 yt yf y0 qe
 repeat' (first
  | refine goa ?_|refine go3 (fun hlt=>?_) (fun hge=>?_)|refine go2 (fun h=>?_) (fun h=>?_)|exact go0
  | ((with_reducible apply Qqs [28]);(·rfl);(·rfl);(·kernel_rfl);(·kernel_rfl))
  | refine Qz9 ?_|refine gof ?_|refine Qvha ?_ ?_
  | exact gor (ha:=Qska) (hb:=Qska)
  | refine gob ?_
  | ((with_reducible refine Q4c ?_ ?_);(·first|((exact ⟨Int.natCast_nonneg N,(show (N:Int)<=1073741824 by omega)⟩))|((exact hpos y9))|((rw[hzpl];exact Nat.le_trans (Nat.add_le_add_right (ql hQ (hpos y9) k) 1) (Nat.le_of_ble_eq_true rfl)))))
  | (refine' Qiha Try.call35 ?_ ?_;rotate_left;(·intro wc hbc hxc;exact h1 wc hbc))
  | ((with_reducible apply Qoa (hf:=Try.call26));(·intro S;cbv;try rfl);(·intro wc S hbc hxc hrc;exact h2 wc hbc);(·rfl))
  | ((rw[hal1]))
  | ((rw[hpa1]))
  | (refine' Qiha Try.call37 ?_ ?_;rotate_left;(·intro wc hbc hxc;exact h3 wc hbc y (qh hQ (hpos y9))))
  | ((with_reducible apply Qoa (hf:=Try.call28));(·intro S;cbv;try rfl);(·intro wc S hbc hxc hrc;exact h5 wc hbc _ (qh hQ (hpos y9)));(·rfl))
  | (refine' Qiha Try.call9 ?_ ?_;rotate_left;(·intro wc hbc hxc;exact h6 wc hbc _ k (qh hQ (hpos y9)) y9))
  | ((with_reducible apply Qud 10 1);(·(cbv;try rfl)))
  | ((with_reducible refine Qgha (σ:={k:Nat // k<=N}) (zs9 [9,1,46,7]) (fun x=>[zc9 45 x.1]) (fun x=>[]) (fun x=>[(1,⟨N,1,fun j=>[.int .u32 (fl x.1 j)]⟩)]) (fun x=>N - x.1) ⟨0,by omega⟩ ?_ ?_);(·exact pfp Qska);(rintro ⟨k0,hk0⟩ mm hmm))
  | ((with_reducible refine Qgha (σ:={x:FlowG.FS // Q x}) (zs9 [2,2,12,5,18,4,66,79]) (fun x=>[]) (fun x=>[]) (fun x=>[(1,⟨N,1,fun j=>[.int .u32 (.ofNat (mO x.1 j))]⟩),(2,⟨N,1,fun j=>[.bool (vv x.1 j)]⟩),(3,⟨tl x.1,1,fun j=>[.int .i64 (.ofNat (tg x.1 j))]⟩)]) (fun x=>me x.1) ⟨x0,q0⟩ ?_ ?_);(·exact pfp Qska);(rintro ⟨y,hQ⟩ mm hmm))
  | ((with_reducible refine Qgha (σ:={k:Nat // k<=nl (tg y 0)}) (zs9 [2,2,18,4,73,1,102,43]) (fun x=>[zc9 101 x.1]) (fun x=>[]) (fun x=>[(1,⟨N,1,fun j=>[.int .u32 (.ofNat (mO (Y y x.1) j))]⟩),(2,⟨N,1,fun j=>[.bool (vv (Y y x.1) j)]⟩),(3,⟨tl (Y y x.1),1,fun j=>[.int .i64 (.ofNat (tg (Y y x.1) j))]⟩)]) (fun x=>nl (tg y 0) - x.1) ⟨0,by omega⟩ ?_ ?_);(·exact pfp Qska);(rintro ⟨k,hk⟩ mm hmm))
  | (((with_reducible apply Qxa);(·exact Int.le_refl 0);(·first|exact Int.natCast_pos.2 (hpos y9)|exact Int.natCast_pos.2 hN0)))
  | (((with_reducible apply Qxa);(·exact Int.natCast_nonneg _);(·exact Int.ofNat_lt.2 (qh hQ (hpos y9)))))
  | (((with_reducible apply Qxa);(·exact Int.natCast_nonneg _);(·exact Int.ofNat_lt.2 (g1 (qh hQ (hpos y9)) y9))))
  | (((with_reducible apply Qxa);(·exact hpa2.1);(·exact (show pa<((pa.toNat+1:Nat):Int) by omega))))
  | (((with_reducible apply Qxa);(·exact Int.natCast_nonneg _);(·exact Int.ofNat_lt.2 y9)))
  | ((with_reducible refine Qfha (⟨k0+1,by omega⟩:{k:Nat // k<=N}) ?_ ?_);(·exact msr o9 y9);(·exact pfp Qska))
  | ((with_reducible refine Qfha (⟨k+1,Nat.succ_le_of_lt y9⟩:{k:Nat // k<=nl (tg y 0)}) ?_ ?_);(·subst hmm;(have hlt2:k<nl (tg y 0):=y9;show nl (tg y 0) - (k+1)<nl (tg y 0) - k;omega));(·exact pfp Qska))
  | ((with_reducible refine Qfha (⟨Y y (nl (tg y 0)),(qs hQ (hpos y9)).1⟩:{x:FlowG.FS // Q x}) ?_ ?_);(·(exact Nat.lt_of_lt_of_eq (qs hQ (hpos y9)).2 (Eq.symm y9)));(·exact pfp Qska))
  | fail)
end Go.Proofs.Ytemnfncbgalljab
