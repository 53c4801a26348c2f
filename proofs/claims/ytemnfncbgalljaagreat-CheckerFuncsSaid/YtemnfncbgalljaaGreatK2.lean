/- Lemmas. No condition. -/
import Derived.Test.YtemnfncbgalljaaGreatK1
namespace Go.Proofs.YtemnfncbgalljaaGreat
open Go.RowKit
set_option linter.all false
set_option maxHeartbeats 64000000
section
set_option maxRecDepth 100000
def tabM:List (Nat×Ty):=(304,.arr 2 1 false [.lit false,.lit false])::tabL
theorem Qqga:tabM.all (fun p=>tyB Tryz.prog p.1 p.2)=true:=by kernel_rfl
theorem Qwfa:tabM.all (Ql7 Tryz.prog)=true:=by kernel_rfl
theorem Qwga {nd:Bool->Bool->Bool} {nt:Bool->Bool} {ar:A9z} {cm:BinOp->Int->Int->Bool} {mx mn:Int->Int->Int} {pl:Nat->Nat->Nat} {jn:Nat->(Nat->List SC)->(Nat->List SC)->Nat->List SC} {up:(Nat->List SC)->Nat->Nat->List SC->Nat->List SC} {mi:Nat->Nat->Nat} {dp:Nat->(Nat->List SC)->Nat->List SC} (h1:nd=and) (h2:nt=not) (h3:ar=rAr) (h4:cm=rCm) (h5:mx=rMx) (h6:mn=rMn) (h7:pl=fun x y=>x+y) (h8:jn=rJn) (h9:up=rUp) (h10:mi=fun x y=>x - y) (h11:dp=rDp):
 TOk Tryz.prog ⟨Q0x tabM,nd,nt,ar,cm,mx,mn,pl,jn,up,mi,dp⟩:=
 ⟨fun t y h=>List.all_eq_true.1 Qqga (t,y) (Q7k h),fun t s z l h=>by
  have:=List.all_eq_true.1 Qwfa (t,_) (Q7k h)
  exact this,h1,h2,h3,h4,h5,h6,h7,h8,h9,h10,h11⟩
theorem Q9ga (l f:Int) (d:Bool) (w:World):
 Calls Tryz.prog 268 #[.agg #[.int .i64 l,.bool d,.int .u8 f]] w (Ret w (.agg #[.bool (!decide (f=2)),.bool (!decide (f=1))])):=by
 refine Qaa (args:=[.pt (.agg [.int .i64 l,.bool d,.int .u8 f])]) (c:=Qra) Tryz.func268 rfl (Qga _) rfl rfl ?_
 obtain ⟨_,hnd,_,hnt,_,har,_,hcm,_,hmx,_,hmn,ar01,ar12,_,hzpl,_,hzjn,_,hzup,_,hzmi,_,hzdp,hT⟩:=Qca
 have hT:=Qwga hnd hnt har hcm hmx hmn hzpl hzjn hzup hzmi hzdp
 repeat' (first
  | refine goa ?_|refine go3 (fun hlt=>?_) (fun hge=>?_)|refine go2 (fun h=>?_) (fun h=>?_)|exact go0|refine goz ?_|refine Qvha ?_ ?_
  | fail)
 all_goals (subst hnt;rfl)
theorem Qyga (l f:Int) (d:Bool) {y z:Bool} (hy:y= !decide (f=2)) (hz:z= !decide (f=1)) (w:World):
 Calls Tryz.prog 268 #[.agg #[.int .i64 l,.bool d,.int .u8 f]] w (Ret w (.agg #[.bool y,.bool z])):=by
 rw[hy,hz];exact Q9ga l f d w
theorem Qaha (l f m g:Int) (d e:Bool) (hf:f=0\/f=1\/f=2) (hg:g=0\/g=1\/g=2) (w:World):
 Calls Tryz.prog 229 #[.agg #[.int .i64 l,.bool d,.int .u8 f],.agg #[.int .i64 m,.bool e,.int .u8 g]] w (Ret w (.bool (Qfea ⟨l,d,f⟩ ⟨m,e,g⟩))):=by
 obtain ⟨z,hz⟩:=x9 (Qfea ⟨l,d,f⟩ ⟨m,e,g⟩)
 rw[<-hz]
 simp only[Qfea] at hz
 obtain ⟨y1,hy1⟩:=x9 ( !decide (f=2))
 obtain ⟨z1,hz1⟩:=x9 ( !decide (f=1))
 obtain ⟨y2,hy2⟩:=x9 ( !decide (g=2))
 obtain ⟨z2,hz2⟩:=x9 ( !decide (g=1))
 have e0:z=(decide (l=m)&&(decide (d=e)&&(y1&&y2||z1&&z2))):=by
  rw[hz,hy1,hz1,hy2,hz2]
  rcases hf with rfl|rfl|rfl<;>rcases hg with rfl|rfl|rfl<;>simp[Bool.beq_eq_decide_eq]
 clear hz hf hg
 refine Qaa (args:=[.pt (.agg [.int .i64 l,.bool d,.int .u8 f]),.pt (.agg [.int .i64 m,.bool e,.int .u8 g])]) (c:=Qra) Tryz.func229 rfl (Qga _) rfl rfl ?_
 obtain ⟨_,hnd,_,hnt,_,har,_,hcm,_,hmx,_,hmn,ar01,ar12,_,hzpl,_,hzjn,_,hzup,_,hzmi,_,hzdp,hT⟩:=Qca
 have hT:=Qwga hnd hnt har hcm hmx hmn hzpl hzjn hzup hzmi hzdp
 repeat' (first
  | refine goa ?_|refine go3 (fun hlt=>?_) (fun hge=>?_)|refine go2 (fun h=>?_) (fun h=>?_)|exact go0|refine gof ?_|refine gob ?_|refine Qvha ?_ ?_
  | fail)
 with_reducible refine Q4d (by kernel_rfl) ?_
 refine Qr7 0 0 rfl rfl rfl rfl trivial rfl (Qlba 0) (Qlca 0) (fun a0 ha0=>?_)
 refine Qr7 1 1 rfl rfl rfl rfl trivial rfl (Qyf (Qlba 0) rfl Qvc) Qku (fun a1 ha1=>?_)
 repeat' (first
  | refine goa ?_|refine go3 (fun hlt=>?_) (fun hge=>?_)|refine go2 (fun h=>?_) (fun h=>?_)|exact go0|refine goz ?_|refine Qvha ?_ ?_
  | (refine' Qiha Tryz.call268 ?_ ?_;rotate_left;(·intro wc hbc hxc;exact Qyga _ _ _ (by first|exact hy1|exact hy2) (by first|exact hz1|exact hz2) wc))
  | refine Qhha Tryz.func269 Tryz.results269 Tryz.call269 ?_
  | (((with_reducible apply Q3f);(·rfl);(·rfl)))
  | fail)
 all_goals
  rw[e0]
  refine Qtb ?_
  simp_all
theorem behC (l f m g:Int) (d e:Bool) (w:World):
 Calls Tryz.prog 230 #[.agg #[.int .i64 l,.bool d,.int .u8 f],.agg #[.int .i64 m,.bool e,.int .u8 g]] w (Ret w (.bool (Qnfa ⟨l,d,f⟩ ⟨m,e,g⟩))):=by
 refine Qaa (args:=[.pt (.agg [.int .i64 l,.bool d,.int .u8 f]),.pt (.agg [.int .i64 m,.bool e,.int .u8 g])]) (c:=Qra) Tryz.func230 rfl (Qga _) rfl rfl ?_
 obtain ⟨_,hnd,_,hnt,_,har,_,hcm,_,_,_,_,ar01,ar12,_,hzpl,_,hzjn,_,_,_,_,_,_,hT⟩:=Qca
 repeat' (first
  | refine goa ?_|refine go3 (fun hlt=>?_) (fun hge=>?_)|refine go2 (fun h=>?_) (fun h=>?_)|exact go0|refine goz ?_|refine Qvha ?_ ?_
  | refine Qhha Tryz.func143 Tryz.results143 Tryz.call143 ?_
  | fail)
 all_goals
  clear hT
  subst hnd hnt hcm
  refine Qtb ?_
  simp only[Qnfa,wholeP]
  grind
theorem Qyea (t:GTouch) (x:GLoan) (u:Bool) (ht:t.p.ok=true) (hx:x.p.ok=true) (t0:0<=t.p.f) (x0:0<=x.p.f) (hb:1<=x.bo/\x.bo<=3) (w:World):
 Calls Tryz.prog 179 #[t.val,x.val,.bool u] w (Ret w (.bool (conB t x u))):=by
 have h10 (wc:World):=Qaha t.p.l t.p.f x.p.l x.p.f t.p.d x.p.d (Qvea ht t0) (Qvea hx x0) wc
 have h20 (wc:World):=behC t.p.l t.p.f x.p.l x.p.f t.p.d x.p.d wc
 have hov:=Qgfa (t:=t.p) (l:=x.p)
 obtain ⟨zo,hzo⟩:=x9 (Qfea t.p x.p)
 obtain ⟨zb,hzb⟩:=x9 (Qnfa t.p x.p)
 obtain ⟨z,hz⟩:=x9 (conB t x u)
 rw[<-hz]
 have h1 (wc:World):Calls Tryz.prog 229 #[.agg #[.int .i64 t.p.l,.bool t.p.d,.int .u8 t.p.f],.agg #[.int .i64 x.p.l,.bool x.p.d,.int .u8 x.p.f]] wc (Ret wc (.bool zo)):=by rw[hzo];exact h10 wc
 have h2 (wc:World):Calls Tryz.prog 230 #[.agg #[.int .i64 t.p.l,.bool t.p.d,.int .u8 t.p.f],.agg #[.int .i64 x.p.l,.bool x.p.d,.int .u8 x.p.f]] wc (Ret wc (.bool zb)):=by rw[hzb];exact h20 wc
 simp only[conB,<-hzo,<-hzb] at hz
 rw[<-hzo,<-hzb] at hov
 clear ht hx t0 x0 hzo hzb h10 h20
 obtain ⟨⟨tl,td,tf⟩,tw,te⟩:=t
 obtain ⟨xa,⟨xl,xd,xf⟩,xb,xc⟩:=x
 simp only at h1 h2 hz hb
 have hb:xb=1\/xb=2\/xb=3:=by omega
 rcases hb with rfl|rfl|rfl
 all_goals
  skip
  refine Qaa (args:=[.pt (.agg (GTouch.sc _)),.pt (.agg (GLoan.sc _)),.pt (.one (.bool u))]) (c:=Qra) Tryz.func179 rfl (Qga _) rfl rfl ?_
  obtain ⟨_,hnd,_,hnt,_,har,_,hcm,_,hmx,_,hmn,ar01,ar12,_,hzpl,_,hzjn,_,hzup,_,hzmi,_,hzdp,hT⟩:=Qca
  repeat' (first
   | refine goa ?_|refine go3 (fun hlt=>?_) (fun hge=>?_)|refine go2 (fun h=>?_) (fun h=>?_)|exact go0|refine goz ?_|refine Qvha ?_ ?_
   | (refine' Qiha Tryz.call229 ?_ ?_;rotate_left;(·intro wc hbc hxc;exact h1 wc))
   | (refine' Qiha Tryz.call230 ?_ ?_;rotate_left;(·intro wc hbc hxc;exact h2 wc))
   | fail)
  all_goals
   clear hT h1 h2
   subst hnd hnt har
   refine Qtb ?_
   subst hz
   clear hcm hmx hmn hzpl hzjn hzup hzmi hzdp
   cases zo<;>cases zb<;>cases tw<;>cases te<;>cases u<;>first|rfl|(exfalso;simp at *;done)|(exfalso;exact absurd (hov rfl) (by decide))
end
theorem RetR.xs {w w':World} {c c':R9z} {q i:Nat} {en:Ending} (hc:c q i=c' q i) (h:RetR w c (.pt (.one (.xs q i))) [] en w'):RetR w c' (.pt (.one (.xs q i))) [] en w':=by
 obtain ⟨v,g,h1,h2,h3,h4⟩:=h
 refine ⟨v,g,h1,h2,h3.to trivial,?_⟩
 have h4:v=.slice (c q i).a (c q i).n (c q i).c:=h4
 show v=.slice (c' q i).a (c' q i).n (c' q i).c
 rw[<-hc];exact h4
theorem Q5da {l f:Int} {q d w:Bool} {c c2 c3:SC} (h3:Qre c3 (.bool q)) (h:Qre c (.bool d)) (h2:Qre c2 (.bool w)):Qbc [.int .i64 l,c3,.int .u8 f,c2,c] (GTouch.sc ⟨⟨l,q,f⟩,w,d⟩):=⟨⟨rfl,rfl⟩,h3,⟨rfl,rfl⟩,h2,h,trivial⟩
def Qgea (F:GFun) (n:Nat) (T0:List GTouch):List GTouch:=
 (((T0++(if Qge F n=true/\(stAt F n).k=1/\4<=(stAt F n).r.k then [GTouch.mk (stAt F n).r.p (decide ((stAt F n).r.k=5)||decide ((stAt F n).r.bo=2)) true] else []))++
   (if tgW F n=true then [GTouch.mk (tgP F n) true false] else []))++
   (if Qge F n=true/\(stAt F n).k=3 then [GTouch.mk ⟨(stAt F n).l,false,0⟩ true false] else []))++
   (if Qge F n=false/\F.jk (pbN F n)=3 then [GTouch.mk ⟨0,false,0⟩ false true] else [])
theorem Q2ea (F:GFun) (n:Nat) (T0:List GTouch):Qgea F n T0=
 (((T0++(if Qge F n=true/\(stAt F n).k=1/\4<=(stAt F n).r.k then [GTouch.mk (stAt F n).r.p (decide ((stAt F n).r.k=5)||decide ((stAt F n).r.bo=2)) true] else []))++
   (if tgW F n=true then [GTouch.mk (tgP F n) true false] else []))++
   (if Qge F n=true/\(stAt F n).k=3 then [GTouch.mk ⟨(stAt F n).l,false,0⟩ true false] else []))++
   (if Qge F n=false/\F.jk (pbN F n)=3 then [GTouch.mk ⟨0,false,0⟩ false true] else []):=rfl
theorem Qmea {p:Prop} (h:p:=by (first|((try with_reducible refine Q8c ?_ ?_ ?_ ?_);all_goals (cbv;(try simp only[true_and,and_true]);(try ((repeat' apply And.intro)<;>(first|trivial|rfl|exact RowLe.rfl' _|decide|(rw[Qda har _ o9];done)|((refine Q0a (by rw[x0,hln];rfl) (fun j hj=>absurd hj (Nat.not_lt_zero _))))|fail))));done)|fail)):Pf p:=⟨h⟩
theorem Q3ea {p:Prop} (h:p:=by (first|((try with_reducible refine Q8c ?_ ?_ ?_ ?_);all_goals (cbv;(try simp only[true_and,and_true]);(try ((repeat' apply And.intro)<;>(first|trivial|rfl|exact RowLe.rfl' _|decide|(rw[Qda har _ o9];done)|((rw[hR];(first|rw[e4a y9]|rw[e4b y9]|rw[e4p y9 y9]);(try refine Qxda hzpl hzjn ?_ rfl (Q5da (by first|exact Qsda _|exact Qrda _) (by first|exact Qrda _|exact Qsda _) (by first|exact Qrda _|exact Qsda _|exact w1 y9|exact w2 y9)));(first|rw[e3a y9]|rw[e3b y9]|rw[e3p y9 y9]);(try refine Qxda hzpl hzjn ?_ rfl (Q5da (by first|exact Qsda _|exact Qrda _) (by first|exact Qrda _|exact Qsda _) (by first|exact Qrda _|exact Qsda _|exact w1 y9|exact w2 y9)));(first|rw[e2a y9]|rw[e2p y9]);(try refine Qxda hzpl hzjn ?_ rfl (Q5da (by first|exact Qsda _|exact Qrda _) (by first|exact Qrda _|exact Qsda _) (by first|exact Qrda _|exact Qsda _|exact w1 y9|exact w2 y9)));(first|rw[e1a y9]|rw[e1b y9]|rw[e1c y9]|rw[e1p y9 y9 y9]);(try refine Qxda hzpl hzjn ?_ rfl (Q5da (by first|exact Qsda _|exact Qrda _) (by first|exact Qrda _|exact Qsda _) (by first|exact Qrda _|exact Qsda _|exact w1 y9|exact w2 y9)));(have hT0':=hT0);(rw[<-haN] at hT0');exact hT0'))|fail))));done)|fail)):Pf p:=⟨h⟩
theorem Qnea {p:Prop} (h:p:=by (first|((try with_reducible refine Q8c ?_ ?_ ?_ ?_);all_goals (cbv;(try simp only[true_and,and_true]);(try ((repeat' apply And.intro)<;>(first|trivial|rfl|exact RowLe.rfl' _|decide|(rw[Qda har _ o9];done)|((exact hk3 i hki))|((rw[x1 i o9 o9];exact RowLe.rfl' _))|((rw[Qda har _ o9]))|fail))));done)|fail)):Pf p:=⟨h⟩
theorem Q7ga (F:GFun) (w:World) (hF:F.At w) (hO:F.Ok) (n:Nat) (hn:n<stN F.sn F.bn) (nn:Nat) (g:Nat->GOper) (hn8:nn<=8) (hin:∀i,i<nn->Qraa F.ln (g i)) (hOps0:∀(wc:World),KB ⟨w,[]⟩ wc->Calls Tryz.prog 226 #[F.val,.int .i64 (.ofNat n)] wc (RetR wc (Qwa F) (.pt (.one (.rs 0))) [opR nn g])):
 Calls Tryz.prog 178 #[F.val,.int .i64 (.ofNat n)] w (RetR w (Qwa F) (.pt (.one (.rs 0))) [Q4da (Qgea F n (Q6da F g nn))]):=by
 have hS0 wc (hk:KB ⟨w,[]⟩ wc):=Qlz F wc (hF.later hk) hO.small n hn
 have hTg0 wc (hk:KB ⟨w,[]⟩ wc):=Qjfa F wc (hF.later hk) hO n hn
 have hJ wc (hk:KB ⟨w,[]⟩ wc):=Qb3 F wc (hF.later hk) hO.small n hn
 have hOps wc (hk:KB ⟨w,[]⟩ wc) {c':R9z}:Calls Tryz.prog 226 #[F.val,.int .i64 (.ofNat n)] wc (RetR wc c' (.pt (.one (.rs 0))) [opR nn g]):=Calls.to (c':=c') ⟨fun _ _=>rfl,trivial⟩ rfl (hOps0 wc hk)
 obtain ⟨X,hX'⟩:=x9 (Q6da F g:Nat->List GTouch)
 have x0:X 0=[]:=by rw[hX'];rfl
 have x2:∀i,(g i).k=2->X (i+1)=X i++[⟨(g i).p,false,Q3da F (g i).p⟩]:=fun i h=>by rw[hX'];simp only[Q6da,opT,if_pos h]
 have x3:∀i,(g i).k=3->X (i+1)=X i++[⟨(g i).p,true,true⟩]:=fun i h=>by rw[hX'];simp only[Q6da,opT,if_pos h,show ¬(g i).k=2 by omega,if_false]
 have x1:∀i,(g i).k≠2->(g i).k≠3->X (i+1)=X i:=fun i h h'=>by rw[hX'];simp only[Q6da,opT,if_neg h,if_neg h',List.append_nil]
 have xl:∀i,(X i).length<=i:=fun i=>by rw[hX'];exact Q7da _ _ i
 rw[<-hX']
 obtain ⟨ln_,hln⟩:=x9 (List.length:List GTouch->Nat)
 obtain ⟨tc,htc⟩:=x9 (fun L j=>L.getD j .zero:List GTouch->Nat->GTouch)
 have hRX:∀L,Q4da L=⟨ln_ L,5,fun j=>(tc L j).sc⟩:=fun L=>by rw[Q4da,hln,htc]
 obtain ⟨dp,hdp⟩:=x9 (Q3da F:GPlace->Bool)
 rw[<-hdp] at x2
 obtain ⟨wp,hwp⟩:=x9 (wholeP:GPlace->Bool)
 obtain ⟨pf,hpf⟩:=x9 (fun j=>Qcx (F.lk j):B9z)
 have hW (l f:Int) (d:Bool) (wc:World):Calls Tryz.prog 143 #[.agg #[.int .i64 l,.bool d,.int .u8 f]] wc (Ret wc (.bool (wp ⟨l,d,f⟩))):=by
  rw[hwp];exact Q2y l f d wc
 have hP (j:Nat) (wc:World):Calls Tryz.prog 127 #[.agg #[.int .u8 (F.lk j),.int .u8 (F.lt j)]] wc (Ret wc (.bool (pf j))):=by
  rw[hpf];exact Qk1 (F.lk j) (F.lt j) wc
 have hd1:∀p,wp p=false->true=dp p:=fun p h=>by rw[hwp] at h;rw[hdp];simp[Q3da,h]
 have hd2:∀p,wp p=true->(!pf p.l.toNat)=dp p:=fun p h=>by rw[hwp] at h;rw[hdp,hpf];simp[Q3da,h,Qmga,Qcx]
 have xl2:∀i,ln_ (X i)<=i:=fun i=>by rw[hln];exact xl i
 have hT0:RowLe ⟨ln_ (X nn),5,fun j=>(tc (X nn) j).sc⟩ (Q4da (X nn)):=by rw[hRX];exact RowLe.rfl' _
 obtain ⟨R,hR0⟩:=x9 (Q4da (Qgea F n (X nn)))
 rw[<-hR0]
 have hpl:Qic [R]:=by rw[hR0];exact Qdea _
 have hR:=hR0.trans (congrArg Q4da (Q2ea F n (X nn)))
 clear hR0
 obtain ⟨s,hs'⟩:=x9 (stAt F n)
 obtain ⟨ia,hi'⟩:=x9 (Qge F n)
 obtain ⟨pb,hb'⟩:=x9 (pbN F n)
 obtain ⟨tp,htp⟩:=x9 (tgP F n)
 obtain ⟨tw,htw⟩:=x9 (tgW F n)
 rw[<-hs',<-hi'] at hS0
 rw[<-htp,<-htw] at hTg0
 rw[<-hb'] at hJ
 rw[<-hs',<-hi',<-hb',<-htp,<-htw] at hR
 have hS wc (hk:KB ⟨w,[]⟩ wc):Calls Tryz.prog 142 #[F.val,.int .i64 (.ofNat n)] wc (Ret wc (.tuple #[s.val,.bool ia])):=hS0 wc hk
 have hTg wc (hk:KB ⟨w,[]⟩ wc):Calls Tryz.prog 227 #[F.val,.int .i64 (.ofNat n)] wc (Ret wc (.tuple #[.agg #[.int .i64 tp.l,.bool tp.d,.int .u8 tp.f],.bool tw])):=hTg0 wc hk
 obtain ⟨jk',hjk⟩:=x9 (F.jk pb)
 rw[<-hjk] at hR
 obtain ⟨T0,hT0'⟩:=x9 (X nn)
 rw[<-hT0'] at hR
 have hT0:RowLe ⟨ln_ (X nn),5,fun j=>(tc (X nn) j).sc⟩ (Q4da T0):=by rw[hT0'];exact hT0
 clear hT0'
 clear hX' hdp hwp hpf hS0 hTg0 hs' hi' hb' htp htw hO hn
 obtain ⟨yk,⟨ql,qd,qf⟩,⟨rk,ro,rb,⟨ak,an,⟨al,ad,af⟩⟩,⟨ek,en,⟨el,ed,ef⟩⟩,⟨gl,gd,gf⟩⟩,⟨ck,cn,⟨cl,cd,cf⟩⟩,yl⟩:=s
 obtain ⟨tpl,tpd,tpf⟩:=tp
 simp only at hS hTg hR
 obtain ⟨wv,hwv⟩:=x9 ((decide (rk=5)||decide (rb=2)))
 rw[<-hwv] at hR
 have w1:decide (rk=5)=true->Qre (.lit true) (.bool wv):=fun h=>by rw[hwv,h];rfl
 have w2:decide (rk=5)=false->Qre (.bool (decide (rb=2))) (.bool wv):=fun h=>by rw[hwv,h];rfl
 obtain ⟨T1,h1⟩:=x9 (T0++(if ia=true/\yk=1/\4<=rk then [GTouch.mk ⟨gl,gd,gf⟩ wv true] else []))
 rw[<-h1] at hR
 obtain ⟨T2,h2⟩:=x9 (T1++(if tw=true then [GTouch.mk ⟨tpl,tpd,tpf⟩ true false] else []))
 rw[<-h2] at hR
 obtain ⟨T3,h3⟩:=x9 (T2++(if ia=true/\yk=3 then [GTouch.mk ⟨yl,false,0⟩ true false] else []))
 rw[<-h3] at hR
 obtain ⟨T4,h4⟩:=x9 (T3++(if ia=false/\jk'=3 then [GTouch.mk ⟨0,false,0⟩ false true] else []))
 rw[<-h4] at hR
 have e1a:ia=false->T1=T0:=fun h=>by rw[h1,if_neg (by simp[h]),List.append_nil]
 have e1b:decide (yk=1)=false->T1=T0:=fun h=>by rw[h1,if_neg (fun g=>of_decide_eq_false h g.2.1),List.append_nil]
 have e1c:rCm .geq rk 4=false->T1=T0:=fun h=>by rw[h1,if_neg (fun g=>of_decide_eq_false (show decide ((4:Int)<=rk)=false from h) g.2.2),List.append_nil]
 have e1p:ia=true->decide (yk=1)=true->rCm .geq rk 4=true->T1=T0++[⟨⟨gl,gd,gf⟩,wv,true⟩]:=fun h g k=>by rw[h1,if_pos ⟨h,of_decide_eq_true g,of_decide_eq_true (show decide ((4:Int)<=rk)=true from k)⟩]
 have e2a:tw=false->T2=T1:=fun h=>by rw[h2,if_neg (by simp[h]),List.append_nil]
 have e2p:tw=true->T2=T1++[⟨⟨tpl,tpd,tpf⟩,true,false⟩]:=fun h=>by rw[h2,if_pos h]
 have e3a:ia=false->T3=T2:=fun h=>by rw[h3,if_neg (by simp[h]),List.append_nil]
 have e3b:decide (yk=3)=false->T3=T2:=fun h=>by rw[h3,if_neg (fun g=>of_decide_eq_false h g.2),List.append_nil]
 have e3p:ia=true->decide (yk=3)=true->T3=T2++[⟨⟨yl,false,0⟩,true,false⟩]:=fun h g=>by rw[h3,if_pos ⟨h,of_decide_eq_true g⟩]
 have e4a:ia=true->T4=T3:=fun h=>by rw[h4,if_neg (by simp[h]),List.append_nil]
 have e4b:decide (F.jk pb=3)=false->T4=T3:=fun h=>by rw[h4,hjk,if_neg (fun g=>of_decide_eq_false h g.2),List.append_nil]
 have e4p:ia=false->decide (F.jk pb=3)=true->T4=T3++[⟨⟨0,false,0⟩,false,true⟩]:=fun h g=>by rw[h4,hjk,if_pos ⟨h,of_decide_eq_true g⟩]
 clear h1 h2 h3 h4 hjk hwv
 obtain ⟨_,_,_,ln,_,_,_,_,bn,_,_,_,_,s,_,jn,_,ja,jk,jo,_,_,_,_⟩:=F
 obtain ⟨hX,hl,hb,hs,hj⟩:=hF
 simp only at hl hb hs hj
 simp only at hin hJ hd2 hP e4b e4p
 refine Qaa (args:=[.pt (.agg (GFun.dat _)),.pt (.one (.int .i64 (.ofNat n)))]) (c:=(Qwa _)) Tryz.func178 rfl hX rfl rfl ?_
 obtain ⟨_,_,_,hnt,_,har,cm,hcm,_,_,_,_,ar01,ar12,zpl,hzpl,zjn,hzjn,_,_,_,_,_,_,hT⟩:=Qca
 rw[<-hcm] at e1c e1p
 have hk2:∀i c,(g i).k=2->Qre c (.bool (dp (g i).p))->RowLe ⟨zpl (ln_ (X i)) 1,5,zjn (ln_ (X i)) (fun j=>(tc (X i) j).sc) (fun j=>Qte [.int .i64 (g i).p.l,.bool (g i).p.d,.int .u8 (g i).p.f,.lit false,c] (0+j * 5) 5)⟩ ⟨ln_ (X (i+1)),5,fun j=>(tc (X (i+1)) j).sc⟩:=fun i c h hc=>by
  rw[<-hRX]
  refine Qxda hzpl hzjn (L:=X i) (by rw[hRX];exact RowLe.rfl' _) (x2 i h) ?_
  exact Qeea hc (Qrda _)
 have hk3:∀i,(g i).k=3->RowLe ⟨zpl (ln_ (X i)) 1,5,zjn (ln_ (X i)) (fun j=>(tc (X i) j).sc) (fun j=>Qte [.int .i64 (g i).p.l,.bool (g i).p.d,.int .u8 (g i).p.f,.lit true,.lit true] (0+j * 5) 5)⟩ ⟨ln_ (X (i+1)),5,fun j=>(tc (X (i+1)) j).sc⟩:=fun i h=>by
  rw[<-hRX]
  refine Qxda hzpl hzjn (L:=X i) (by rw[hRX];exact RowLe.rfl' _) (x3 i h) ?_
  exact Qeea (Qrda _) (Qrda _)
 have hlo:∀i,i<nn->(g i).k=2->0<=(g i).p.l/\(g i).p.l<ln:=fun i hi h=>by
  rcases hin i hi with g'|g'
  · omega
  · exact g'.2
 refine Qcm 4 rfl rfl trivial (Qmc _) ?_
 repeat' (first
  | refine goa ?_|refine go3 (fun hlt=>?_) (fun hge=>?_)|refine go2 (fun h=>?_) (fun h=>?_)|exact go0|refine Qz9 ?_|refine gof ?_|refine gob ?_|refine Qvha ?_ ?_
  | ((first|with_reducible apply Qhb hT|with_reducible apply Qna hT);(·(cbv;try rfl));(·(cbv;try rfl));(·exact Qmea);(·exact Qmea);(·rfl))
  | ((with_reducible apply Qoa (hf:=Tryz.call226));(·intro S;cbv;try rfl);(·intro wc S hbc hxc hrc;exact hOps wc hbc);(·rfl))
  | (refine' Qiha Tryz.call142 ?_ ?_;rotate_left;(·intro wc hbc hxc;exact hS wc hbc))
  | ((with_reducible apply Qud 5 5);(·(cbv;try rfl)))
  | ((with_reducible refine Qgha (σ:={i:Nat // i<=nn}) (zs9 [8,1,16,46]) (fun x=>[zc9 7 x.1]) (fun x=>[]) (fun x=>[(1,⟨ln_ (X x.1),5,fun j=>(tc (X x.1) j).sc⟩)]) (fun x=>nn - x.1) ⟨0,by omega⟩ ?_ ?_);(·exact pfp Qmea);(rintro ⟨i,hi⟩ mm hmm;refine halt ?_))
  | (fail)
  | fail)
 all_goals (with_reducible refine Q1fa ?_)
 have hnn8:∀j,j<=nn->j<=8:=fun j hj=>by omega
 have hi8:=hnn8 i hi
 by_cases hlt:i<nn
 case neg=>
  have haN:i=nn:=by omega
  have q0:cm .lss (.ofNat i) (.ofNat nn)=false:=by rw[hcm];exact decide_eq_false (fun h=>hlt (Int.ofNat_lt.1 h))
  repeat' (first
   | refine goa ?_|refine go3 (fun hlt=>?_) (fun hge=>?_)|refine go2 (fun h=>?_) (fun h=>?_)|exact go0|refine Qz9 ?_|refine gof ?_|refine Qvha ?_ ?_
   | ((first|with_reducible apply Qhb hT|with_reducible apply Qna hT);(·(cbv;try rfl));(·(cbv;try rfl));(·exact Q3ea);(·exact Q3ea);(·rfl))
   | ((first|with_reducible apply Qcn hT|with_reducible apply Qgn hT);(·(cbv;try rfl));(·(cbv;try rfl));(·exact Q3ea);(·exact Q3ea);(·rfl);(·first|assumption|exact ⟨fun _ _=>rfl,trivial⟩);(·rfl))
   | refine gob ?_
   | ((with_reducible refine Q4c ?_ ?_);(·first|((rw[hzpl];exact Nat.le_trans (Nat.add_le_add_right (xl2 i) 1) (show i+1<=1073741824 from by omega)))|((rw[hzpl];exact Nat.le_trans (Nat.add_le_add_right (xl2 i) 2) (show i+2<=1073741824 from by omega)))|((rw[hzpl];exact Nat.le_trans (Nat.add_le_add_right (xl2 i) 3) (show i+3<=1073741824 from by omega)))|((rw[hzpl];exact Nat.le_trans (Nat.add_le_add_right (xl2 i) 4) (show i+4<=1073741824 from by omega)))))
   | (refine' Qiha Tryz.call142 ?_ ?_;rotate_left;(·intro wc hbc hxc;exact hS wc hbc))
   | (refine' Qiha Tryz.call227 ?_ ?_;rotate_left;(·intro wc hbc hxc;exact hTg wc hbc))
   | (refine' Qiha Tryz.call228 ?_ ?_;rotate_left;(·intro wc hbc hxc;exact hJ wc hbc))
   | (fail)
   | fail)
 have q0:cm .lss (.ofNat i) (.ofNat nn)=true:=by rw[hcm];exact decide_eq_true (Int.ofNat_lt.2 hlt)
 rcases hin i hlt with hki|⟨hki|hki,hl0,hl1⟩
 · have q2:decide ((g i).k=2)=false:=decide_eq_false o9
   have q3:decide ((g i).k=3)=false:=decide_eq_false o9
   repeat' (first
    | refine goa ?_|refine go3 (fun hlt=>?_) (fun hge=>?_)|refine go2 (fun h=>?_) (fun h=>?_)|exact go0|refine Qz9 ?_|refine gof ?_|refine gob ?_|refine Qvha ?_ ?_
    | ((first|with_reducible apply Qhb hT|with_reducible apply Qna hT);(·(cbv;try rfl));(·(cbv;try rfl));(·exact Qnea);(·exact Qnea);(·rfl))
    | (((with_reducible apply Qxa);(·exact Int.natCast_nonneg _);(·exact Int.ofNat_lt.2 y9)))
    | ((with_reducible refine Qfha (⟨i+1,by omega⟩:{i:Nat // i<=nn}) ?_ ?_);(·exact msr o9 y9);(·exact pfp Qnea))
    | (fail)
    | fail)
 · have q2:decide ((g i).k=2)=true:=decide_eq_true hki
   have q3:decide ((g i).k=3)=false:=decide_eq_false o9
   repeat' (first
    | refine goa ?_|refine go3 (fun hlt=>?_) (fun hge=>?_)|refine go2 (fun h=>?_) (fun h=>?_)|exact go0|refine gof ?_|refine Qvha ?_ ?_
    | refine gob ?_
    | ((with_reducible refine Q4c ?_ ?_);(·first|((rw[hzpl];exact Nat.le_trans (Nat.add_le_add_right (xl2 i) 1) (show i+1<=1073741824 from by omega)))|((rw[hzpl];exact Nat.le_trans (Nat.add_le_add_right (xl2 i) 2) (show i+2<=1073741824 from by omega)))|((rw[hzpl];exact Nat.le_trans (Nat.add_le_add_right (xl2 i) 3) (show i+3<=1073741824 from by omega)))|((rw[hzpl];exact Nat.le_trans (Nat.add_le_add_right (xl2 i) 4) (show i+4<=1073741824 from by omega)))))
    | (refine' Qiha Tryz.call143 ?_ ?_;rotate_left;(·intro wc hbc hxc;exact hW _ _ _ wc))
    | (refine' Qiha Tryz.call127 ?_ ?_;rotate_left;(·intro wc hbc hxc;exact hP _ wc))
    | (((with_reducible refine Q4d (by kernel_rfl) ?_);(refine Q9d 8 4 rfl rfl rfl rfl rfl ⟨fun _ _=>rfl,fun _ _=>rfl,trivial⟩ rfl (Q2g (Qmc _)) Qi4 (fun a1 _=>?_))))
    | (((with_reducible apply Qxa);(·exact Int.natCast_nonneg _);(·exact Int.ofNat_lt.2 y9)))
    | (((with_reducible apply Qxa);(·exact hl0);(·exact hl1)))
    | (((with_reducible refine Q0ea 4 (⟨i+1,by omega⟩:{i:Nat // i<=nn}) (fun q i h=>Q4a h) Qi4 (Qafa (Q2g (Qmc _))) ?_ ?_ ?_ ?_ ?_ ?_);(·exact Nat.lt_of_lt_of_eq (show nn - (i+1)<nn - i from by omega) (Eq.symm y9));(·(refine Q8c ?_ ?_ ?_ ?_<;>(cbv;(try simp only[true_and,and_true]);(try ((repeat' apply And.intro)<;>(first|trivial|rfl|exact RowLe.rfl' _|(rw[Qda har _ o9])|(exact hk3 i hki)|(refine hk2 i _ hki ?_;first|exact hd1 _ y9|(rw[hnt];exact hd2 _ y9))|(rw[x1 i o9 o9];exact RowLe.rfl' _)))))));(·(cbv;try rfl));(·simp);(·(cbv;try rfl));(·(cbv;exact ⟨fun _ _=>rfl,fun _ _=>rfl,trivial⟩))))
    | (fail)
    | fail)
 · have q2:decide ((g i).k=2)=false:=decide_eq_false o9
   have q3:decide ((g i).k=3)=true:=decide_eq_true hki
   repeat' (first
    | refine goa ?_|refine go3 (fun hlt=>?_) (fun hge=>?_)|refine go2 (fun h=>?_) (fun h=>?_)|exact go0|refine Qz9 ?_|refine gof ?_|refine Qvha ?_ ?_
    | ((first|with_reducible apply Qhb hT|with_reducible apply Qna hT);(·(cbv;try rfl));(·(cbv;try rfl));(·exact Qnea);(·exact Qnea);(·rfl))
    | refine gob ?_
    | ((with_reducible refine Q4c ?_ ?_);(·first|((rw[hzpl];exact Nat.le_trans (Nat.add_le_add_right (xl2 i) 1) (show i+1<=1073741824 from by omega)))|((rw[hzpl];exact Nat.le_trans (Nat.add_le_add_right (xl2 i) 2) (show i+2<=1073741824 from by omega)))|((rw[hzpl];exact Nat.le_trans (Nat.add_le_add_right (xl2 i) 3) (show i+3<=1073741824 from by omega)))|((rw[hzpl];exact Nat.le_trans (Nat.add_le_add_right (xl2 i) 4) (show i+4<=1073741824 from by omega)))))
    | (((with_reducible apply Qxa);(·exact Int.natCast_nonneg _);(·exact Int.ofNat_lt.2 y9)))
    | ((with_reducible refine Qfha (⟨i+1,by omega⟩:{i:Nat // i<=nn}) ?_ ?_);(·exact msr o9 y9);(·exact pfp Qnea))
    | (fail)
    | fail)
theorem Qpea {p:Prop} (h:p:=by (first|((try with_reducible refine Q8c ?_ ?_ ?_ ?_);all_goals (cbv;(try simp only[true_and,and_true]);(try ((repeat' apply And.intro)<;>(first|trivial|rfl|exact RowLe.rfl' _|decide|(rw[Qda har _ o9];done)|((refine Q0a (by rw[x0,hln];rfl) (fun j hj=>absurd hj (Nat.not_lt_zero _))))|fail))));done)|fail)):Pf p:=⟨h⟩
theorem Q4ea {p:Prop} (h:p:=by (first|((try with_reducible refine Q8c ?_ ?_ ?_ ?_);all_goals (cbv;(try simp only[true_and,and_true]);(try ((repeat' apply And.intro)<;>(first|trivial|rfl|exact RowLe.rfl' _|decide|(rw[Qda har _ o9];done)|((rw[hR];(first|rw[e4a y9]|rw[e4b y9]|rw[e4p y9 y9]);(try refine Qxda hzpl hzjn ?_ rfl (Q5da (by first|exact Qsda _|exact Qrda _) (by first|exact Qrda _|exact Qsda _) (by first|exact Qrda _|exact Qsda _|exact w1 y9|exact w2 y9)));(first|rw[e3a y9]|rw[e3b y9]|rw[e3p y9 y9]);(try refine Qxda hzpl hzjn ?_ rfl (Q5da (by first|exact Qsda _|exact Qrda _) (by first|exact Qrda _|exact Qsda _) (by first|exact Qrda _|exact Qsda _|exact w1 y9|exact w2 y9)));(first|rw[e2a y9]|rw[e2p y9]);(try refine Qxda hzpl hzjn ?_ rfl (Q5da (by first|exact Qsda _|exact Qrda _) (by first|exact Qrda _|exact Qsda _) (by first|exact Qrda _|exact Qsda _|exact w1 y9|exact w2 y9)));(first|rw[e1a y9]|rw[e1b y9]|rw[e1c y9]|rw[e1p y9 y9 y9]);(try refine Qxda hzpl hzjn ?_ rfl (Q5da (by first|exact Qsda _|exact Qrda _) (by first|exact Qrda _|exact Qsda _) (by first|exact Qrda _|exact Qsda _|exact w1 y9|exact w2 y9)));(have hT0':=hT0);(rw[<-haN] at hT0');exact hT0'))|fail))));done)|fail)):Pf p:=⟨h⟩
theorem Qqea {p:Prop} (h:p:=by (first|((try with_reducible refine Q8c ?_ ?_ ?_ ?_);all_goals (cbv;(try simp only[true_and,and_true]);(try ((repeat' apply And.intro)<;>(first|trivial|rfl|exact RowLe.rfl' _|decide|(rw[Qda har _ o9];done)|((exact hk3 i hki))|((rw[x1 i o9 o9];exact RowLe.rfl' _))|((rw[Qda har _ o9]))|fail))));done)|fail)):Pf p:=⟨h⟩
theorem Qbha (F:GFun) (w:World) (hF:F.At w) (hO:F.Ok) (n:Nat) (hn:n<stN F.sn F.bn) (pb:Nat) (hpb0:pbN F n=pb) (hn8:F.jn pb<=8) (hin:∀i,i<F.jn pb->Qraa F.ln (F.ja pb i)) (hOps0:∀(wc:World),KB ⟨w,[]⟩ wc->Calls Tryz.prog 226 #[F.val,.int .i64 (.ofNat n)] wc (RetR wc (Qwa F) (.pt (.one (.xs 3 pb))) [])):
 Calls Tryz.prog 178 #[F.val,.int .i64 (.ofNat n)] w (RetR w (Qwa F) (.pt (.one (.rs 0))) [Q4da (Qgea F n (Q6da F (F.ja pb) (F.jn pb)))]):=by
 have hS0 wc (hk:KB ⟨w,[]⟩ wc):=Qlz F wc (hF.later hk) hO.small n hn
 have hTg0 wc (hk:KB ⟨w,[]⟩ wc):=Qjfa F wc (hF.later hk) hO n hn
 have hJ wc (hk:KB ⟨w,[]⟩ wc):=Qb3 F wc (hF.later hk) hO.small n hn
 have hOps wc (hk:KB ⟨w,[]⟩ wc):Calls Tryz.prog 226 #[F.val,.int .i64 (.ofNat n)] wc (RetR wc (Q3a (Qwa F) 4 NoFam) (.pt (.one (.xs 3 pb))) []):=(hOps0 wc hk).mono fun en w' h=>RetR.xs (Q4a (by decide)).symm h
 obtain ⟨X,hX'⟩:=x9 (Q6da F (F.ja pb):Nat->List GTouch)
 have x0:X 0=[]:=by rw[hX'];rfl
 have x2:∀i,((F.ja pb) i).k=2->X (i+1)=X i++[⟨((F.ja pb) i).p,false,Q3da F ((F.ja pb) i).p⟩]:=fun i h=>by rw[hX'];simp only[Q6da,opT,if_pos h]
 have x3:∀i,((F.ja pb) i).k=3->X (i+1)=X i++[⟨((F.ja pb) i).p,true,true⟩]:=fun i h=>by rw[hX'];simp only[Q6da,opT,if_pos h,show ¬((F.ja pb) i).k=2 by omega,if_false]
 have x1:∀i,((F.ja pb) i).k≠2->((F.ja pb) i).k≠3->X (i+1)=X i:=fun i h h'=>by rw[hX'];simp only[Q6da,opT,if_neg h,if_neg h',List.append_nil]
 have xl:∀i,(X i).length<=i:=fun i=>by rw[hX'];exact Q7da _ _ i
 rw[<-hX']
 obtain ⟨ln_,hln⟩:=x9 (List.length:List GTouch->Nat)
 obtain ⟨tc,htc⟩:=x9 (fun L j=>L.getD j .zero:List GTouch->Nat->GTouch)
 have hRX:∀L,Q4da L=⟨ln_ L,5,fun j=>(tc L j).sc⟩:=fun L=>by rw[Q4da,hln,htc]
 obtain ⟨dp,hdp⟩:=x9 (Q3da F:GPlace->Bool)
 rw[<-hdp] at x2
 obtain ⟨wp,hwp⟩:=x9 (wholeP:GPlace->Bool)
 obtain ⟨pf,hpf⟩:=x9 (fun j=>Qcx (F.lk j):B9z)
 have hW (l f:Int) (d:Bool) (wc:World):Calls Tryz.prog 143 #[.agg #[.int .i64 l,.bool d,.int .u8 f]] wc (Ret wc (.bool (wp ⟨l,d,f⟩))):=by
  rw[hwp];exact Q2y l f d wc
 have hP (j:Nat) (wc:World):Calls Tryz.prog 127 #[.agg #[.int .u8 (F.lk j),.int .u8 (F.lt j)]] wc (Ret wc (.bool (pf j))):=by
  rw[hpf];exact Qk1 (F.lk j) (F.lt j) wc
 have hd1:∀p,wp p=false->true=dp p:=fun p h=>by rw[hwp] at h;rw[hdp];simp[Q3da,h]
 have hd2:∀p,wp p=true->(!pf p.l.toNat)=dp p:=fun p h=>by rw[hwp] at h;rw[hdp,hpf];simp[Q3da,h,Qmga,Qcx]
 have xl2:∀i,ln_ (X i)<=i:=fun i=>by rw[hln];exact xl i
 have hT0:RowLe ⟨ln_ (X (F.jn pb)),5,fun j=>(tc (X (F.jn pb)) j).sc⟩ (Q4da (X (F.jn pb))):=by rw[hRX];exact RowLe.rfl' _
 obtain ⟨R,hR0⟩:=x9 (Q4da (Qgea F n (X (F.jn pb))))
 rw[<-hR0]
 have hpl:Qic [R]:=by rw[hR0];exact Qdea _
 have hR:=hR0.trans (congrArg Q4da (Q2ea F n (X (F.jn pb))))
 clear hR0
 obtain ⟨s,hs'⟩:=x9 (stAt F n)
 obtain ⟨ia,hi'⟩:=x9 (Qge F n)
 have hb':pb=pbN F n:=hpb0.symm
 obtain ⟨tp,htp⟩:=x9 (tgP F n)
 obtain ⟨tw,htw⟩:=x9 (tgW F n)
 rw[<-hs',<-hi'] at hS0
 rw[<-htp,<-htw] at hTg0
 rw[<-hb'] at hJ
 rw[<-hs',<-hi',<-hb',<-htp,<-htw] at hR
 have hS wc (hk:KB ⟨w,[]⟩ wc):Calls Tryz.prog 142 #[F.val,.int .i64 (.ofNat n)] wc (Ret wc (.tuple #[s.val,.bool ia])):=hS0 wc hk
 have hTg wc (hk:KB ⟨w,[]⟩ wc):Calls Tryz.prog 227 #[F.val,.int .i64 (.ofNat n)] wc (Ret wc (.tuple #[.agg #[.int .i64 tp.l,.bool tp.d,.int .u8 tp.f],.bool tw])):=hTg0 wc hk
 obtain ⟨jk',hjk⟩:=x9 (F.jk pb)
 rw[<-hjk] at hR
 obtain ⟨T0,hT0'⟩:=x9 (X (F.jn pb))
 rw[<-hT0'] at hR
 have hT0:RowLe ⟨ln_ (X (F.jn pb)),5,fun j=>(tc (X (F.jn pb)) j).sc⟩ (Q4da T0):=by rw[hT0'];exact hT0
 clear hT0'
 clear hX' hdp hwp hpf hS0 hTg0 hs' hi' hb' htp htw hO hn
 obtain ⟨yk,⟨ql,qd,qf⟩,⟨rk,ro,rb,⟨ak,an,⟨al,ad,af⟩⟩,⟨ek,en,⟨el,ed,ef⟩⟩,⟨gl,gd,gf⟩⟩,⟨ck,cn,⟨cl,cd,cf⟩⟩,yl⟩:=s
 obtain ⟨tpl,tpd,tpf⟩:=tp
 simp only at hS hTg hR
 obtain ⟨wv,hwv⟩:=x9 ((decide (rk=5)||decide (rb=2)))
 rw[<-hwv] at hR
 have w1:decide (rk=5)=true->Qre (.lit true) (.bool wv):=fun h=>by rw[hwv,h];rfl
 have w2:decide (rk=5)=false->Qre (.bool (decide (rb=2))) (.bool wv):=fun h=>by rw[hwv,h];rfl
 obtain ⟨T1,h1⟩:=x9 (T0++(if ia=true/\yk=1/\4<=rk then [GTouch.mk ⟨gl,gd,gf⟩ wv true] else []))
 rw[<-h1] at hR
 obtain ⟨T2,h2⟩:=x9 (T1++(if tw=true then [GTouch.mk ⟨tpl,tpd,tpf⟩ true false] else []))
 rw[<-h2] at hR
 obtain ⟨T3,h3⟩:=x9 (T2++(if ia=true/\yk=3 then [GTouch.mk ⟨yl,false,0⟩ true false] else []))
 rw[<-h3] at hR
 obtain ⟨T4,h4⟩:=x9 (T3++(if ia=false/\jk'=3 then [GTouch.mk ⟨0,false,0⟩ false true] else []))
 rw[<-h4] at hR
 have e1a:ia=false->T1=T0:=fun h=>by rw[h1,if_neg (by simp[h]),List.append_nil]
 have e1b:decide (yk=1)=false->T1=T0:=fun h=>by rw[h1,if_neg (fun g=>of_decide_eq_false h g.2.1),List.append_nil]
 have e1c:rCm .geq rk 4=false->T1=T0:=fun h=>by rw[h1,if_neg (fun g=>of_decide_eq_false (show decide ((4:Int)<=rk)=false from h) g.2.2),List.append_nil]
 have e1p:ia=true->decide (yk=1)=true->rCm .geq rk 4=true->T1=T0++[⟨⟨gl,gd,gf⟩,wv,true⟩]:=fun h g k=>by rw[h1,if_pos ⟨h,of_decide_eq_true g,of_decide_eq_true (show decide ((4:Int)<=rk)=true from k)⟩]
 have e2a:tw=false->T2=T1:=fun h=>by rw[h2,if_neg (by simp[h]),List.append_nil]
 have e2p:tw=true->T2=T1++[⟨⟨tpl,tpd,tpf⟩,true,false⟩]:=fun h=>by rw[h2,if_pos h]
 have e3a:ia=false->T3=T2:=fun h=>by rw[h3,if_neg (by simp[h]),List.append_nil]
 have e3b:decide (yk=3)=false->T3=T2:=fun h=>by rw[h3,if_neg (fun g=>of_decide_eq_false h g.2),List.append_nil]
 have e3p:ia=true->decide (yk=3)=true->T3=T2++[⟨⟨yl,false,0⟩,true,false⟩]:=fun h g=>by rw[h3,if_pos ⟨h,of_decide_eq_true g⟩]
 have e4a:ia=true->T4=T3:=fun h=>by rw[h4,if_neg (by simp[h]),List.append_nil]
 have e4b:decide (F.jk pb=3)=false->T4=T3:=fun h=>by rw[h4,hjk,if_neg (fun g=>of_decide_eq_false h g.2),List.append_nil]
 have e4p:ia=false->decide (F.jk pb=3)=true->T4=T3++[⟨⟨0,false,0⟩,false,true⟩]:=fun h g=>by rw[h4,hjk,if_pos ⟨h,of_decide_eq_true g⟩]
 clear h1 h2 h3 h4 hjk hwv
 obtain ⟨_,_,_,ln,_,_,_,_,bn,_,_,_,_,s,_,jn,_,ja,jk,jo,_,_,_,_⟩:=F
 obtain ⟨hX,hl,hb,hs,hj⟩:=hF
 simp only at hl hb hs hj
 simp only at hin hn8 x1 x2 x3 hT0 hJ hd2 hP e4b e4p
 refine Qaa (args:=[.pt (.agg (GFun.dat _)),.pt (.one (.int .i64 (.ofNat n)))]) (c:=(Qwa _)) Tryz.func178 rfl hX rfl rfl ?_
 obtain ⟨_,_,_,hnt,_,har,cm,hcm,_,_,_,_,ar01,ar12,zpl,hzpl,zjn,hzjn,_,_,_,_,_,_,hT⟩:=Qca
 rw[<-hcm] at e1c e1p
 have hk2:∀i c,(ja pb i).k=2->Qre c (.bool (dp (ja pb i).p))->RowLe ⟨zpl (ln_ (X i)) 1,5,zjn (ln_ (X i)) (fun j=>(tc (X i) j).sc) (fun j=>Qte [.int .i64 (ja pb i).p.l,.bool (ja pb i).p.d,.int .u8 (ja pb i).p.f,.lit false,c] (0+j * 5) 5)⟩ ⟨ln_ (X (i+1)),5,fun j=>(tc (X (i+1)) j).sc⟩:=fun i c h hc=>by
  rw[<-hRX]
  refine Qxda hzpl hzjn (L:=X i) (by rw[hRX];exact RowLe.rfl' _) (x2 i h) ?_
  exact Qeea hc (Qrda _)
 have hk3:∀i,(ja pb i).k=3->RowLe ⟨zpl (ln_ (X i)) 1,5,zjn (ln_ (X i)) (fun j=>(tc (X i) j).sc) (fun j=>Qte [.int .i64 (ja pb i).p.l,.bool (ja pb i).p.d,.int .u8 (ja pb i).p.f,.lit true,.lit true] (0+j * 5) 5)⟩ ⟨ln_ (X (i+1)),5,fun j=>(tc (X (i+1)) j).sc⟩:=fun i h=>by
  rw[<-hRX]
  refine Qxda hzpl hzjn (L:=X i) (by rw[hRX];exact RowLe.rfl' _) (x3 i h) ?_
  exact Qeea (Qrda _) (Qrda _)
 have hlo:∀i,i<(jn pb)->(ja pb i).k=2->0<=(ja pb i).p.l/\(ja pb i).p.l<ln:=fun i hi h=>by
  rcases hin i hi with g'|g'
  · omega
  · exact g'.2
 refine Qcm 4 rfl rfl trivial (Qmc _) ?_
 repeat' (first
  | refine goa ?_|refine go3 (fun hlt=>?_) (fun hge=>?_)|refine go2 (fun h=>?_) (fun h=>?_)|exact go0|refine Qz9 ?_|refine gof ?_|refine gob ?_|refine Qvha ?_ ?_
  | ((first|with_reducible apply Qhb hT|with_reducible apply Qna hT);(·(cbv;try rfl));(·(cbv;try rfl));(·exact Qpea);(·exact Qpea);(·rfl))
  | ((with_reducible apply Qoa (hf:=Tryz.call226));(·intro S;cbv;try rfl);(·intro wc S hbc hxc hrc;exact hOps wc hbc);(·rfl))
  | (refine' Qiha Tryz.call142 ?_ ?_;rotate_left;(·intro wc hbc hxc;exact hS wc hbc))
  | ((with_reducible apply Qud 5 5);(·(cbv;try rfl)))
  | ((with_reducible refine Qgha (σ:={i:Nat // i<=(jn pb)}) (zs9 [8,1,16,46]) (fun x=>[zc9 7 x.1]) (fun x=>[]) (fun x=>[(0,⟨ln_ (X x.1),5,fun j=>(tc (X x.1) j).sc⟩)]) (fun x=>(jn pb) - x.1) ⟨0,by omega⟩ ?_ ?_);(·exact pfp Qpea);(rintro ⟨i,hi⟩ mm hmm;refine halt ?_))
  | (fail)
  | fail)
 all_goals (with_reducible refine Q1fa ?_)
 have hnn8:∀j,j<=(jn pb)->j<=8:=fun j hj=>by omega
 have hi8:=hnn8 i hi
 by_cases hlt:i<(jn pb)
 case neg=>
  have haN:i=(jn pb):=by omega
  have q0:cm .lss (.ofNat i) (.ofNat (jn pb))=false:=by rw[hcm];exact decide_eq_false (fun h=>hlt (Int.ofNat_lt.1 h))
  repeat' (first
   | refine goa ?_|refine go3 (fun hlt=>?_) (fun hge=>?_)|refine go2 (fun h=>?_) (fun h=>?_)|exact go0|refine Qz9 ?_|refine gof ?_|refine Qvha ?_ ?_
   | ((first|with_reducible apply Qhb hT|with_reducible apply Qna hT);(·(cbv;try rfl));(·(cbv;try rfl));(·exact Q4ea);(·exact Q4ea);(·rfl))
   | ((first|with_reducible apply Qcn hT|with_reducible apply Qgn hT);(·(cbv;try rfl));(·(cbv;try rfl));(·exact Q4ea);(·exact Q4ea);(·rfl);(·first|assumption|exact ⟨fun _ _=>rfl,trivial⟩);(·rfl))
   | refine gob ?_
   | ((with_reducible refine Q4c ?_ ?_);(·first|((rw[hzpl];exact Nat.le_trans (Nat.add_le_add_right (xl2 i) 1) (show i+1<=1073741824 from by omega)))|((rw[hzpl];exact Nat.le_trans (Nat.add_le_add_right (xl2 i) 2) (show i+2<=1073741824 from by omega)))|((rw[hzpl];exact Nat.le_trans (Nat.add_le_add_right (xl2 i) 3) (show i+3<=1073741824 from by omega)))|((rw[hzpl];exact Nat.le_trans (Nat.add_le_add_right (xl2 i) 4) (show i+4<=1073741824 from by omega)))))
   | (refine' Qiha Tryz.call142 ?_ ?_;rotate_left;(·intro wc hbc hxc;exact hS wc hbc))
   | (refine' Qiha Tryz.call227 ?_ ?_;rotate_left;(·intro wc hbc hxc;exact hTg wc hbc))
   | (refine' Qiha Tryz.call228 ?_ ?_;rotate_left;(·intro wc hbc hxc;exact hJ wc hbc))
   | (fail)
   | fail)
 have q0:cm .lss (.ofNat i) (.ofNat (jn pb))=true:=by rw[hcm];exact decide_eq_true (Int.ofNat_lt.2 hlt)
 rcases hin i hlt with hki|⟨hki|hki,hl0,hl1⟩
 · have q2:decide ((ja pb i).k=2)=false:=decide_eq_false o9
   have q3:decide ((ja pb i).k=3)=false:=decide_eq_false o9
   repeat' (first
    | refine goa ?_|refine go3 (fun hlt=>?_) (fun hge=>?_)|refine go2 (fun h=>?_) (fun h=>?_)|exact go0|refine Qz9 ?_|refine gof ?_|refine gob ?_|refine Qvha ?_ ?_
    | ((first|with_reducible apply Qhb hT|with_reducible apply Qna hT);(·(cbv;try rfl));(·(cbv;try rfl));(·exact Qqea);(·exact Qqea);(·rfl))
    | (((with_reducible apply Qxa);(·exact Int.natCast_nonneg _);(·exact Int.ofNat_lt.2 y9)))
    | ((with_reducible refine Qfha (⟨i+1,by omega⟩:{i:Nat // i<=(jn pb)}) ?_ ?_);(·exact Nat.lt_of_lt_of_eq (show (jn pb) - (i+1)<(jn pb) - i from by omega) (Eq.symm y9));(·exact pfp Qqea))
    | (fail)
    | fail)
 · have q2:decide ((ja pb i).k=2)=true:=decide_eq_true hki
   have q3:decide ((ja pb i).k=3)=false:=decide_eq_false o9
   repeat' (first
    | refine goa ?_|refine go3 (fun hlt=>?_) (fun hge=>?_)|refine go2 (fun h=>?_) (fun h=>?_)|exact go0|refine gof ?_|refine Qvha ?_ ?_
    | refine gob ?_
    | ((with_reducible refine Q4c ?_ ?_);(·first|((rw[hzpl];exact Nat.le_trans (Nat.add_le_add_right (xl2 i) 1) (show i+1<=1073741824 from by omega)))|((rw[hzpl];exact Nat.le_trans (Nat.add_le_add_right (xl2 i) 2) (show i+2<=1073741824 from by omega)))|((rw[hzpl];exact Nat.le_trans (Nat.add_le_add_right (xl2 i) 3) (show i+3<=1073741824 from by omega)))|((rw[hzpl];exact Nat.le_trans (Nat.add_le_add_right (xl2 i) 4) (show i+4<=1073741824 from by omega)))))
    | (refine' Qiha Tryz.call143 ?_ ?_;rotate_left;(·intro wc hbc hxc;exact hW _ _ _ wc))
    | (refine' Qiha Tryz.call127 ?_ ?_;rotate_left;(·intro wc hbc hxc;exact hP _ wc))
    | (((with_reducible refine Q4d (by kernel_rfl) ?_);(refine Q9d 8 4 rfl rfl rfl rfl rfl ⟨fun _ _=>rfl,trivial⟩ rfl (Q2g (Qmc _)) Qi4 (fun a1 _=>?_))))
    | (((with_reducible apply Qxa);(·exact Int.natCast_nonneg _);(·exact Int.ofNat_lt.2 y9)))
    | (((with_reducible apply Qxa);(·exact hl0);(·exact hl1)))
    | (((with_reducible refine Q0ea 4 (⟨i+1,by omega⟩:{i:Nat // i<=(jn pb)}) (fun q i h=>Q4a h) Qi4 (Qafa (Q2g (Qmc _))) ?_ ?_ ?_ ?_ ?_ ?_);(·exact Nat.lt_of_lt_of_eq (show (jn pb) - (i+1)<(jn pb) - i from by omega) (Eq.symm y9));(·(refine Q8c ?_ ?_ ?_ ?_<;>(cbv;(try simp only[true_and,and_true]);(try ((repeat' apply And.intro)<;>(first|trivial|rfl|exact RowLe.rfl' _|(rw[Qda har _ o9])|(exact hk3 i hki)|(refine hk2 i _ hki ?_;first|exact hd1 _ y9|(rw[hnt];exact hd2 _ y9))|(rw[x1 i o9 o9];exact RowLe.rfl' _)))))));(·(cbv;try rfl));(·simp);(·(cbv;try rfl));(·(cbv;exact ⟨fun _ _=>rfl,trivial⟩))))
    | (fail)
    | fail)
 · have q2:decide ((ja pb i).k=2)=false:=decide_eq_false o9
   have q3:decide ((ja pb i).k=3)=true:=decide_eq_true hki
   repeat' (first
    | refine goa ?_|refine go3 (fun hlt=>?_) (fun hge=>?_)|refine go2 (fun h=>?_) (fun h=>?_)|exact go0|refine Qz9 ?_|refine gof ?_|refine Qvha ?_ ?_
    | ((first|with_reducible apply Qhb hT|with_reducible apply Qna hT);(·(cbv;try rfl));(·(cbv;try rfl));(·exact Qqea);(·exact Qqea);(·rfl))
    | refine gob ?_
    | ((with_reducible refine Q4c ?_ ?_);(·first|((rw[hzpl];exact Nat.le_trans (Nat.add_le_add_right (xl2 i) 1) (show i+1<=1073741824 from by omega)))|((rw[hzpl];exact Nat.le_trans (Nat.add_le_add_right (xl2 i) 2) (show i+2<=1073741824 from by omega)))|((rw[hzpl];exact Nat.le_trans (Nat.add_le_add_right (xl2 i) 3) (show i+3<=1073741824 from by omega)))|((rw[hzpl];exact Nat.le_trans (Nat.add_le_add_right (xl2 i) 4) (show i+4<=1073741824 from by omega)))))
    | (((with_reducible apply Qxa);(·exact Int.natCast_nonneg _);(·exact Int.ofNat_lt.2 y9)))
    | ((with_reducible refine Qfha (⟨i+1,by omega⟩:{i:Nat // i<=(jn pb)}) ?_ ?_);(·exact Nat.lt_of_lt_of_eq (show (jn pb) - (i+1)<(jn pb) - i from by omega) (Eq.symm y9));(·exact pfp Qqea))
    | (fail)
    | fail)
theorem Quga {F:GFun} {n:Nat} (h:Qge F n=true) (hk:StIn F.ln (stAt F n)):Qgea F n (Q6da F (stG (stAt F n)) (Qlea (stAt F n)))=stT F (stAt F n):=by
 unfold Qgea tgW tgP
 simp only[h,if_true,true_and]
 generalize stAt F n=s at hk
 have h1:=hk.r
 rcases hk.k with k|k|k|k
 · rcases h1 k with ⟨g,_⟩|⟨g,_,_⟩|g|g
   · simp[stT,rvT,Qlea,rvN,k,g,Q6da,stG,rvG]
   · have g':¬s.r.k=1:=by omega
     have g4:¬4<=s.r.k:=by omega
     simp[stT,rvT,Qlea,rvN,k,g',g,g4,Q6da,stG,rvG]
   · simp[stT,rvT,Qlea,rvN,k,g,Q6da,stG,rvG]
   · simp[stT,rvT,Qlea,rvN,k,g,Q6da,stG,rvG]
 · simp[stT,Qlea,k,Q6da,stG]
 · simp[stT,Qlea,k,Q6da,stG]
 · simp[stT,Qlea,k,Q6da,stG]
theorem Qsga {F:GFun} {n:Nat} (h:Qge F n=false) (hj:F.jk (pbN F n)=2):Qgea F n (Q6da F (fun _=>F.jo (pbN F n)) 1)=jmT F (pbN F n):=by
 unfold Qgea tgW tgP
 simp[h,hj,jmT,Q6da]
theorem Qtga {F:GFun} {n:Nat} (hO:F.Ok) (hb:pbN F n<F.bn) (h:Qge F n=false) (hj:F.jk (pbN F n)≠2):Qgea F n (Q6da F (F.ja (pbN F n)) (F.jn (pbN F n)))=jmT F (pbN F n):=by
 have ho:=hO.okJ hb
 simp only[GJump.ok,GFun.jump,GJump.bare,Bool.or_eq_true,Bool.and_eq_true,beq_iff_eq,List.isEmpty_iff] at ho
 have hn:F.jk (pbN F n)≠4->F.jn (pbN F n)=0:=fun g=>by
  have:Q8j (F.jn (pbN F n)) (F.ja (pbN F n))=[]:=by
   rcases ho with ((ho|ho)|ho)|ho
   · exact ho.1.1.1.2.1.2
   · exact absurd ho.1.1.1.1 hj
   · exact ho.1.1.1.2.1.2
   · exact absurd ho.1.1.1.1.1.1.1.1 g
  have:=congrArg List.length this
  rw[Quh] at this
  exact this
 unfold Qgea tgW tgP jmT
 rw[if_neg hj]
 by_cases h4:F.jk (pbN F n)=4
 · simp[h,h4]
 · have h0:=hn h4
   rw[h0]
   by_cases h3:F.jk (pbN F n)=3
   · simp[h,h3,Q6da,GTouch.zero,GPlace.zero]
   · simp[h,h3,h4,Q6da]
theorem Qrga (F:GFun) (w:World) (hF:F.At w) (hO:F.Ok) (n:Nat) (hn:n<stN F.sn F.bn):
 Calls Tryz.prog 178 #[F.val,.int .i64 (.ofNat n)] w (RetR w (Qwa F) (.pt (.one (.rs 0))) [Q4da (ptT F (pbN F n) (piN F n))]):=by
 have hpb:=(Qoc hn).1
 cases hi:Qge F n with
 | true=>
   have hi':piN F n<F.sn (pbN F n):=by unfold Qge at hi;exact of_decide_eq_true hi
   have hs:=Qjga hi
   have hin:StIn F.ln (stAt F n):=by rw[hs];exact Q6ga hO hpb hi'
   have h1 wc (hk:KB ⟨w,[]⟩ wc):=Q2ga F wc (hF.later hk) hO n hn (stAt F n) rfl hi hin.k
   have hop:∀i,i<Qlea (stAt F n)->Qraa F.ln (stG (stAt F n) i):=fun i hi=>by
    have hr:=hin.r
    have ha:=hin.a
    generalize stAt F n=s at hi hr ha hin
    unfold Qlea rvN at hi
    unfold stG rvG
    by_cases k1:s.k=1
    · rw[if_pos k1] at hi⊢
      rcases hr k1 with ⟨g,h⟩|⟨g,h,h'⟩|g|g
      · rw[if_pos g] at hi;rw[if_pos o9];exact h
      · rw[if_neg o9,if_pos g] at hi
        split
        · exact h
        · exact h'
      · rw[if_neg o9,if_neg o9] at hi;omega
      · rw[if_neg o9,if_neg o9] at hi;omega
    · rw[if_neg k1] at hi⊢
      have:=hin.k
      by_cases k3:s.k=3
      · rw[if_pos k3] at hi;omega
      · exact ha o9
   have hn8:Qlea (stAt F n)<=8:=by
    unfold Qlea rvN
    repeat' split
    all_goals omega
   have:=Q7ga F w hF hO n hn (Qlea (stAt F n)) (stG (stAt F n)) hn8 hop h1
   rw[Quga hi hin] at this
   have e:ptT F (pbN F n) (piN F n)=stT F (stAt F n):=by unfold ptT;rw[if_pos hi',hs]
   rw[e];exact this
 | false=>
   have hi':¬piN F n<F.sn (pbN F n):=by unfold Qge at hi;exact of_decide_eq_false hi
   have e:ptT F (pbN F n) (piN F n)=jmT F (pbN F n):=by unfold ptT;rw[if_neg hi']
   rw[e]
   have h1 wc (hk:KB ⟨w,[]⟩ wc):=Q1ga F wc (hF.later hk) hO n hn hi
   by_cases h2:F.jk (pbN F n)=2
   · have:=Q7ga F w hF hO n hn 1 (fun _=>F.jo (pbN F n)) (by decide) (fun _ _=>Qyfa hO hpb h2) (fun wc hk=>(h1 wc hk).1 h2)
     rw[Qsga hi h2] at this
     exact this
   · have:=Qbha F w hF hO n hn (pbN F n) rfl (hO.jn8 hpb) (fun i hi=>?_) (fun wc hk=>(h1 wc hk).2 h2)
     · rw[Qtga hO hpb hi h2] at this
       exact this
     · by_cases h4:F.jk (pbN F n)=4
       · exact Q89 hO hpb h4 hi
       · have ho:=hO.okJ hpb
         simp only[GJump.ok,GFun.jump,GJump.bare,Bool.or_eq_true,Bool.and_eq_true,beq_iff_eq,List.isEmpty_iff] at ho
         have:Q8j (F.jn (pbN F n)) (F.ja (pbN F n))=[]:=by
          rcases ho with ((ho|ho)|ho)|ho
          · exact ho.1.1.1.2.1.2
          · exact absurd ho.1.1.1.1 h2
          · exact ho.1.1.1.2.1.2
          · exact absurd ho.1.1.1.1.1.1.1.1 h4
         have:=congrArg List.length this
         rw[Quh] at this
         simp only[List.length_nil] at this
         omega
end Go.Proofs.YtemnfncbgalljaaGreat
