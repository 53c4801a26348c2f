/- Lemmas. No condition. -/
import Derived.Test.YtemnfncbgalljaaGreatPtA
namespace Go.Proofs.YtemnfncbgalljaaGreat
open Go.RowKit
set_option linter.all false
set_option maxHeartbeats 64000000
section
set_option maxRecDepth 100000
structure GTouch where
 p:GPlace
 w:Bool
 d:Bool
structure GLoan where
 at_:Int
 p:GPlace
 bo:Int
 loc:Int
def GTouch.zero:GTouch:=⟨.zero,false,false⟩
def GTouch.sc (t:GTouch):List SC:=[.int .i64 t.p.l,.bool t.p.d,.int .u8 t.p.f,.bool t.w,.bool t.d]
def GTouch.val (t:GTouch):Value:=.agg #[.int .i64 t.p.l,.bool t.p.d,.int .u8 t.p.f,.bool t.w,.bool t.d]
def GLoan.sc (l:GLoan):List SC:=[.int .i64 l.at_,.int .i64 l.p.l,.bool l.p.d,.int .u8 l.p.f,.int .u8 l.bo,.int .i64 l.loc]
def GLoan.val (l:GLoan):Value:=.agg #[.int .i64 l.at_,.int .i64 l.p.l,.bool l.p.d,.int .u8 l.p.f,.int .u8 l.bo,.int .i64 l.loc]
def Qfea (p q:GPlace):Bool:=p.l==q.l&&p.d==q.d&&(p.f==0||q.f==0||p.f==q.f)
def Qnfa (t l:GPlace):Bool:=wholeP t&&l.d&&l.l==t.l
def conB (t:GTouch) (l:GLoan) (used:Bool):Bool:=
 if Qnfa t.p l.p&&!t.d then t.w&&(l.bo==3&&!used)
 else if !Qfea t.p l.p&&!Qnfa t.p l.p then false else t.w||(l.bo !=1&&!(l.bo==3&&!used))
theorem Qvea {p:GPlace} (h:p.ok=true) (h0:0<=p.f):p.f=0\/p.f=1\/p.f=2:=by
 simp only[GPlace.ok,Bool.and_eq_true,decide_eq_true_eq] at h
 omega
theorem Qgfa {t l:GPlace} (h:Qnfa t l=true):Qfea t l=false:=by
 obtain ⟨a,b,c⟩:=t
 obtain ⟨a',b',c'⟩:=l
 simp only[Qnfa,wholeP,Qfea] at *
 cases b<;>cases b'<;>simp_all
theorem Qhfa (l f:Int) (d:Bool) (h:(GPlace.mk l d f).ok=true) (w:World):
 Calls Tryz.prog 86 #[.agg #[.int .i64 l,.bool d,.int .u8 f]] w (Ret w (.int .i64 0)):=by
 have:=Q6h l f d w
 rw[h] at this
 exact this
theorem Q2da (l f:Int) (d:Bool) (w:World):
 Calls Tryz.prog 102 #[.agg #[.int .i64 l,.bool d,.int .u8 f]] w (Ret w (.bool (wholeP ⟨l,d,f⟩))):=by
 refine Qaa (args:=[.pt (.agg [.int .i64 l,.bool d,.int .u8 f])]) (c:=Qra) Tryz.func102 rfl (Qga _) rfl rfl ?_
 obtain ⟨_,hnd,_,hnt,_,har,_,hcm,_,_,_,_,ar01,ar12,_,hzpl,_,hzjn,_,_,_,_,_,_,hT⟩:=Qca
 repeat' (first
  | refine goa ?_|refine go3 (fun hlt=>?_) (fun hge=>?_)|refine go2 (fun h=>?_) (fun h=>?_)|exact go0|refine goz ?_|refine Qvha ?_ ?_
  | fail)
 all_goals
  subst hnd hnt hcm
  refine Qtb ?_
  grind [wholeP]
def Qefa (f:Int):Int:=if f=0 then 3 else f
theorem Qufa (l f:Int) (d:Bool) (w:World):
 Calls Tryz.prog 161 #[.agg #[.int .i64 l,.bool d,.int .u8 f]] w (Ret w (.int .u8 (Qefa f))):=by
 refine Qaa (args:=[.pt (.agg [.int .i64 l,.bool d,.int .u8 f])]) (c:=Qra) Tryz.func161 rfl (Qga _) rfl rfl ?_
 obtain ⟨_,_,_,hnt,_,har,_,hcm,_,_,_,_,ar01,ar12,_,hzpl,_,hzjn,_,_,_,_,_,_,hT⟩:=Qca
 repeat' (first
  | refine goa ?_|refine go3 (fun hlt=>?_) (fun hge=>?_)|refine go2 (fun h=>?_) (fun h=>?_)|exact go0|refine goz ?_|refine Qvha ?_ ?_
  | fail)
 all_goals
  refine Qyc ?_
  simp_all[Qefa]
theorem Q3ga (l f:Int) (d:Bool) (w:World):
 Calls Tryz.prog 160 #[.agg #[.int .i64 l,.bool d,.int .u8 f]] w (Ret w (.agg #[.int .i64 l,.bool d,.int .u8 0])):=by
 refine Qaa (args:=[.pt (.agg [.int .i64 l,.bool d,.int .u8 f])]) (c:=Qra) Tryz.func160 rfl (Qga _) rfl rfl ?_
 obtain ⟨_,_,_,hnt,_,har,_,hcm,_,_,_,_,ar01,ar12,_,hzpl,_,hzjn,_,_,_,_,_,_,hT⟩:=Qca
 repeat' (first
  | refine goa ?_|refine go3 (fun hlt=>?_) (fun hge=>?_)|refine go2 (fun h=>?_) (fun h=>?_)|exact go0|refine goz ?_|refine Qvha ?_ ?_
  | fail)
 all_goals rfl
theorem Qvfa (p q:GPlace) (hp:p.ok=true) (hq:q.ok=true) (p0:0<=p.f) (q0:0<=q.f) (w:World):
 Calls Tryz.prog 103 #[.agg #[.int .i64 p.l,.bool p.d,.int .u8 p.f],.agg #[.int .i64 q.l,.bool q.d,.int .u8 q.f]] w (Ret w (.tuple #[.bool (Qfea p q),.int .i64 0])):=by
 obtain ⟨l,d,f⟩:=p
 obtain ⟨m,e,g⟩:=q
 simp only at p0 q0⊢
 have hf:=Qvea hp p0
 have hg:=Qvea hq q0
 simp only at hf hg
 clear p0 q0
 obtain ⟨z,hz⟩:=x9 (Qfea ⟨l,d,f⟩ ⟨m,e,g⟩)
 rw[<-hz]
 simp only[Qfea] at hz
 obtain ⟨mf,hmf⟩:=x9 (Qefa f)
 obtain ⟨mg,hmg⟩:=x9 (Qefa g)
 have h3 (wc:World):=Qufa l f d wc
 have h4 (wc:World):=Qufa m g e wc
 refine Qaa (args:=[.pt (.agg [.int .i64 l,.bool d,.int .u8 f]),.pt (.agg [.int .i64 m,.bool e,.int .u8 g])]) (c:=Qra) Tryz.func103 rfl (Qga _) rfl rfl ?_
 obtain ⟨_,hnd,_,hnt,_,har,_,hcm,mx,hmx,_,_,ar01,ar12,_,hzpl,_,hzjn,_,_,_,_,_,_,hT⟩:=Qca
 have hmx0:decide (mx 0 0=0)=true:=by rw[hmx];rfl
 repeat' (first
  | refine goa ?_|refine go3 (fun hlt=>?_) (fun hge=>?_)|refine go2 (fun h=>?_) (fun h=>?_)|exact go0|refine goz ?_|refine Qvha ?_ ?_
  | (refine' Qiha Tryz.call86 ?_ ?_;rotate_left;(·intro wc hbc hxc;exact Qhfa _ _ _ (by first|exact hp|exact hq) wc))
  | refine Qhha Tryz.func159 Tryz.results159 Tryz.call159 ?_
  | (refine' Qiha Tryz.call160 ?_ ?_;rotate_left;(·intro wc hbc hxc;exact Q3ga _ _ _ wc))
  | ((with_reducible apply Q1a (hf:=Tryz.call161));(·(cbv;try rfl));(·intro wc hbc hxc;exact Qufa _ _ _ wc);intro z hz)
  | ((with_reducible apply Q4f (hf:=Tryz.call161));(·(cbv;try rfl));(·intro wc hbc hxc;exact Qufa _ _ _ wc);intro z hz)
  | fail)
 all_goals
  clear hT h3 h4 hmf hmg
  subst hnd hnt har
 all_goals first
  | (refine congrArg (fun b=>Value.tuple #[.bool b,.int .i64 0]) ?_
     have hl:l=m:=by simp at h;exact h.1
     have hd:d=e:=by simp at h;exact h.2
     subst hl hd
     rcases hf with rfl|rfl|rfl<;>rcases hg with rfl|rfl|rfl
     all_goals
      simp only[Qefa] at *
      subst_vars
      simp
      try decide)
  | (refine congrArg (fun b=>Value.tuple #[.bool b,.int .i64 0]) ?_
     rw[hz]
     by_cases hl:l=m
     · by_cases hd:d=e
       · subst hl hd
         simp at h
       · simp[hd]
     · simp[hl])
theorem Qxea (t:GTouch) (x:GLoan) (u:Bool) (ht:t.p.ok=true) (hx:x.p.ok=true) (t0:0<=t.p.f) (x0:0<=x.p.f) (w:World):
 Calls Tryz.prog 69 #[t.val,x.val,.bool u] w (Ret w (.bool (conB t x u))):=by
 have h1 (wc:World):=Qvfa t.p x.p ht hx t0 x0 wc
 have h2 (wc:World):=Q2da t.p.l t.p.f t.p.d wc
 obtain ⟨zo,hzo⟩:=x9 (Qfea t.p x.p)
 obtain ⟨zb,hzb⟩:=x9 (Qnfa t.p x.p)
 obtain ⟨z,hz⟩:=x9 (conB t x u)
 rw[<-hz]
 rw[<-hzo] at h1
 simp only[conB,<-hzo,<-hzb] at hz
 simp only[Qnfa] at hzb
 obtain ⟨zw,hzw⟩:=x9 (wholeP t.p)
 have h2 (wc:World):Calls Tryz.prog 102 #[.agg #[.int .i64 t.p.l,.bool t.p.d,.int .u8 t.p.f]] wc (Ret wc (.bool zw)):=hzw▸h2 wc
 rw[<-hzw] at hzb
 clear ht hx t0 x0 hzo hzw
 obtain ⟨⟨tl,td,tf⟩,tw,te⟩:=t
 obtain ⟨xa,⟨xl,xd,xf⟩,xb,xc⟩:=x
 simp only at h1 h2 hz hzb
 refine Qaa (args:=[.pt (.agg (GTouch.sc _)),.pt (.agg (GLoan.sc _)),.pt (.one (.bool u))]) (c:=Qra) Tryz.func69 rfl (Qga _) rfl rfl ?_
 obtain ⟨_,hnd,_,hnt,_,har,_,hcm,_,_,_,_,ar01,ar12,_,hzpl,_,hzjn,_,_,_,_,_,_,hT⟩:=Qca
 repeat' (first
  | refine goa ?_|refine go3 (fun hlt=>?_) (fun hge=>?_)|refine go2 (fun h=>?_) (fun h=>?_)|exact go0|refine goz ?_|refine Qvha ?_ ?_
  | (refine' Qiha Tryz.call102 ?_ ?_;rotate_left;(·intro wc hbc hxc;exact h2 wc))
  | (refine' Qiha Tryz.call103 ?_ ?_;rotate_left;(·intro wc hbc hxc;exact h1 wc))
  | fail)
 all_goals
  clear hT h1 h2
  subst hnd hnt har
  refine Qtb ?_
 all_goals first|grind|(cases u<;>simp_all)
end
def Q4da (L:List GTouch):ORow:=⟨L.length,5,fun j=>(L.getD j .zero).sc⟩
theorem Qdea (L:List GTouch):Qic [Q4da L]:=⟨fun _ _=>rfl,trivial⟩
theorem Qyda:NilLe (Q4da []):=⟨rfl⟩
theorem Qmfa {cs:List SC} {t:GTouch} {L:List GTouch} (e:L=[t]) (h:Qbc (Qte cs (0+0 * 5) 5) t.sc):RowLe ⟨1,5,fun j=>Qte cs (0+j * 5) 5⟩ (Q4da L):=by
 subst e
 refine ⟨rfl,rfl,fun j hj=>?_⟩
 have hj:j<1:=hj
 obtain rfl:j=0:=by omega
 exact h
theorem Qxda {pl:Nat->Nat->Nat} {jn:Nat->(Nat->List SC)->(Nat->List SC)->Nat->List SC} (hpl:pl=fun x y=>x+y) (hjn:jn=rJn) {n:Nat} {el:Nat->List SC} {L M:List GTouch} {t:GTouch} {cs:List SC} (h:RowLe ⟨n,5,el⟩ (Q4da L)) (e:M=L++[t]) (hc:Qbc (Qte cs (0+0 * 5) 5) t.sc):RowLe ⟨pl n 1,5,jn n el (fun j=>Qte cs (0+j * 5) 5)⟩ (Q4da M):=by
 subst e
 have hn:n=L.length:=h.n
 refine Q7a hpl hjn (by rw[List.length_append,<-hn];rfl) (fun j hj=>?_) ?_
 · have:=h.el j hj
   simp only[Q4da] at this
   rw[show (L++[t]).getD j .zero=L.getD j .zero by simp[List.getD,List.getElem?_append_left (show j<L.length by omega)]]
   exact this
 · rw[hn,show (L++[t]).getD L.length .zero=t by simp[List.getD]]
   exact hc
theorem Qzda {cs:List SC} {t:GTouch} {L:List GTouch} (e:L=[t]) (hl:decide (5<=cs.length)=true) (hf:Qsk cs=true) (hs:Qei cs=true) (h:Qbc (Qte cs (0 * 5) 5) t.sc):BlkLe cs 1 1 (Q4da L):=by
 subst e
 refine ⟨rfl,Nat.le_refl _,by decide,of_decide_eq_true hl,hf,hs,fun j hj=>?_⟩
 have hj:j<1:=hj
 obtain rfl:j=0:=by omega
 exact h
def Qmga (F:GFun) (l:Int):Bool:=decide (3<=F.lk l.toNat)
def Q3da (F:GFun) (p:GPlace):Bool:= !(wholeP p&&Qmga F p.l)
def opT (F:GFun) (o:GOper):List GTouch:=if o.k=2 then [⟨o.p,false,Q3da F o.p⟩] else if o.k=3 then [⟨o.p,true,true⟩] else []
def Q6da (F:GFun) (g:Nat->GOper):Nat->List GTouch
 | 0=>[]
 | i+1=>Q6da F g i++opT F (g i)
def rvT (F:GFun) (r:GRv):List GTouch:=if r.k=1 then opT F r.a else if r.k=2\/r.k=3 then opT F r.a++opT F r.b else [⟨r.p,decide (r.k=5)||decide (r.bo=2),true⟩]
def stT (F:GFun) (s:GStmt):List GTouch:=if s.k=3 then [⟨⟨s.l,false,0⟩,true,false⟩] else if s.k=1 then rvT F s.r++[⟨s.p,true,false⟩] else opT F s.a
def jmT (F:GFun) (b:Nat):List GTouch:=if F.jk b=2 then opT F (F.jo b) else if F.jk b=3 then [⟨.zero,false,true⟩] else if F.jk b=4 then Q6da F (F.ja b) (F.jn b)++[⟨F.jd b,true,false⟩] else []
theorem Q7da (F:GFun) (g:Nat->GOper):∀n,(Q6da F g n).length<=n
 | 0=>Nat.le_refl _
 | n+1=>by
   have:=Q7da F g n
   have h2:(opT F (g n)).length<=1:=by
    unfold opT;split
    · simp
    · split<;>simp
   simp only[Q6da,List.length_append];omega
theorem Qeea {d:Bool} {c:SC} (h:Qre c (.bool d)) {p:GPlace} {w:Bool} {c2:SC} (h2:Qre c2 (.bool w)):Qbc [.int .i64 p.l,.bool p.d,.int .u8 p.f,c2,c] (GTouch.sc ⟨p,w,d⟩):=⟨⟨rfl,rfl⟩,rfl,⟨rfl,rfl⟩,h2,h,trivial⟩
theorem Q9da {p:Prop} (h:p:=by (first|((try with_reducible refine Q8c ?_ ?_ ?_ ?_);all_goals (cbv;(try simp only[true_and,and_true]);(try ((repeat' apply And.intro)<;>(first|trivial|rfl|exact RowLe.rfl' _|decide|(rw[Qda har _ o9];done)|((refine Q0a (by rw[x0,hln];rfl) (fun j hj=>absurd hj (Nat.not_lt_zero _))))|((exact hk3 i (of_decide_eq_true y9)))|((refine hk2 i _ (of_decide_eq_true y9) ?_;first|exact (hd1 _ (hz.symm.trans y9)).symm|(rw[hnt,hcm];exact (hd2 _ (hz.symm.trans y9)).symm)))|((rw[x1 i (of_decide_eq_false y9) (of_decide_eq_false y9)];exact RowLe.rfl' _))|((have haN:i=jn b:=o9;subst haN;exact RowLe.rfl' _))|fail))));done)|fail)):Pf p:=⟨h⟩
theorem Q8ga (F:GFun) (w:World) (hF:F.At w) (hO:F.Ok) (b:Nat) (hb:b<F.bn) (hk:F.jk b=4):
 Calls Tryz.prog 164 #[F.val,.slice (F.jA b) (F.jn b) (F.jc b)] w (RetR w (Qwa F) (.pt (.one (.rs 0))) [Q4da (Q6da F (F.ja b) (F.jn b))]):=by
 have hin:∀i,i<F.jn b->Qraa F.ln (F.ja b i):=fun i hi=>Q89 hO hb hk hi
 have hn8:=hO.jn8 hb
 obtain ⟨X,hX'⟩:=x9 (Q6da F (F.ja b):Nat->List GTouch)
 have x0:X 0=[]:=by rw[hX'];rfl
 have x2:∀i,(F.ja b i).k=2->X (i+1)=X i++[⟨(F.ja b i).p,false,Q3da F (F.ja b i).p⟩]:=fun i h=>by rw[hX'];simp only[Q6da,opT,if_pos h]
 have x3:∀i,(F.ja b i).k=3->X (i+1)=X i++[⟨(F.ja b i).p,true,true⟩]:=fun i h=>by rw[hX'];simp only[Q6da,opT,if_pos h,show ¬(F.ja b i).k=2 by omega,if_false]
 have x1:∀i,(F.ja b i).k≠2->(F.ja b i).k≠3->X (i+1)=X i:=fun i h h'=>by rw[hX'];simp only[Q6da,opT,if_neg h,if_neg h',List.append_nil]
 have xl:∀i,(X i).length<=i:=fun i=>by rw[hX'];exact Q7da _ _ i
 rw[<-hX']
 obtain ⟨ln_,hln⟩:=x9 (List.length:List GTouch->Nat)
 obtain ⟨tc,htc⟩:=x9 (fun L j=>L.getD j .zero:List GTouch->Nat->GTouch)
 have hRX:∀L,Q4da L=⟨ln_ L,5,fun j=>(tc L j).sc⟩:=fun L=>by rw[Q4da,hln,htc]
 have hpt:∀l,Qmga F l=decide (3<=F.lk l.toNat):=fun l=>rfl
 obtain ⟨dp,hdp⟩:=x9 (Q3da F:GPlace->Bool)
 rw[<-hdp] at x2
 have hd1:∀p,wholeP p=false->dp p=true:=fun p h=>by rw[hdp];simp[Q3da,h]
 have hd2:∀p,wholeP p=true->dp p= !decide (3<=F.lk p.l.toNat):=fun p h=>by rw[hdp];simp[Q3da,h,Qmga]
 clear hX' hO hdp hpt
 rw[hRX]
 have xl2:∀i,ln_ (X i)<=i:=fun i=>by rw[hln];exact xl i
 obtain ⟨_,_,_,ln,_,_,_,_,_,_,_,_,sc,_,_,jn,_,ja,_,_,_,_,_,_⟩:=F
 obtain ⟨hX,hl,hb,hs,hj⟩:=hF
 simp only at hl hb hs hj
 simp only at hin hn8 x1 x2 x3 hd2
 refine Qaa (args:=[.pt (.agg (GFun.dat _)),.pt (.one (.xs 3 b))]) (c:=(Qwa _)) Tryz.func164 rfl hX rfl rfl ?_
 obtain ⟨_,_,_,hnt,_,har,_,hcm,_,_,_,_,ar01,ar12,zpl,hzpl,zjn,hzjn,_,_,_,_,_,_,hT⟩:=Qca
 have hk2:∀i c,(ja b i).k=2->Qre c (.bool (dp (ja b i).p))->RowLe ⟨zpl (ln_ (X i)) 1,5,zjn (ln_ (X i)) (fun j=>(tc (X i) j).sc) (fun j=>Qte [.int .i64 (ja b i).p.l,.bool (ja b i).p.d,.int .u8 (ja b i).p.f,.lit false,c] (0+j * 5) 5)⟩ ⟨ln_ (X (i+1)),5,fun j=>(tc (X (i+1)) j).sc⟩:=fun i c h hc=>by
  rw[<-hRX]
  refine Qxda hzpl hzjn (L:=X i) (by rw[hRX];exact RowLe.rfl' _) (x2 i h) ?_
  exact Qeea hc (Qrda _)
 have hk3:∀i,(ja b i).k=3->RowLe ⟨zpl (ln_ (X i)) 1,5,zjn (ln_ (X i)) (fun j=>(tc (X i) j).sc) (fun j=>Qte [.int .i64 (ja b i).p.l,.bool (ja b i).p.d,.int .u8 (ja b i).p.f,.lit true,.lit true] (0+j * 5) 5)⟩ ⟨ln_ (X (i+1)),5,fun j=>(tc (X (i+1)) j).sc⟩:=fun i h=>by
  rw[<-hRX]
  refine Qxda hzpl hzjn (L:=X i) (by rw[hRX];exact RowLe.rfl' _) (x3 i h) ?_
  exact Qeea (Qrda _) (Qrda _)
 have hlo:∀i,i<jn b->(ja b i).k=2->0<=(ja b i).p.l/\(ja b i).p.l<ln:=fun i hi h=>by
  rcases hin i hi with g|g
  · omega
  · exact g.2
 repeat' (first
  | refine goa ?_|refine go3 (fun hlt=>?_) (fun hge=>?_)|refine go2 (fun h=>?_) (fun h=>?_)|exact go0|refine god ?_|refine gof ?_|refine Qvha ?_ ?_
  | ((first|with_reducible apply Qhb hT|with_reducible apply Qna hT);(·(cbv;try rfl));(·(cbv;try rfl));(·exact Q9da);(·exact Q9da);(·rfl))
  | refine gob ?_
  | ((with_reducible refine Q4c ?_ ?_);(·first|((rw[hzpl];exact Nat.le_trans (Nat.add_le_add_right (xl2 i) 1) (show i+1<=1073741824 from by omega)))))
  | ((with_reducible apply Qua (hf:=Tryz.call102));(·(cbv;try rfl));(·intro wc hbc hxc;exact Q2da _ _ _ wc);intro z hz)
  | ((with_reducible apply Qeb (hf:=Tryz.call102));(·(cbv;try rfl));(·intro wc hbc hxc;exact Q2da _ _ _ wc);intro z hz)
  | ((with_reducible apply Qud 5 5);(·(cbv;try rfl)))
  | (((with_reducible apply Qxa);(·exact (hlo i y9 (of_decide_eq_true y9)).1);(·exact (hlo i y9 (of_decide_eq_true y9)).2)))
  | ((with_reducible refine Qgha (σ:={i:Nat // i<=jn b}) (zs9 [7,2,12,38]) (fun x=>[zc9 11 x.1]) (fun x=>[]) (fun x=>[(0,⟨ln_ (X x.1),5,fun j=>(tc (X x.1) j).sc⟩)]) (fun x=>jn b - x.1) ⟨0,by omega⟩ ?_ ?_);(·exact pfp Q9da);(rintro ⟨i,hi⟩ mm hmm))
  | ((with_reducible refine Qfha (⟨i+1,by omega⟩:{i:Nat // i<=jn b}) ?_ ?_);(·exact Nat.lt_of_lt_of_eq (show jn b - (i+1)<jn b - i from by omega) (Eq.symm y9));(·exact pfp Q9da))
  | fail)
theorem Qtda {l f:Int} {q d w:Bool} {c c2:SC} (h:Qre c (.bool d)) (h2:Qre c2 (.bool w)):Qbc [.int .i64 l,.bool q,.int .u8 f,c2,c] (GTouch.sc ⟨⟨l,q,f⟩,w,d⟩):=⟨⟨rfl,rfl⟩,rfl,⟨rfl,rfl⟩,h2,h,trivial⟩
section
variable {pl:Nat->Nat->Nat} {jn:Nat->(Nat->List SC)->(Nat->List SC)->Nat->List SC}
theorem Qaea {c1:List SC} {t1:GTouch} (h1:Qbc (Qte c1 (0+0 * 5) 5) t1.sc):RowLe ⟨1,5,fun j=>Qte c1 (0+j * 5) 5⟩ (Q4da [t1]):=Qmfa rfl h1
theorem Qbea (hpl:pl=fun x y=>x+y) (hjn:jn=rJn) {c1 c2:List SC} {t1 t2:GTouch} (h1:Qbc (Qte c1 (0+0 * 5) 5) t1.sc) (h2:Qbc (Qte c2 (0+0 * 5) 5) t2.sc):RowLe ⟨pl 1 1,5,jn 1 (fun j=>Qte c1 (0+j * 5) 5) (fun j=>Qte c2 (0+j * 5) 5)⟩ (Q4da [t1,t2]):=
 Qxda hpl hjn (Qaea h1) rfl h2
theorem Qhea (hpl:pl=fun x y=>x+y) (hjn:jn=rJn) {c1 c2 c3:List SC} {t1 t2 t3:GTouch} (h1:Qbc (Qte c1 (0+0 * 5) 5) t1.sc) (h2:Qbc (Qte c2 (0+0 * 5) 5) t2.sc) (h3:Qbc (Qte c3 (0+0 * 5) 5) t3.sc):RowLe ⟨pl (pl 1 1) 1,5,jn (pl 1 1) (jn 1 (fun j=>Qte c1 (0+j * 5) 5) (fun j=>Qte c2 (0+j * 5) 5)) (fun j=>Qte c3 (0+j * 5) 5)⟩ (Q4da [t1,t2,t3]):=
 Qxda hpl hjn (Qbea hpl hjn h1 h2) rfl h3
end
theorem Q0da (l f:Int) (d:Bool) {z:Bool} (h:z=wholeP ⟨l,d,f⟩) (w:World):
 Calls Tryz.prog 102 #[.agg #[.int .i64 l,.bool d,.int .u8 f]] w (Ret w (.bool z)):=by
 rw[h];exact Q2da l f d w
theorem Q2fa {p:Prop} (h:p:=by (first|((try with_reducible refine Q8c ?_ ?_ ?_ ?_);all_goals (cbv;(try simp only[true_and,and_true]);(try ((repeat' apply And.intro)<;>(first|trivial|rfl|exact RowLe.rfl' _|decide|(rw[Qda har _ o9];done)|((rw[hR];first|exact Qyda|exact Qzda rfl rfl rfl rfl (Qtda (by first|exact Qrda _|exact Qsda _|exact da1 y9|(rw[hnt,hcm];exact da2 y9)|exact de1 y9|(rw[hnt,hcm];exact de2 y9)|exact dx1 y9|(rw[hnt,hcm];exact dx2 y9)) (by first|exact Qrda _|exact Qsda _))|exact Qaea (Qtda (by first|exact Qrda _|exact Qsda _|exact da1 y9|(rw[hnt,hcm];exact da2 y9)|exact de1 y9|(rw[hnt,hcm];exact de2 y9)|exact dx1 y9|(rw[hnt,hcm];exact dx2 y9)) (by first|exact Qrda _|exact Qsda _))|exact Qbea hzpl hzjn (Qtda (by first|exact Qrda _|exact Qsda _|exact da1 y9|(rw[hnt,hcm];exact da2 y9)|exact de1 y9|(rw[hnt,hcm];exact de2 y9)|exact dx1 y9|(rw[hnt,hcm];exact dx2 y9)) (by first|exact Qrda _|exact Qsda _)) (Qtda (by first|exact Qrda _|exact Qsda _|exact da1 y9|(rw[hnt,hcm];exact da2 y9)|exact de1 y9|(rw[hnt,hcm];exact de2 y9)|exact dx1 y9|(rw[hnt,hcm];exact dx2 y9)) (by first|exact Qrda _|exact Qsda _))|exact Qhea hzpl hzjn (Qtda (by first|exact Qrda _|exact Qsda _|exact da1 y9|(rw[hnt,hcm];exact da2 y9)|exact de1 y9|(rw[hnt,hcm];exact de2 y9)|exact dx1 y9|(rw[hnt,hcm];exact dx2 y9)) (by first|exact Qrda _|exact Qsda _)) (Qtda (by first|exact Qrda _|exact Qsda _|exact da1 y9|(rw[hnt,hcm];exact da2 y9)|exact de1 y9|(rw[hnt,hcm];exact de2 y9)|exact dx1 y9|(rw[hnt,hcm];exact dx2 y9)) (by first|exact Qrda _|exact Qsda _)) (Qtda (by first|exact Qrda _|exact Qsda _|exact da1 y9|(rw[hnt,hcm];exact da2 y9)|exact de1 y9|(rw[hnt,hcm];exact de2 y9)|exact dx1 y9|(rw[hnt,hcm];exact dx2 y9)) (by first|exact Qrda _|exact Qsda _))))|fail))));done)|fail)):Pf p:=⟨h⟩
theorem Qpga (F:GFun) (w:World) (hF:F.At w) (s:GStmt) (hs:s.ok=true) (hin:StIn F.ln s):
 Calls Tryz.prog 104 #[F.val,s.val] w (RetR w (Qwa F) (.pt (.one (.rs 0))) [Q4da (stT F s)]):=by
 have h1 (hk:s.k=1) (wc:World):=Q1z s.r.k s.r.op s.r.bo s.r.a.k s.r.a.n s.r.a.p.l s.r.a.p.f s.r.b.k s.r.b.n s.r.b.p.l s.r.b.p.f s.r.p.l s.r.p.f s.r.a.p.d s.r.b.p.d s.r.p.d wc
 have e1 (hk:s.k=1):(GRv.mk s.r.k s.r.op s.r.bo ⟨s.r.a.k,s.r.a.n,⟨s.r.a.p.l,s.r.a.p.d,s.r.a.p.f⟩⟩ ⟨s.r.b.k,s.r.b.n,⟨s.r.b.p.l,s.r.b.p.d,s.r.b.p.f⟩⟩ ⟨s.r.p.l,s.r.p.d,s.r.p.f⟩).ok=true:=by
  show s.r.ok=true
  simp only[GStmt.ok,Bool.or_eq_true,Bool.and_eq_true,beq_iff_eq] at hs
  grind
 have h1 (hk:s.k=1) (wc:World):=by
  have:=h1 hk wc
  rw[e1 hk] at this
  exact this
 clear e1 hs
 obtain ⟨dp,hdp⟩:=x9 (Q3da F:GPlace->Bool)
 obtain ⟨wa,hwa⟩:=x9 (wholeP s.r.a.p)
 obtain ⟨we,hwe⟩:=x9 (wholeP s.r.b.p)
 obtain ⟨wx,hwx⟩:=x9 (wholeP s.a.p)
 have hd1:∀{p z},z=wholeP p->z=false->true=dp p:=fun {p z} e h=>by rw[hdp];simp[Q3da,<-e,h]
 have hd2:∀{p z},z=wholeP p->z=true->(!decide (3<=F.lk p.l.toNat))=dp p:=fun {p z} e h=>by rw[hdp];simp[Q3da,<-e,h,Qmga]
 have da1:=hd1 hwa
 have da2:=hd2 hwa
 have de1:=hd1 hwe
 have de2:=hd2 hwe
 have dx1:=hd1 hwx
 have dx2:=hd2 hwx
 clear hd1 hd2
 obtain ⟨L,hL⟩:=x9 (stT F s)
 obtain ⟨R,hR⟩:=x9 (Q4da (stT F s))
 rw[<-hR]
 rw[<-hL] at hR
 simp only[stT,rvT,opT,<-hdp] at hL
 clear hdp
 have hk:=hin.k
 have hr:=hin.r
 have ha:=hin.a
 clear hin
 obtain ⟨yk,⟨ql,qd,qf⟩,⟨rk,ro,rb,⟨ak,an,⟨al,ad,af⟩⟩,⟨ek,en,⟨el,ed,ef⟩⟩,⟨gl,gd,gf⟩⟩,⟨ck,cn,⟨cl,cd,cf⟩⟩,yl⟩:=s
 obtain ⟨_,_,_,_,_,_,_,_,_,_,_,_,sc,_,_,jn,_,_,_,_,_,_,_,_⟩:=F
 obtain ⟨hX,hl,hb,hs,hj⟩:=hF
 simp only at hl hb hs hj
 simp only at h1 da1 da2 de1 de2 dx1 dx2 hwa hwe hwx hL hk hr ha
 rcases hk with rfl|rfl|rfl|rfl
 all_goals
  try have hr:=hr rfl
  try have hx:=ha (.inl rfl)
  try have hx:=ha (.inr rfl)
  clear ha
  try rcases hr with ⟨rfl,hx⟩|⟨rfl|rfl,hx,hy⟩|rfl|rfl
 all_goals
  try rcases hx with hx|⟨hx|hx,hx0,hx1⟩
 all_goals
  try rcases hy with hy|⟨hy|hy,hy0,hy1⟩
 all_goals
  try (simp only at hx;subst hx)
  try (simp only at hy;subst hy)
  simp at hL
  subst hL
  refine Qaa (args:=[.pt (.agg (GFun.dat _)),.pt (.agg (GStmt.sc _))]) (c:=(Qwa _)) Tryz.func104 rfl hX rfl rfl ?_
  obtain ⟨_,_,_,hnt,_,har,_,hcm,_,_,_,_,ar01,ar12,_,hzpl,_,hzjn,_,_,_,_,_,_,hT⟩:=Qca
  repeat' (first
   | (refine gov ?_;(try simp only[ar01,ar12]))
   | refine goa ?_|refine go3 (fun hlt=>?_) (fun hge=>?_)|refine go2 (fun h=>?_) (fun h=>?_)|exact go0|refine god ?_|refine gof ?_|refine Qvha ?_ ?_
   | ((first|with_reducible apply Qhb hT|with_reducible apply Qna hT);(·(cbv;try rfl));(·(cbv;try rfl));(·exact Q2fa);(·exact Q2fa);(·rfl))
   | refine gob ?_
   | ((with_reducible refine Q4c ?_ ?_);(·first|((subst hzpl;exact Nat.le_of_ble_eq_true rfl))))
   | (refine' Qiha Tryz.call167 ?_ ?_;rotate_left;(·intro wc hbc hxc;exact h1 rfl wc))
   | refine Qhha Tryz.func163 Tryz.results163 Tryz.call163 ?_
   | refine Qhha Tryz.func221 Tryz.results221 Tryz.call221 ?_
   | refine Qhha Tryz.func164 Tryz.results164 Tryz.call164 ?_
   | refine Qhha Tryz.func162 Tryz.results162 Tryz.call162 ?_
   | (refine' Qiha Tryz.call102 ?_ ?_;rotate_left;(·intro wc hbc hxc;exact Q0da _ _ _ (by first|exact hwa|exact hwe|exact hwx) wc))
   | (with_reducible apply Qqa 4)
   | (((with_reducible apply Qxa);(·first|exact hx0|exact hy0);(·first|exact hx1|exact hy1)))
   | (fail)
   | fail)
theorem Q9fa {p:Prop} (h:p:=by (first|((try with_reducible refine Q8c ?_ ?_ ?_ ?_);all_goals (cbv;(try simp only[true_and,and_true]);(try ((repeat' apply And.intro)<;>(first|trivial|rfl|exact RowLe.rfl' _|decide|(rw[Qda har _ o9];done)|((rw[hR];exact Qyda))|fail))));done)|fail)):Pf p:=⟨h⟩
theorem Qaga {p:Prop} (h:p:=by (first|((try with_reducible refine Q8c ?_ ?_ ?_ ?_);all_goals (cbv;(try simp only[true_and,and_true]);(try ((repeat' apply And.intro)<;>(first|trivial|rfl|exact RowLe.rfl' _|decide|(rw[Qda har _ o9];done)|((rw[hR];first|exact Qyda|exact Qaea (Qtda (by first|exact Qrda _|exact Qsda _|exact dx1 y9|(rw[hnt,hcm];exact dx2 y9)) (by first|exact Qrda _|exact Qsda _))))|fail))));done)|fail)):Pf p:=⟨h⟩
theorem Qbga {p:Prop} (h:p:=by (first|((try with_reducible refine Q8c ?_ ?_ ?_ ?_);all_goals (cbv;(try simp only[true_and,and_true]);(try ((repeat' apply And.intro)<;>(first|trivial|rfl|exact RowLe.rfl' _|decide|(rw[Qda har _ o9];done)|((rw[hR];exact Qzda rfl rfl rfl rfl (Qtda (Qrda _) (Qrda _))))|fail))));done)|fail)):Pf p:=⟨h⟩
theorem Qcga {p:Prop} (h:p:=by (first|((try with_reducible refine Q8c ?_ ?_ ?_ ?_);all_goals (cbv;(try simp only[true_and,and_true]);(try ((repeat' apply And.intro)<;>(first|trivial|rfl|exact RowLe.rfl' _|decide|(rw[Qda har _ o9];done)|((exact hfin))|fail))));done)|fail)):Pf p:=⟨h⟩
theorem Qkga (F:GFun) (w:World) (hF:F.At w) (hO:F.Ok) (b:Nat) (hb:b<F.bn):
 Calls Tryz.prog 105 #[F.val,Q6z F b] w (RetR w (Qwa F) (.pt (.one (.rs 0))) [Q4da (jmT F b)]):=by
 have hx (h:F.jk b=2):=Qyfa hO hb h
 have h4 (h:F.jk b=4) (wc:World) (hk:KB ⟨w,[]⟩ wc):=Q8ga F wc (hF.later hk) hO b hb h
 have hjk:F.jk b=1\/F.jk b=2\/F.jk b=3\/F.jk b=4\/F.jk b=5:=by
  have:=hO.okJ hb
  simp only[GJump.ok,GFun.jump,Bool.or_eq_true,Bool.and_eq_true,beq_iff_eq] at this
  omega
 obtain ⟨dp,hdp⟩:=x9 (Q3da F:GPlace->Bool)
 obtain ⟨wx,hwx⟩:=x9 (wholeP (F.jo b).p)
 have dx1:wx=false->true=dp (F.jo b).p:=fun h=>by rw[hdp];simp[Q3da,<-hwx,h]
 have dx2:wx=true->(!decide (3<=F.lk (F.jo b).p.l.toNat))=dp (F.jo b).p:=fun h=>by rw[hdp];simp[Q3da,<-hwx,h,Qmga]
 obtain ⟨L,hL⟩:=x9 (jmT F b)
 obtain ⟨R,hR⟩:=x9 (Q4da (jmT F b))
 rw[<-hR]
 rw[<-hL] at hR
 have hn8:=Q7da F (F.ja b) (F.jn b)
 have hjn:=hO.jn8 hb
 obtain ⟨A,hA⟩:=x9 (Q6da F (F.ja b) (F.jn b))
 obtain ⟨na,hna⟩:=x9 (A.length)
 obtain ⟨ta,hta⟩:=x9 (fun j=>A.getD j .zero:Nat->GTouch)
 have hRA:Q4da A=⟨na,5,fun j=>(ta j).sc⟩:=by rw[Q4da,hna,hta]
 simp only[jmT,opT,<-hdp,<-hA] at hL
 rw[<-hA,hRA] at h4
 rw[<-hA,<-hna] at hn8
 have hn9:na<=8:=by omega
 clear hdp hO hA hna hta hn8 hjn
 obtain ⟨_,_,_,_,_,_,_,_,_,_,_,_,sc,_,_,jn,_,_,jk,jo,jf,jx,je,jd⟩:=F
 obtain ⟨hX,hl,hb,hs,hj⟩:=hF
 simp only at hl hb hs hj
 simp only at hx h4 hjk dx1 dx2 hL hwx
 obtain ⟨ck,hck⟩:=x9 (jk b)
 obtain ⟨⟨ok,on,⟨ol,od,of⟩⟩,hco⟩:∃o,o=jo b:=⟨_,rfl⟩
 simp only[<-hck,<-hco] at hx hjk dx1 dx2 hL hwx h4
 rcases hjk with rfl|rfl|rfl|rfl|rfl
 · simp at hL
   subst hL
   refine Qaa (args:=[.pt (.agg (GFun.dat _)),.pt (.agg [.int .u8 (jk b),.int .u8 (jo b).k,.int .i64 (jo b).n,.int .i64 (jo b).p.l,.bool (jo b).p.d,.int .u8 (jo b).p.f,.int .i64 (jf b),.int .i64 (jx b),.int .i64 (je b),.xs 3 b,.int .i64 (jd b).l,.bool (jd b).d,.int .u8 (jd b).f])]) (c:=(Qwa _)) Tryz.func105 rfl hX rfl rfl ?_
   obtain ⟨_,_,_,hnt,_,har,_,hcm,_,_,_,_,ar01,ar12,zpl,hzpl,zjn,hzjn,_,_,_,_,_,_,hT⟩:=Qca
   rw[<-hck,<-hco]
   repeat' (first
    | refine goa ?_|refine go3 (fun hlt=>?_) (fun hge=>?_)|refine go2 (fun h=>?_) (fun h=>?_)|exact go0|refine goz ?_|refine Qvha ?_ ?_
    | ((first|with_reducible apply Qhb hT|with_reducible apply Qna hT);(·(cbv;try rfl));(·(cbv;try rfl));(·exact Q9fa);(·exact Q9fa);(·rfl))
    | fail)
 · rcases hx rfl with hx|⟨hx|hx,hx0,hx1⟩<;>simp only at hx<;>subst hx
   all_goals
    simp at hL
    subst hL
    refine Qaa (args:=[.pt (.agg (GFun.dat _)),.pt (.agg [.int .u8 (jk b),.int .u8 (jo b).k,.int .i64 (jo b).n,.int .i64 (jo b).p.l,.bool (jo b).p.d,.int .u8 (jo b).p.f,.int .i64 (jf b),.int .i64 (jx b),.int .i64 (je b),.xs 3 b,.int .i64 (jd b).l,.bool (jd b).d,.int .u8 (jd b).f])]) (c:=(Qwa _)) Tryz.func105 rfl hX rfl rfl ?_
    obtain ⟨_,_,_,hnt,_,har,_,hcm,_,_,_,_,ar01,ar12,zpl,hzpl,zjn,hzjn,_,_,_,_,_,_,hT⟩:=Qca
    rw[<-hck,<-hco]
    repeat' (first
     | (refine gov ?_;(try simp only[ar01,ar12]))
     | refine goa ?_|refine go3 (fun hlt=>?_) (fun hge=>?_)|refine go2 (fun h=>?_) (fun h=>?_)|exact go0|refine goz ?_|refine Qvha ?_ ?_
     | ((first|with_reducible apply Qhb hT|with_reducible apply Qna hT);(·(cbv;try rfl));(·(cbv;try rfl));(·exact Qaga);(·exact Qaga);(·rfl))
     | refine Qhha Tryz.func164 Tryz.results164 Tryz.call164 ?_
     | (refine' Qiha Tryz.call102 ?_ ?_;rotate_left;(·intro wc hbc hxc;exact Q0da _ _ _ (by exact hwx) wc))
     | (with_reducible apply Qqa 4)
     | (((with_reducible apply Qxa);(·exact hx0);(·exact hx1)))
     | (fail)
     | fail)
 · simp at hL
   subst hL
   refine Qaa (args:=[.pt (.agg (GFun.dat _)),.pt (.agg [.int .u8 (jk b),.int .u8 (jo b).k,.int .i64 (jo b).n,.int .i64 (jo b).p.l,.bool (jo b).p.d,.int .u8 (jo b).p.f,.int .i64 (jf b),.int .i64 (jx b),.int .i64 (je b),.xs 3 b,.int .i64 (jd b).l,.bool (jd b).d,.int .u8 (jd b).f])]) (c:=(Qwa _)) Tryz.func105 rfl hX rfl rfl ?_
   obtain ⟨_,_,_,hnt,_,har,_,hcm,_,_,_,_,ar01,ar12,zpl,hzpl,zjn,hzjn,_,_,_,_,_,_,hT⟩:=Qca
   rw[<-hck,<-hco]
   repeat' (first
    | refine goa ?_|refine go3 (fun hlt=>?_) (fun hge=>?_)|refine go2 (fun h=>?_) (fun h=>?_)|exact go0|refine goz ?_|refine Qvha ?_ ?_
    | ((first|with_reducible apply Qhb hT|with_reducible apply Qna hT);(·(cbv;try rfl));(·(cbv;try rfl));(·exact Qbga);(·exact Qbga);(·rfl))
    | fail)
 · simp at hL
   subst hL
   refine Qaa (args:=[.pt (.agg (GFun.dat _)),.pt (.agg [.int .u8 (jk b),.int .u8 (jo b).k,.int .i64 (jo b).n,.int .i64 (jo b).p.l,.bool (jo b).p.d,.int .u8 (jo b).p.f,.int .i64 (jf b),.int .i64 (jx b),.int .i64 (je b),.xs 3 b,.int .i64 (jd b).l,.bool (jd b).d,.int .u8 (jd b).f])]) (c:=(Qwa _)) Tryz.func105 rfl hX rfl rfl ?_
   obtain ⟨_,_,_,hnt,_,har,_,hcm,_,_,_,_,ar01,ar12,zpl,hzpl,zjn,hzjn,_,_,_,_,_,_,hT⟩:=Qca
   rw[<-hck,<-hco]
   have h4:=h4 rfl
   have hfin:RowLe ⟨zpl na 1,5,zjn na (fun j=>(ta j).sc) (fun j=>Qte [.int .i64 (jd b).l,.bool (jd b).d,.int .u8 (jd b).f,.lit true,.lit false] (0+j * 5) 5)⟩ R:=by
    rw[hR]
    exact Qxda hzpl hzjn (L:=A) (by rw[hRA];exact RowLe.rfl' _) rfl (Qeea (Qrda _) (Qrda _))
   have hna9:zpl na 1<=1073741824:=by rw[hzpl];show na+1<=_;omega
   clear hRA hR
   repeat' (first
    | refine goa ?_|refine go3 (fun hlt=>?_) (fun hge=>?_)|refine go2 (fun h=>?_) (fun h=>?_)|exact go0|refine god ?_|refine gof ?_|refine Qvha ?_ ?_
    | ((first|with_reducible apply Qhb hT|with_reducible apply Qna hT);(·(cbv;try rfl));(·(cbv;try rfl));(·exact Qcga);(·exact Qcga);(·rfl))
    | refine gob ?_
    | ((with_reducible refine Q4c ?_ ?_);(·first|((exact hna9))))
    | ((with_reducible apply Qoa (hf:=Tryz.call164));(·intro S;cbv;try rfl);(·intro wc S hbc hxc hrc;exact h4 wc hbc);(·rfl))
    | refine Qhha Tryz.func162 Tryz.results162 Tryz.call162 ?_
    | (fail)
    | fail)
 · simp at hL
   subst hL
   refine Qaa (args:=[.pt (.agg (GFun.dat _)),.pt (.agg [.int .u8 (jk b),.int .u8 (jo b).k,.int .i64 (jo b).n,.int .i64 (jo b).p.l,.bool (jo b).p.d,.int .u8 (jo b).p.f,.int .i64 (jf b),.int .i64 (jx b),.int .i64 (je b),.xs 3 b,.int .i64 (jd b).l,.bool (jd b).d,.int .u8 (jd b).f])]) (c:=(Qwa _)) Tryz.func105 rfl hX rfl rfl ?_
   obtain ⟨_,_,_,hnt,_,har,_,hcm,_,_,_,_,ar01,ar12,zpl,hzpl,zjn,hzjn,_,_,_,_,_,_,hT⟩:=Qca
   rw[<-hck,<-hco]
   repeat' (first
    | refine goa ?_|refine go3 (fun hlt=>?_) (fun hge=>?_)|refine go2 (fun h=>?_) (fun h=>?_)|exact go0|refine goz ?_|refine Qvha ?_ ?_
    | ((first|with_reducible apply Qhb hT|with_reducible apply Qna hT);(·(cbv;try rfl));(·(cbv;try rfl));(·exact Q9fa);(·exact Q9fa);(·rfl))
    | fail)
def ptT (F:GFun) (b i:Nat):List GTouch:=if i<F.sn b then stT F (F.s b i) else jmT F b
theorem Qxfa (F:GFun) (w:World) (hF:F.At w) (hO:F.Ok) (b i:Nat) (hbb:b<F.bn):
 Calls Tryz.prog 70 #[F.val,.agg #[.int .i64 (.ofNat b),.int .i64 (.ofNat i)]] w (RetR w (Qwa F) (.pt (.one (.rs 0))) [Q4da (ptT F b i)]):=by
 have h1 (hi:i<F.sn b) (wc:World) (hk:KB ⟨w,[]⟩ wc):=Qpga F wc (hF.later hk) (F.s b i) (hO.okS hbb hi) (Q6ga hO hbb hi)
 have h2 wc (hk:KB ⟨w,[]⟩ wc):=Qkga F wc (hF.later hk) hO b hbb
 have hs24:=hO.sn24 hbb
 by_cases hi:i<F.sn b
 · have h1:=h1 hi
   have e:ptT F b i=stT F (F.s b i):=by unfold ptT;rw[if_pos hi]
   rw[e]
   obtain ⟨R,hR⟩:=x9 (Q4da (stT F (F.s b i)))
   rw[<-hR] at h1⊢
   clear h2 e hR hO
   obtain ⟨pa,un,lA,ln,lc,lk,lt,bA,bn,bc,sA,sn,sc,s,jA,jn,jc,ja,jk,jo,jf,jx,je,jd⟩:=F
   obtain ⟨hX,hl,hb,hs,hj⟩:=hF
   simp only at hl hb hs hj
   simp only at h1 hi hbb hs24
   refine Qaa (args:=[.pt (.agg (GFun.dat _)),.pt (.agg [.int .i64 (.ofNat b),.int .i64 (.ofNat i)])]) (c:=(Qwa _)) Tryz.func70 rfl hX rfl rfl ?_
   obtain ⟨_,_,_,hnt,_,har,cm,hcm,_,_,_,_,ar01,ar12,_,hzpl,_,hzjn,_,_,_,_,_,_,hT⟩:=Qca
   have hq:cm .lss (.ofNat i) (.ofNat (sn b))=true:=by rw[hcm];exact decide_eq_true (Int.ofNat_lt.2 hi)
   repeat' (first
    | refine goa ?_|refine go3 (fun hlt=>?_) (fun hge=>?_)|refine go2 (fun h=>?_) (fun h=>?_)|exact go0|refine Qz9 ?_|refine gof ?_|refine gob ?_|refine Qvha ?_ ?_
    | ((with_reducible apply Qoa (hf:=Tryz.call104));(·intro S;cbv;try rfl);(·intro wc S hbc hxc hrc;exact h1 wc hbc);(·rfl))
    | (((with_reducible apply Qxa);(·exact Int.natCast_nonneg _);(·exact Int.ofNat_lt.2 y9)))
    | fail)
 · have e:ptT F b i=jmT F b:=by unfold ptT;rw[if_neg hi]
   rw[e]
   obtain ⟨R,hR⟩:=x9 (Q4da (jmT F b))
   rw[<-hR] at h2⊢
   clear h1 e hR hO
   obtain ⟨pa,un,lA,ln,lc,lk,lt,bA,bn,bc,sA,sn,sc,s,jA,jn,jc,ja,jk,jo,jf,jx,je,jd⟩:=F
   obtain ⟨hX,hl,hb,hs,hj⟩:=hF
   simp only at hl hb hs hj
   simp only at h2 hi hbb hs24
   refine Qaa (args:=[.pt (.agg (GFun.dat _)),.pt (.agg [.int .i64 (.ofNat b),.int .i64 (.ofNat i)])]) (c:=(Qwa _)) Tryz.func70 rfl hX rfl rfl ?_
   obtain ⟨_,_,_,hnt,_,har,cm,hcm,_,_,_,_,ar01,ar12,_,hzpl,_,hzjn,_,_,_,_,_,_,hT⟩:=Qca
   have hq:cm .lss (.ofNat i) (.ofNat (sn b))=false:=by rw[hcm];exact decide_eq_false (fun g=>hi (Int.ofNat_lt.1 g))
   repeat' (first
    | refine goa ?_|refine go3 (fun hlt=>?_) (fun hge=>?_)|refine go2 (fun h=>?_) (fun h=>?_)|exact go0|refine Qz9 ?_|refine gof ?_|refine gob ?_|refine Qvha ?_ ?_
    | ((with_reducible apply Qoa (hf:=Tryz.call105));(·intro S;cbv;try rfl);(·intro wc S hbc hxc hrc;exact h2 wc hbc);(·rfl))
    | (((with_reducible apply Qxa);(·exact Int.natCast_nonneg _);(·exact Int.ofNat_lt.2 y9)))
    | fail)
end Go.Proofs.YtemnfncbgalljaaGreat
