/- Lemmas. No condition. -/
import Derived.Test.YtemnfncbgalljabPtA
namespace Go.Proofs.Ytemnfncbgalljab
open Go.RowKit
set_option linter.all false
set_option maxRecDepth 100000
set_option maxHeartbeats 64000000
structure GDeed where
 l:Int
 rd:Bool
 st:Bool
 un:Bool
def GDeed.zero:GDeed:=⟨0,false,false,false⟩
def GDeed.sc (d:GDeed):List SC:=[.int .i64 d.l,.bool d.rd,.bool d.st,.bool d.un]
def deR (L:List GDeed):ORow:=⟨L.length,4,fun j=>(L.getD j .zero).sc⟩
theorem Qona (L:List GDeed):Qic [deR L]:=⟨fun _ _=>rfl,trivial⟩
theorem Q9ka:NilLe (deR []):=⟨rfl⟩
theorem Q1ma {cs:List SC} {t:GDeed} {L:List GDeed} (e:L=[t]) (h:Qbc (Qte cs (0+0 * 4) 4) t.sc):RowLe ⟨1,4,fun j=>Qte cs (0+j * 4) 4⟩ (deR L):=by
 subst e
 refine ⟨rfl,rfl,fun j hj=>?_⟩
 have hj:j<1:=hj
 obtain rfl:j=0:=by omega
 exact h
theorem Qtka {pl:Nat->Nat->Nat} {jn:Nat->(Nat->List SC)->(Nat->List SC)->Nat->List SC} (hpl:pl=fun x y=>x+y) (hjn:jn=rJn) {n:Nat} {el:Nat->List SC} {L M:List GDeed} {t:GDeed} {cs:List SC} (h:RowLe ⟨n,4,el⟩ (deR L)) (e:M=L++[t]) (hc:Qbc (Qte cs (0+0 * 4) 4) t.sc):RowLe ⟨pl n 1,4,jn n el (fun j=>Qte cs (0+j * 4) 4)⟩ (deR M):=by
 subst e
 have hn:n=L.length:=h.n
 refine Q7a hpl hjn (by rw[List.length_append,<-hn];rfl) (fun j hj=>?_) ?_
 · have:=h.el j hj
   simp only[deR] at this
   rw[show (L++[t]).getD j .zero=L.getD j .zero by simp[List.getD,List.getElem?_append_left (show j<L.length by omega)]]
   exact this
 · rw[hn,show (L++[t]).getD L.length .zero=t by simp[List.getD]]
   exact hc
theorem Qyla {cs:List SC} {t:GDeed} {L:List GDeed} (e:L=[t]) (hl:decide (4<=cs.length)=true) (hf:Qsk cs=true) (hs:Qei cs=true) (h:Qbc (Qte cs (0 * 4) 4) t.sc):BlkLe cs 1 1 (deR L):=by
 subst e
 refine ⟨rfl,Nat.le_refl _,by decide,of_decide_eq_true hl,hf,hs,fun j hj=>?_⟩
 have hj:j<1:=hj
 obtain rfl:j=0:=by omega
 exact h
section
variable {pl:Nat->Nat->Nat} {jn:Nat->(Nat->List SC)->(Nat->List SC)->Nat->List SC}
theorem Qmna {c1:List SC} {t1:GDeed} (h1:Qbc (Qte c1 (0+0 * 4) 4) t1.sc):RowLe ⟨1,4,fun j=>Qte c1 (0+j * 4) 4⟩ (deR [t1]):=Q1ma rfl h1
theorem Qnna (hpl:pl=fun x y=>x+y) (hjn:jn=rJn) {c1 c2:List SC} {t1 t2:GDeed} (h1:Qbc (Qte c1 (0+0 * 4) 4) t1.sc) (h2:Qbc (Qte c2 (0+0 * 4) 4) t2.sc):RowLe ⟨pl 1 1,4,jn 1 (fun j=>Qte c1 (0+j * 4) 4) (fun j=>Qte c2 (0+j * 4) 4)⟩ (deR [t1,t2]):=
 Qtka hpl hjn (Qmna h1) rfl h2
theorem Q6na (hpl:pl=fun x y=>x+y) (hjn:jn=rJn) {c1 c2 c3:List SC} {t1 t2 t3:GDeed} (h1:Qbc (Qte c1 (0+0 * 4) 4) t1.sc) (h2:Qbc (Qte c2 (0+0 * 4) 4) t2.sc) (h3:Qbc (Qte c3 (0+0 * 4) 4) t3.sc):RowLe ⟨pl (pl 1 1) 1,4,jn (pl 1 1) (jn 1 (fun j=>Qte c1 (0+j * 4) 4) (fun j=>Qte c2 (0+j * 4) 4)) (fun j=>Qte c3 (0+j * 4) 4)⟩ (deR [t1,t2,t3]):=
 Qtka hpl hjn (Qnna hpl hjn h1 h2) rfl h3
end
def opD (o:GOper):List GDeed:=if o.k=1 then [] else [⟨o.p.l,true,false,decide (o.k=3)⟩]
def Qkka (g:Nat->GOper):Nat->List GDeed
 | 0=>[]
 | i+1=>Qkka g i++opD (g i)
def rvD (r:GRv):List GDeed:=if r.k=1 then opD r.a else if r.k=2\/r.k=3 then opD r.a++opD r.b else [⟨r.p.l,true,false,false⟩]
def wrD (p:GPlace):GDeed:=⟨p.l,!Q6a p,Q6a p,false⟩
def stD (s:GStmt):List GDeed:=if s.k=3 then [⟨s.l,false,false,true⟩] else if s.k=1 then rvD s.r++[wrD s.p] else opD s.a
def jmD (F:GFun) (b:Nat):List GDeed:=if F.jk b=2 then opD (F.jo b) else if F.jk b=3 then [⟨0,true,false,false⟩] else if F.jk b=4 then Qkka (F.ja b) (F.jn b)++[wrD (F.jd b)] else []
theorem Qyka (o:GOper):(opD o).length<=1:=by unfold opD;split<;>simp
theorem Quka (g:Nat->GOper):∀n,(Qkka g n).length<=n
 | 0=>Nat.le_refl _
 | n+1=>by
   have:=Quka g n
   have h2:=Qyka (g n)
   simp only[Qkka,List.length_append];omega
def ptD (F:GFun) (b i:Nat):List GDeed:=if i<F.sn b then stD (F.s b i) else jmD F b
theorem Qaka {l:Int} {a b c:Bool} {x y z:SC} (h:Qre x (.bool a)) (h2:Qre y (.bool b)) (h3:Qre z (.bool c)):Qbc [.int .i64 l,x,y,z] (GDeed.sc ⟨l,a,b,c⟩):=⟨⟨rfl,rfl⟩,h,h2,h3,trivial⟩
theorem Q6la {p:Prop} (h:p:=by (first|((try with_reducible refine Q8c ?_ ?_ ?_ ?_);all_goals (cbv;(try simp only[true_and,and_true]);(try ((repeat' apply And.intro)<;>(first|trivial|rfl|exact RowLe.rfl' _|decide|(rw[Qda har _ o9];done)|((refine Q0a (by rw[x0,hln];rfl) (fun j hj=>absurd hj (Nat.not_lt_zero _))))|((exact hk2 i _ (of_decide_eq_false y9) rfl))|((rw[x1 i (of_decide_eq_true y9)];exact RowLe.rfl' _))|((have haN:i=jn b:=o9;subst haN;exact RowLe.rfl' _))|fail))));done)|fail)):Pf p:=⟨h⟩
theorem Q0oa (F:GFun) (w:World) (hF:F.At w) (b:Nat) (hn8:F.jn b<=8):
 Calls Try.prog 89 #[.slice (F.jA b) (F.jn b) (F.jc b)] w (RetR w (Qwa F) (.pt (.one (.rs 0))) [deR (Qkka (F.ja b) (F.jn b))]):=by
 obtain ⟨X,hX'⟩:=x9 (Qkka (F.ja b):Nat->List GDeed)
 have x0:X 0=[]:=by rw[hX'];rfl
 have x1:∀i,(F.ja b i).k=1->X (i+1)=X i:=fun i h=>by rw[hX'];simp only[Qkka,opD,if_pos h,List.append_nil]
 have x2:∀i,(F.ja b i).k≠1->X (i+1)=X i++[⟨(F.ja b i).p.l,true,false,decide ((F.ja b i).k=3)⟩]:=fun i h=>by rw[hX'];simp only[Qkka,opD,if_neg h]
 have xl:∀i,(X i).length<=i:=fun i=>by rw[hX'];exact Quka _ i
 rw[<-hX']
 obtain ⟨ln_,hln⟩:=x9 (List.length:List GDeed->Nat)
 obtain ⟨tc,htc⟩:=x9 (fun L j=>L.getD j .zero:List GDeed->Nat->GDeed)
 have hRX:∀L,deR L=⟨ln_ L,4,fun j=>(tc L j).sc⟩:=fun L=>by rw[deR,hln,htc]
 clear hX'
 rw[hRX]
 have xl2:∀i,ln_ (X i)<=i:=fun i=>by rw[hln];exact xl i
 obtain ⟨_,_,_,_,_,_,_,_,_,_,_,_,sc,_,_,jn,_,ja,_,_,_,_,_,_⟩:=F
 obtain ⟨hX,hl,hb,hs,hj⟩:=hF
 simp only at hl hb hs hj
 simp only at hn8 x1 x2
 refine Qaa (args:=[.pt (.one (.xs 3 b))]) (c:=(Qwa _)) Try.func89 rfl hX rfl rfl ?_
 obtain ⟨_,_,_,hnt,_,har,_,hcm,_,_,_,_,ar01,ar12,zpl,hzpl,zjn,hzjn,_,_,_,_,_,_,hT⟩:=Qca
 have hk2:∀i c,(ja b i).k≠1->Qre c (.bool (decide ((ja b i).k=3)))->RowLe ⟨zpl (ln_ (X i)) 1,4,zjn (ln_ (X i)) (fun j=>(tc (X i) j).sc) (fun j=>Qte [.int .i64 (ja b i).p.l,.lit true,.lit false,c] (0+j * 4) 4)⟩ ⟨ln_ (X (i+1)),4,fun j=>(tc (X (i+1)) j).sc⟩:=fun i c h hc=>by
  rw[<-hRX]
  refine Qtka hzpl hzjn (L:=X i) (by rw[hRX];exact RowLe.rfl' _) (x2 i h) ?_
  exact Qaka (Qrda _) (Qrda _) hc
 repeat' (first
  | refine go1 ?_|refine go3 (fun hlt=>?_) (fun hge=>?_)|refine go2 (fun h=>?_) (fun h=>?_)|refine gof ?_
  | exact gor (ha:=Q6la) (hb:=Q6la)
  | refine gob ?_
  | ((with_reducible refine Q4c ?_ ?_);(·first|((rw[hzpl];exact Nat.le_trans (Nat.add_le_add_right (xl2 i) 1) (show i+1<=1073741824 from by omega)))))
  | ((with_reducible apply Qud 3 4);(·(cbv;try rfl)))
  | ((with_reducible refine Qgha (σ:={i:Nat // i<=jn b}) (zs9 [5,1,9,17]) (fun x=>[zc9 8 x.1]) (fun x=>[]) (fun x=>[(0,⟨ln_ (X x.1),4,fun j=>(tc (X x.1) j).sc⟩)]) (fun x=>jn b - x.1) ⟨0,by omega⟩ ?_ ?_);(·exact pfp Q6la);(rintro ⟨i,hi⟩ mm hmm))
  | ((with_reducible refine Qfha (⟨i+1,by omega⟩:{i:Nat // i<=jn b}) ?_ ?_);(·exact Nat.lt_of_lt_of_eq (show jn b - (i+1)<jn b - i from by omega) (Eq.symm y9));(·exact pfp Q6la))
  | fail)
end Go.Proofs.Ytemnfncbgalljab
