/- Lemmas. No condition. -/
import Derived.Test.YtemnfncbgalljaaGreatV6
namespace Go.Proofs.YtemnfncbgalljaaGreat
open Go.RowKit
set_option linter.all false
set_option maxHeartbeats 64000000
theorem Q5v (t:Nat):∀l:List (GPlace×Bool),Qqh t l<=Qtl t l
 | []=>Nat.le_refl _
 | q::l=>by
   have:=Q5v t l
   simp only[Qqh,Qtl]
   by_cases h:q.1.l=(t:Int)/\q.2=true/\q.1.d=false/\q.1.f=0
   · rw[if_pos h,if_pos h.1];omega
   · rw[if_neg h];split<;>omega
structure TwN (t:Nat) (x:TS) (a p s d e:Nat):Prop where
 a1:x.c.1 t=(a:Int)
 p1:x.c.2 t=(p:Int)
 s1:x.sets t=(s:Int)
 ad:p+d<=a
 de:s+e<=d
 is:1<=d->x.is t=true
theorem TwN.st {t:Nat} {x:TS} {a p s d e:Nat} (H:TwN t x a p s d e) {S:GStmt} (hs:S.ok=true) (ha:a+3<=900000):
 ∃a' p' s' d' e',a'<=a+3/\e<=e'/\TwN t (Q7j x S) a' p' s' d' e'/\(Qqi S=true->S.p.l=(t:Int)->wholeP S.p=false->1<=e'):=by
 have hl:=Qik S
 have hca:=Qwi t (Q3e S)
 have hcp:=Q5v t (Q3e S)
 have hp:=H.ad
 have hd:=H.de
 have hc:=Qrq t (Q3e S) x.c a p H.a1 H.p1 o9 o9
 have e1:(Q7j x S).c.1 t=((a+Qtl t (Q3e S):Nat):Int):=by
  show (Qlf cE x.c S).1 t=_
  rw[Qvg];exact hc.1
 have e2:(Q7j x S).c.2 t=((p+Qqh t (Q3e S):Nat):Int):=by
  show (Qlf cE x.c S).2 t=_
  rw[Qvg];exact hc.2
 by_cases h2:Qqi S=true
 · have hk:S.k=1/\S.r.k=4:=by
    simp only[Qqi,Bool.and_eq_true,beq_iff_eq] at h2
    exact h2.1
   have hst:Q3e S=[(S.p,false),(S.r.p,false)]:=by
    unfold Q3e
    rw[if_neg o9,if_neg o9,if_pos hk.1,if_pos (.inl hk.2)]
   have hp0:=((Qff hs).2.2 hk.1).1
   have hq:Qqh t (Q3e S)=0/\(S.p.l=(t:Int)->1<=Qtl t (Q3e S)):=by
    rw[hst]
    refine ⟨by simp[Qqh],fun h=>?_⟩
    simp only[Qtl,if_pos h];omega
   by_cases g:S.p.l=(t:Int)
   · have gt:S.p.l.toNat=t:=by omega
     have hq2:=hq.2 g
     have ei:(Q7j x S).is t=true:=by
      show (if Qqi S=true then turn x.is S.p.l.toNat true else x.is) t=true
      rw[if_pos h2,gt];simp[turn]
     by_cases hb:Qbq S=true
     · have es:(Q7j x S).sets t=((s+1:Nat):Int):=by
        show (if Qbq S=true then turn x.sets S.p.l.toNat (rAr .add .i64 (x.sets S.p.l.toNat) 1) else x.sets) t=_
        rw[if_pos hb,gt]
        simp only[turn,if_true]
        rw[H.s1];exact Q0m o9
       refine ⟨_,_,s+1,d+1,e,?_,Nat.le_refl _,⟨e1,e2,es,by omega,by omega,fun _=>ei⟩,fun _ _ hw=>?_⟩
       · omega
       · simp only[Qbq,Bool.and_eq_true,Bool.not_eq_true',decide_eq_true_eq,decide_eq_false_iff_not] at hb
         simp[wholeP,hb.1.1.2,hb.1.2] at hw
     · have es:(Q7j x S).sets t=(s:Int):=by
        show (if Qbq S=true then _ else x.sets) t=_
        rw[if_neg hb];exact H.s1
       exact ⟨_,_,s,d+1,e+1,by omega,by omega,⟨e1,e2,es,by omega,by omega,fun _=>ei⟩,fun _ _ _=>by omega⟩
   · have gt:¬t=S.p.l.toNat:=by omega
     have ei:(Q7j x S).is t=x.is t:=by
      show (if Qqi S=true then turn x.is S.p.l.toNat true else x.is) t=_
      rw[if_pos h2];simp only[turn,if_neg gt]
     have es:(Q7j x S).sets t=(s:Int):=by
      show (if Qbq S=true then turn x.sets S.p.l.toNat (rAr .add .i64 (x.sets S.p.l.toNat) 1) else x.sets) t=_
      split
      · simp only[turn,if_neg gt];exact H.s1
      · exact H.s1
     exact ⟨_,_,s,d,e,by omega,Nat.le_refl _,⟨e1,e2,es,by omega,hd,fun h=>ei.trans (H.is h)⟩,fun _ h _=>absurd h g⟩
 · have hb:¬Qbq S=true:=fun h=>h2 (by
    simp only[Qbq,Bool.and_eq_true] at h
    exact h.1.1.1)
   have ei:(Q7j x S).is t=x.is t:=by
    show (if Qqi S=true then _ else x.is) t=_
    rw[if_neg h2]
   have es:(Q7j x S).sets t=(s:Int):=by
    show (if Qbq S=true then _ else x.sets) t=_
    rw[if_neg hb];exact H.s1
   exact ⟨_,_,s,d,e,by omega,Nat.le_refl _,⟨e1,e2,es,by omega,hd,fun h=>ei.trans (H.is h)⟩,fun h _ _=>absurd h h2⟩
theorem TwN.sts {t:Nat} {x:TS} {a p s d e:Nat} (H:TwN t x a p s d e) {S:Nat->GStmt}:∀{n:Nat},(∀i,i<n->(S i).ok=true)->a+3 * n<=900000->
 ∃a' p' s' d' e',a'<=a+3 * n/\e<=e'/\TwN t (Qwm S n x) a' p' s' d' e'/\∀i,i<n->Qqi (S i)=true->(S i).p.l=(t:Int)->wholeP (S i).p=false->1<=e'
 | 0,_,_=>⟨a,p,s,d,e,by omega,Nat.le_refl _,H,fun i hi=>by omega⟩
 | n+1,hs,ha=>by
   obtain ⟨a',p',s',d',e',h1,h2,h3,h4⟩:=H.sts (n:=n) (fun i hi=>hs i o9) o9
   obtain ⟨a2,p2,s2,d2,e2,g1,g2,g3,g4⟩:=h3.st (hs n o9) o9
   refine ⟨a2,p2,s2,d2,e2,by omega,by omega,g3,fun i hi k1 k2 k3=>?_⟩
   rcases Nat.lt_or_eq_of_le (Nat.le_of_lt_succ hi) with h|rfl
   · have:=h4 i h k1 k2 k3;omega
   · exact g4 k1 k2 k3
theorem TwN.all {F:GFun} (hv:Qed F.bn (Qjc F)=true) (hs:∀b,b<F.bn->F.sn b<=24) (hb:F.bn<=24) (t:Nat):∀b,b<=F.bn->
 ∃a p s d e,a<=81 * b/\TwN t (Qke F b) a p s d e/\∀b' i,b'<b->i<F.sn b'->Qqi (F.s b' i)=true->(F.s b' i).p.l=(t:Int)->wholeP (F.s b' i).p=false->1<=e
 | 0,_=>⟨0,0,0,0,0,by omega,⟨rfl,rfl,rfl,Nat.le_refl _,Nat.le_refl _,fun h=>by omega⟩,fun b' i h=>by omega⟩
 | b+1,h=>by
   obtain ⟨a,p,s,d,e,h1,h2,h3⟩:=TwN.all hv hs hb t b o9
   have hvb:=Qla.1 hv b o9
   simp only[Qjc,Bool.and_eq_true] at hvb
   have hsb:=hs b o9
   obtain ⟨a2,p2,s2,d2,e2,g1,g2,g3,g4⟩:=h2.sts (S:=F.s b) (n:=F.sn b) (fun i hi=>Qla.1 hvb.1 i hi) o9
   have hn:=Qy0 hvb.2
   have hjl:=Qun (F.jk b) (F.jo b) (F.jd b) (F.jn b) (F.ja b)
   have hca:=Qwi t (Qpi (F.jk b) (F.jo b) (F.jd b) (F.jn b) (F.ja b))
   have hcp:=Q5v t (Qpi (F.jk b) (F.jo b) (F.jd b) (F.jn b) (F.ja b))
   have hp:=g3.ad
   have hc:=Qrq t (Qpi (F.jk b) (F.jo b) (F.jd b) (F.jn b) (F.ja b)) _ a2 p2 g3.a1 g3.p1 o9 o9
   refine ⟨a2+Qtl t (Qpi (F.jk b) (F.jo b) (F.jd b) (F.jn b) (F.ja b)),p2+Qqh t (Qpi (F.jk b) (F.jo b) (F.jd b) (F.jn b) (F.ja b)),s2,d2,e2,?_,⟨(?_:(Qld cE _ _ _ _ _ _).1 t=_),(?_:(Qld cE _ _ _ _ _ _).2 t=_),g3.s1,?_,g3.de,g3.is⟩,fun b' i hb' hi k1 k2 k3=>?_⟩
   rotate_left
   · rw[Qmg];exact hc.1
   · rw[Qmg];exact hc.2
   · omega
   · rcases Nat.lt_or_eq_of_le (Nat.le_of_lt_succ hb') with h|rfl
     · have:=h3 b' i h hi k1 k2 k3;omega
     · exact g4 i hi k1 k2 k3
   · omega
theorem Qxz {F:GFun} (hO:F.Ok) {b i:Nat} (hb:b<F.bn) (hi:i<F.sn b) (h:Qqi (F.s b i)=true):wholeP (F.s b i).p=true:=by
 cases hw:wholeP (F.s b i).p with
 | true=>rfl
 | false=>
   exfalso
   have hk:(F.s b i).k=1:=by
    simp only[Qqi,Bool.and_eq_true,beq_iff_eq] at h
    exact h.1.1
   have hp0:=((Qff (hO.okS hb hi)).2.2 hk).1
   obtain ⟨a,p,s,d,e,_,H,hB⟩:=TwN.all hO.valid (fun b hb=>hO.sn24 hb) hO.bn24 (F.s b i).p.l.toNat F.bn (Nat.le_refl _)
   have he:=hB b i hb hi h o9 hw
   have h2:=hO.twos
   unfold Qmo Qn5 at h2
   have h3:=Qla.1 h2 (F.s b i).p.l.toNat o9
   have hd:=H.de
   have ha:=H.ad
   rw[H.is o9] at h3
   simp only[Bool.true_and,Bool.not_eq_true',Bool.or_eq_false_iff,Bool.not_eq_false',decide_eq_true_eq,H.a1,H.p1,H.s1] at h3
   omega
section
set_option maxRecDepth 100000
def lnL (F:GFun) (a:Nat):Int:=if wholeP (stAt F a).p=true then (stAt F a).p.l else -1
def lpN (F:GFun) (j:Nat):Nat:=(Qia F (stN F.sn F.bn)).getD j 0
def lnC (F:GFun):Nat:=(Qia F (stN F.sn F.bn)).length
def lnR (F:GFun):ORow:=⟨lnC F,6,fun j=>[.int .i64 (.ofNat (lpN F j)),.int .i64 (stAt F (lpN F j)).r.p.l,.bool (stAt F (lpN F j)).r.p.d,.int .u8 (stAt F (lpN F j)).r.p.f,.int .u8 (stAt F (lpN F j)).r.bo,.int .i64 (lnL F (lpN F j))]⟩
theorem Qwx (F:GFun):Qic [lnR F]:=⟨fun _ _=>rfl,trivial⟩
theorem Qlj {F:GFun} {a:Nat} (h1:Qge F a=true) (h2:(stAt F a).k=1) (h3:(stAt F a).r.k=4):(Qia F (a+1)).length=(Qia F a).length+1:=by
 simp only[Qia]
 rw[if_pos ⟨h1,h2,h3⟩];simp
theorem Qkj {F:GFun} {a:Nat} (h:¬(Qge F a=true/\(stAt F a).k=1/\(stAt F a).r.k=4)):(Qia F (a+1)).length=(Qia F a).length:=by
 simp only[Qia]
 rw[if_neg h];simp
theorem Q6k {F:GFun}:∀{n j:Nat},j<(Qia F n).length->(Qia F n).getD j 0<n/\Qge F ((Qia F n).getD j 0)=true/\(stAt F ((Qia F n).getD j 0)).k=1/\(stAt F ((Qia F n).getD j 0)).r.k=4/\(Qia F ((Qia F n).getD j 0)).length=j
 | 0,j,h=>by simp[Qia] at h
 | n+1,j,h=>by
   by_cases g:j<(Qia F n).length
   · have ih:=Q6k g
     have e:(Qia F (n+1)).getD j 0=(Qia F n).getD j 0:=by simp only[Qia];exact Qme _ _ _ g
     rw[e]
     exact ⟨by omega,ih.2⟩
   · by_cases c:Qge F n=true/\(stAt F n).k=1/\(stAt F n).r.k=4
     · have h2:=Qlj c.1 c.2.1 c.2.2
       have ej:j=(Qia F n).length+0:=by omega
       have e:(Qia F (n+1)).getD j 0=n:=by
        simp only[Qia]
        rw[if_pos c,ej,Q8d];rfl
       rw[e]
       exact ⟨by omega,c.1,c.2.1,c.2.2,by omega⟩
     · have:=Qkj c
       omega
theorem Q77 {F:GFun} {a:Nat} (ha:a<stN F.sn F.bn) (h1:Qge F a=true) (h2:(stAt F a).k=1) (h3:(stAt F a).r.k=4):lpN F (Qia F a).length=a:=(Qng h1 h2 h3 _ ha).2
theorem Qhm {F:GFun} {j:Nat} (h:j<lnC F):lpN F j<stN F.sn F.bn/\Qge F (lpN F j)=true/\(stAt F (lpN F j)).k=1/\(stAt F (lpN F j)).r.k=4:=by
 have:=Q6k (F:=F) (n:=stN F.sn F.bn) (j:=j) h
 exact ⟨this.1,this.2.1,this.2.2.1,this.2.2.2.1⟩
theorem Qfo {F:GFun} {a:Nat} (h:Qge F a=true):piN F a<F.sn (pbN F a)/\stAt F a=F.s (pbN F a) (piN F a):=by
 have h:=Q7c.1 h
 exact ⟨h,by unfold stAt;rw[if_pos h]⟩
theorem Qzn {F:GFun} (hO:F.Ok) {j:Nat} (h:j<lnC F) (hb:(stAt F (lpN F j)).r.bo=3):0<=lnL F (lpN F j)/\lnL F (lpN F j)<F.ln:=by
 obtain ⟨h1,h2,h3,h4⟩:=Qhm h
 obtain ⟨h5,h6⟩:=Qfo h2
 have hb2:=(Qoc h1).1
 rw[h6] at h3 h4 hb
 have hw:=Qxz hO hb2 h5 (by simp[Qqi,h3,h4,hb])
 have hn:=hO.nearS _ _ hb2 h5 h3
 unfold lnL
 rw[h6,if_pos hw]
 exact hn.1
theorem Q6g {p:Prop} (h:p:=by (first|((try with_reducible refine Q8c ?_ ?_ ?_ ?_);all_goals (cbv;(try simp only[true_and,and_true]);(try ((repeat' apply And.intro)<;>(first|trivial|rfl|exact RowLe.rfl' _|decide|(rw[Qda har _ o9];done)|((refine Q0a q0.symm (fun j hj=>absurd hj (Nat.not_lt_zero _))))|((rw[Qda har a o9];done))|((rw[q2 a (fun g=>hnk a y9 g.1)];exact RowLe.rfl' _))|((rw[q2 a (fun g=>of_decide_eq_false y9 g.2.1)];exact RowLe.rfl' _))|((rw[q2 a (fun g=>of_decide_eq_false y9 g.2.2)];exact RowLe.rfl' _))|((exact hst a _ y9 (hne a y9 y9) (of_decide_eq_true y9) (of_decide_eq_true y9) (hl1 a (hne a y9 y9) y9 (of_decide_eq_true y9))))|((exact hst a _ y9 (hne a y9 y9) (of_decide_eq_true y9) (of_decide_eq_true y9) (hl2 a (hne a y9 y9) (.inl y9))))|((exact hst a _ y9 (hne a y9 y9) (of_decide_eq_true y9) (of_decide_eq_true y9) (hl2 a (hne a y9 y9) (.inr (of_decide_eq_false y9)))))|((have haN:a=N:=o9;subst haN;exact RowLe.rfl' _))|fail))));done)|fail)):Pf p:=⟨h⟩
theorem Q7s (F:GFun) (w:World) (hF:F.At w) (hO:F.Ok):
 Calls Tryz.prog 52 #[F.val] w (RetR w (Qwa F) (.tup [.one (.rs 0),.one (.int .i64 0)]) [lnR F]):=by
 have h1 wc (hk:KB ⟨w,[]⟩ wc):=hO.chk wc (hF.later hk)
 have h2 wc (hk:KB ⟨w,[]⟩ wc):=Q7h F wc (hF.later hk) hO
 have hN9:=hO.pts
 have hq0:∀a,(Qia F a).length<=a:=Qxb F
 have hm:∀a,a<stN F.sn F.bn->pbN F a<F.bn/\piN F a<=F.sn (pbN F a):=fun a ha=>⟨(Qoc ha).1,(Qoc ha).2.1⟩
 have hq1:∀a,a<stN F.sn F.bn->piN F a<F.sn (pbN F a)->(F.s (pbN F a) (piN F a)).k=1->(F.s (pbN F a) (piN F a)).r.k=4->(Qia F (a+1)).length=(Qia F a).length+1/\lpN F (Qia F a).length=a:=fun a ha g1 g2 g3=>by
  have e:Qge F a=true:=Q7c.2 g1
  rw[<-(Qfo e).2] at g2 g3
  exact ⟨Qlj e g2 g3,Q77 ha e g2 g3⟩
 have hq2:∀a,¬(piN F a<F.sn (pbN F a)/\(F.s (pbN F a) (piN F a)).k=1/\(F.s (pbN F a) (piN F a)).r.k=4)->(Qia F (a+1)).length=(Qia F a).length:=fun a g=>Qkj (fun h=>g (by
  rw[(Qfo h.1).2] at h
  exact ⟨Q7c.1 h.1,h.2⟩))
 have hel:∀a,piN F a<F.sn (pbN F a)->stAt F a=F.s (pbN F a) (piN F a):=fun a h=>(Qfo (Q7c.2 h)).2
 obtain ⟨N,hN⟩:=x9 (stN F.sn F.bn)
 obtain ⟨pb,hpb⟩:=x9 (pbN F:N9z)
 obtain ⟨pi,hpi⟩:=x9 (piN F:N9z)
 obtain ⟨q,hq⟩:=x9 (fun a=>(Qia F a).length:N9z)
 obtain ⟨lp,hlp⟩:=x9 (lpN F:N9z)
 obtain ⟨el,hel1⟩:=x9 (fun a=>(stAt F a).r.p.l:I9z)
 obtain ⟨ed,hed1⟩:=x9 (fun a=>(stAt F a).r.p.d:B9z)
 obtain ⟨ef,hef1⟩:=x9 (fun a=>(stAt F a).r.p.f:I9z)
 obtain ⟨eb,heb1⟩:=x9 (fun a=>(stAt F a).r.bo:I9z)
 obtain ⟨lo,hlo1⟩:=x9 (lnL F:I9z)
 have hR:ptR (Qgb F.sn F.bn)=⟨N,2,fun j=>[.int .i64 (.ofNat (pb j)),.int .i64 (.ofNat (pi j))]⟩:=by rw[ptR,Q6b,hN,hpb,hpi];rfl
 rw[hR] at h2
 have hR2:lnR F=⟨q N,6,fun j=>[.int .i64 (.ofNat (lp j)),.int .i64 (el (lp j)),.bool (ed (lp j)),.int .u8 (ef (lp j)),.int .u8 (eb (lp j)),.int .i64 (lo (lp j))]⟩:=by rw[lnR,lnC,hq,hN,hlp,hel1,hed1,hef1,heb1,hlo1]
 rw[hR2]
 have q0:q 0=0:=by rw[hq];rfl
 have q9:∀a,q a<=a:=by rw[hq];exact hq0
 have q1:∀a,a<N->pi a<F.sn (pb a)->(F.s (pb a) (pi a)).k=1->(F.s (pb a) (pi a)).r.k=4->q (a+1)=q a+1/\lp (q a)=a:=by rw[hq,hN,hpb,hpi,hlp];exact hq1
 have q2:∀a,¬(pi a<F.sn (pb a)/\(F.s (pb a) (pi a)).k=1/\(F.s (pb a) (pi a)).r.k=4)->q (a+1)=q a:=by rw[hq,hpb,hpi];exact hq2
 have hb1:∀a,a<N->pb a<F.bn:=fun a ha=>by rw[hpb];exact (hm a (hN▸ha)).1
 have hi1:∀a,a<N->pi a<=F.sn (pb a):=fun a ha=>by rw[hpb,hpi];exact (hm a (hN▸ha)).2
 have hE:∀a,pi a<F.sn (pb a)->el a=(F.s (pb a) (pi a)).r.p.l/\ed a=(F.s (pb a) (pi a)).r.p.d/\ef a=(F.s (pb a) (pi a)).r.p.f/\eb a=(F.s (pb a) (pi a)).r.bo:=fun a h=>by
  rw[hpb,hpi] at h⊢
  rw[hel1,hed1,hef1,heb1]
  simp only[hel a h]
  exact ⟨trivial,trivial,trivial,trivial⟩
 have hl1:∀a,pi a<F.sn (pb a)->(F.s (pb a) (pi a)).p.d=false->(F.s (pb a) (pi a)).p.f=0->lo a=(F.s (pb a) (pi a)).p.l:=fun a h g1 g2=>by
  rw[hpb,hpi] at h g1 g2⊢
  rw[hlo1,lnL,hel a h,if_pos (by simp[wholeP,g1,g2])]
 have hl2:∀a,pi a<F.sn (pb a)->(F.s (pb a) (pi a)).p.d=true\/(F.s (pb a) (pi a)).p.f≠0->lo a= -1:=fun a h g=>by
  rw[hpb,hpi] at h g
  rw[hlo1,lnL,hel a h,if_neg (by rcases g with g|g<;>simp[wholeP,g])]
 rw[<-hN] at hN9
 clear hR hR2 hm hN hpb hpi hq hlp hel1 hed1 hef1 heb1 hlo1 hel hq0 hq1 hq2 hO
 obtain ⟨_,_,_,ln,_,_,_,_,bn,_,_,sn,_,s,_,_,_,_,_,_,_,_,_,_⟩:=F
 obtain ⟨hX,hl,hb,hs,hj⟩:=hF
 simp only at hl hb hs hj
 simp only at h1 h2 hb1 hi1 q1 q2 hE hl1 hl2
 have hne:∀a,a<N->decide (Int.ofNat (pi a)=Int.ofNat (sn (pb a)))=false->pi a<sn (pb a):=fun a ha h=>by
  have h1:=hi1 a ha
  have h2:¬Int.ofNat (pi a)=Int.ofNat (sn (pb a)):=of_decide_eq_false h
  simp only[Int.ofNat_eq_natCast] at h2
  omega
 have hnk:∀a,decide (Int.ofNat (pi a)=Int.ofNat (sn (pb a)))=true->¬pi a<sn (pb a):=fun a h=>by
  have h2:Int.ofNat (pi a)=Int.ofNat (sn (pb a)):=of_decide_eq_true h
  simp only[Int.ofNat_eq_natCast] at h2
  omega
 refine Qaa (args:=[.pt (.agg (GFun.dat _))]) (c:=(Qwa _)) Tryz.func52 rfl hX rfl rfl ?_
 obtain ⟨_,_,_,hnt,_,har,_,hcm,_,_,_,_,ar01,ar12,zpl,hzpl,zjn,hzjn,_,_,_,_,_,_,hT⟩:=Qca
 have hst:∀a (x:Int),a<N->pi a<sn (pb a)->(s (pb a) (pi a)).k=1->(s (pb a) (pi a)).r.k=4->lo a=x->RowLe ⟨zpl (q a) 1,6,zjn (q a) (fun j=>[.int .i64 (.ofNat (lp j)),.int .i64 (el (lp j)),.bool (ed (lp j)),.int .u8 (ef (lp j)),.int .u8 (eb (lp j)),.int .i64 (lo (lp j))]) (fun j=>Qte [.int .i64 (.ofNat a),.int .i64 (s (pb a) (pi a)).r.p.l,.bool (s (pb a) (pi a)).r.p.d,.int .u8 (s (pb a) (pi a)).r.p.f,.int .u8 (s (pb a) (pi a)).r.bo,.int .i64 x] (0+j * 6) 6)⟩ ⟨q (a+1),6,fun j=>[.int .i64 (.ofNat (lp j)),.int .i64 (el (lp j)),.bool (ed (lp j)),.int .u8 (ef (lp j)),.int .u8 (eb (lp j)),.int .i64 (lo (lp j))]⟩:=fun a x ha g1 g2 g3 hx=>by
  obtain ⟨e1,e2⟩:=q1 a ha g1 g2 g3
  obtain ⟨e3,e4,e5,e6⟩:=hE a g1
  refine Q7a hzpl hzjn e1 (fun j hj=>Qpa _) ?_
  rw[e2,e3,e4,e5,e6,hx]
  exact Qpa _
 repeat' (first
  | refine goa ?_|refine go3 (fun hlt=>?_) (fun hge=>?_)|refine go2 (fun h=>?_) (fun h=>?_)|exact go0|refine god ?_|refine gof ?_|refine Qvha ?_ ?_
  | ((first|with_reducible apply Qhb hT|with_reducible apply Qna hT);(·(cbv;try rfl));(·(cbv;try rfl));(·exact Q6g);(·exact Q6g);(·rfl))
  | refine gob ?_
  | ((with_reducible refine Q4c ?_ ?_);(·first|((rw[hzpl];exact Nat.le_trans (Nat.add_le_add_right (q9 a) 1) (show a+1<=1073741824 from by omega)))))
  | (refine' Qiha Tryz.call85 ?_ ?_;rotate_left;(·intro wc hbc hxc;exact h1 wc hbc))
  | ((with_reducible apply Qoa (hf:=Tryz.call67));(·intro S;cbv;try rfl);(·intro wc S hbc hxc hrc;exact h2 wc hbc);(·rfl))
  | ((with_reducible apply Qud 7 6);(·(cbv;try rfl)))
  | ((with_reducible refine Qgha (σ:={a:Nat // a<=N}) (zs9 [8,5,29,58]) (fun x=>[zc9 28 x.1]) (fun x=>[]) (fun x=>[(1,⟨q x.1,6,fun j=>[.int .i64 (.ofNat (lp j)),.int .i64 (el (lp j)),.bool (ed (lp j)),.int .u8 (ef (lp j)),.int .u8 (eb (lp j)),.int .i64 (lo (lp j))]⟩)]) (fun x=>N - x.1) ⟨0,by omega⟩ ?_ ?_);(·exact pfp Q6g);(rintro ⟨a,ha⟩ mm hmm))
  | (((with_reducible apply Qxa);(·exact Int.natCast_nonneg _);(·have q:=hb1 a y9;show ((pb a:Nat):Int)<_;omega)))
  | (((with_reducible apply Qxa);(·exact Int.natCast_nonneg _);(·have q:=hne a y9 y9;show ((pi a:Nat):Int)<_;omega)))
  | ((with_reducible refine Qfha (⟨a+1,Nat.succ_le_of_lt y9⟩:{a:Nat // a<=N}) ?_ ?_);(·exact msr o9 y9);(·exact pfp Q6g))
  | fail)
theorem Q6ea (F:GFun) (w:World) (hF:F.At w) (hz:fchkV F≠0):
 Calls Tryz.prog 52 #[F.val] w (Ret w (.tuple #[.slice none 0 0,.int .i64 (fchkV F)])):=by
 have h1 wc (hk:KB ⟨w,[]⟩ wc):=Qn7 F wc (hF.later hk)
 generalize fchkV F=z at h1 hz⊢
 have hq:decide (z=0)=false:=decide_eq_false hz
 clear hz
 obtain ⟨_,_,_,ln,_,_,_,_,bn,_,_,sn,_,s,_,_,_,_,_,_,_,_,_,_⟩:=F
 obtain ⟨hX,hl,hb,hs,hj⟩:=hF
 simp only at hl hb hs hj
 refine Qaa (args:=[.pt (.agg (GFun.dat _))]) (c:=(Qwa _)) Tryz.func52 rfl hX rfl rfl ?_
 obtain ⟨_,_,_,hnt,_,har,_,hcm,_,_,_,_,ar01,ar12,_,hzpl,_,_,_,_,_,_,_,_,hT⟩:=Qca
 repeat' (first
  | refine goa ?_|refine go3 (fun hlt=>?_) (fun hge=>?_)|refine go2 (fun h=>?_) (fun h=>?_)|exact go0|refine goz ?_|refine Qvha ?_ ?_
  | (refine' Qiha Tryz.call85 ?_ ?_;rotate_left;(·intro wc hbc hxc;exact h1 wc hbc))
  | fail)
 all_goals rfl
end
def Qqf (F:GFun) (k n:Nat):Bool:=(stAt F (lpN F k)).r.p.d&&decide (smN F n=(stAt F (lpN F k)).r.p.l)
theorem Q7g {p:Prop} (h:p:=by (first|((try with_reducible refine Q8c ?_ ?_ ?_ ?_);all_goals (cbv;(try simp only[true_and,and_true]);(try ((repeat' apply And.intro)<;>(first|trivial|rfl|exact RowLe.rfl' _|decide|(rw[Qda har _ o9];done)|((exact Q0a rfl (fun j hj=>⟨(k0 j).symm,trivial⟩)))|((rw[Qda har a o9];done))|((exact hs1 a y9))|((exact hs2 a y9))|((have haN:a=N:=o9;subst haN;exact Q0a rfl (fun j hj=>⟨k4 j hj,trivial⟩)))|fail))));done)|fail)):Pf p:=⟨h⟩
theorem Qz0 (F:GFun) (w:World) (hF:F.At w) (hO:F.Ok) (hD:F.Fd) (k:Nat) (hk:k<lnC F):
 Calls Tryz.prog 138 #[F.val,.int .i64 (.ofNat k)] w (RetR w (Qwa F) (.tup [.one (.rs 0),.one (.int .i64 0)]) [⟨stN F.sn F.bn,1,fun j=>[.bool (Qqf F k j)]⟩]):=by
 have h10 wc (hk:KB ⟨w,[]⟩ wc):=Q7s F wc (hF.later hk) hO
 have h2 wc (hk:KB ⟨w,[]⟩ wc):=Q7h F wc (hF.later hk) hO
 have h30 wc (hk:KB ⟨w,[]⟩ wc) (a:Nat) (ha:a<stN F.sn F.bn):=Qy2 F wc (hF.later hk) hO hD a ha
 have hN9:=hO.pts
 obtain ⟨N,hN⟩:=x9 (stN F.sn F.bn)
 obtain ⟨P,hP⟩:=x9 (lnC F)
 obtain ⟨pb,hpb⟩:=x9 (pbN F:N9z)
 obtain ⟨pi,hpi⟩:=x9 (piN F:N9z)
 obtain ⟨lp,hlp⟩:=x9 (lpN F:N9z)
 obtain ⟨el,hel⟩:=x9 (fun j=>(stAt F (lpN F j)).r.p.l:I9z)
 obtain ⟨ed,hed⟩:=x9 (fun j=>(stAt F (lpN F j)).r.p.d:B9z)
 obtain ⟨ef,hef⟩:=x9 (fun j=>(stAt F (lpN F j)).r.p.f:I9z)
 obtain ⟨eb,heb⟩:=x9 (fun j=>(stAt F (lpN F j)).r.bo:I9z)
 obtain ⟨lo,hlo⟩:=x9 (fun j=>lnL F (lpN F j):I9z)
 obtain ⟨um,hum⟩:=x9 (umN F:N9z)
 obtain ⟨sm,hsm⟩:=x9 (smN F:I9z)
 obtain ⟨kb,hkb⟩:=x9 (Qqf F k:B9z)
 obtain ⟨kz,hkz⟩:=x9 (fun i j=>decide (j<i)&&Qqf F k j:B9y)
 have hR:ptR (Qgb F.sn F.bn)=⟨N,2,fun j=>[.int .i64 (.ofNat (pb j)),.int .i64 (.ofNat (pi j))]⟩:=by rw[ptR,Q6b,hN,hpb,hpi];rfl
 rw[hR] at h2
 have h1 wc (hk:KB ⟨w,[]⟩ wc):Calls Tryz.prog 52 #[F.val] wc (RetR wc (Qwa F) (.tup [.one (.rs 0),.one (.int .i64 0)]) [⟨P,6,fun j=>[.int .i64 (.ofNat (lp j)),.int .i64 (el j),.bool (ed j),.int .u8 (ef j),.int .u8 (eb j),.int .i64 (lo j)]⟩]):=by
  rw[hP,hlp,hel,hed,hef,heb,hlo];exact h10 wc hk
 have h3 wc (hk:KB ⟨w,[]⟩ wc) (a:Nat) (ha:a<N):Calls Tryz.prog 57 #[F.val,.int .i64 (.ofNat a)] wc (Ret wc (.tuple #[.int .u32 (.ofNat (um a)),.int .i64 (sm a),.int .i64 0])):=by
  rw[hum,hsm];exact h30 wc hk a (hN▸ha)
 have k0:∀j,kz 0 j=false:=fun j=>by rw[hkz];simp
 have k1:∀a,ed k=true->kz (a+1) a=decide (sm a=el k):=fun a h=>by
  rw[hed] at h
  have h:(stAt F (lpN F k)).r.p.d=true:=h
  rw[hkz,hsm,hel]
  simp only[Qqf,h,Nat.lt_succ_self,decide_true,Bool.true_and]
 have k2:∀a,ed k=false->kz (a+1) a=false:=fun a h=>by
  rw[hed] at h
  have h:(stAt F (lpN F k)).r.p.d=false:=h
  rw[hkz]
  simp only[Qqf,h,Bool.false_and,Bool.and_false]
 have k3:∀a j,j≠a->kz (a+1) j=kz a j:=fun a j h=>by
  rw[hkz]
  have:decide (j<a+1)=decide (j<a):=decide_eq_decide.2 o9
  simp only[this]
 have k4:∀j,j<N->kz N j=kb j:=fun j h=>by rw[hkz,hkb];simp only[h,decide_true,Bool.true_and]
 rw[<-hN,<-hkb]
 rw[<-hN] at hN9
 rw[<-hP] at hk
 clear h10 h30 hR hN hP hpb hpi hlp hel hed hef heb hlo hum hsm hkb hkz hO hD
 obtain ⟨_,_,_,ln,_,_,_,_,bn,_,_,sn,_,s,_,_,_,_,_,_,_,_,_,_⟩:=F
 obtain ⟨hX,hl,hb,hs,hj⟩:=hF
 simp only at hl hb hs hj
 refine Qaa (args:=[.pt (.agg (GFun.dat _)),.pt (.one (.int .i64 (.ofNat k)))]) (c:=(Qwa _)) Tryz.func138 rfl hX rfl rfl ?_
 obtain ⟨_,_,_,hnt,_,har,cm,hcm,_,_,_,_,ar01,ar12,_,hzpl,_,_,zup,hzup,_,_,_,_,hT⟩:=Qca
 have c1:cm .lss (.ofNat k) 0=false:=by rw[hcm];exact decide_eq_false (fun g=>absurd (Int.natCast_nonneg k) (Int.not_le.2 g))
 have c2:cm .geq (.ofNat k) (.ofNat P)=false:=by rw[hcm];exact decide_eq_false (fun g=>absurd (Int.ofNat_le.1 g) (Nat.not_le.2 hk))
 have hmk:(N:Int)<=1073741824:=by omega
 have hs1:∀a,ed k=true->RowLe ⟨N,1,zup (fun j=>[SC.bool (kz a j)]) a 0 [SC.bool (decide (sm a=el k))]⟩ ⟨N,1,fun j=>[SC.bool (kz (a+1) j)]⟩:=fun a h=>by
  refine Qad hzup rfl (fun j hj g=>⟨?_,trivial⟩) (fun _=>⟨?_,trivial⟩)
  · rw[k3 a j g];exact rfl
  · rw[k1 a h];exact rfl
 have hs2:∀a,ed k=false->RowLe ⟨N,1,zup (fun j=>[SC.bool (kz a j)]) a 0 [SC.lit false]⟩ ⟨N,1,fun j=>[SC.bool (kz (a+1) j)]⟩:=fun a h=>by
  refine Qad hzup rfl (fun j hj g=>⟨?_,trivial⟩) (fun _=>⟨?_,trivial⟩)
  · rw[k3 a j g];exact rfl
  · rw[k2 a h];exact rfl
 repeat' (first
  | refine goa ?_|refine go3 (fun hlt=>?_) (fun hge=>?_)|refine go2 (fun h=>?_) (fun h=>?_)|exact go0|refine god ?_|refine gof ?_|refine Qvha ?_ ?_
  | ((first|with_reducible apply Qhb hT|with_reducible apply Qna hT);(·(cbv;try rfl));(·(cbv;try rfl));(·exact Q7g);(·exact Q7g);(·rfl))
  | refine gob ?_
  | ((with_reducible refine Q4c ?_ ?_);(·first|((exact ⟨Int.natCast_nonneg N,hmk⟩))))
  | ((with_reducible apply Qoa (hf:=Tryz.call52));(·intro S;cbv;try rfl);(·intro wc S hbc hxc hrc;exact h1 wc hbc);(·rfl))
  | ((with_reducible apply Qoa (hf:=Tryz.call67));(·intro S;cbv;try rfl);(·intro wc S hbc hxc hrc;exact h2 wc hbc);(·rfl))
  | (refine' Qiha Tryz.call57 ?_ ?_;rotate_left;(·intro wc hbc hxc;exact h3 wc hbc a y9))
  | ((with_reducible refine Qgha (σ:={a:Nat // a<=N}) (zs9 [4,2,10,4,44,32]) (fun x=>[zc9 43 x.1]) (fun x=>[]) (fun x=>[(2,⟨N,1,fun j=>[.bool (kz x.1 j)]⟩)]) (fun x=>N - x.1) ⟨0,Nat.zero_le _⟩ ?_ ?_);(·exact pfp Q7g);(rintro ⟨a,ha⟩ mm hmm))
  | (((with_reducible apply Qxa);(·exact Int.natCast_nonneg _);(·first|exact Int.ofNat_lt.2 hk|exact Int.ofNat_lt.2 y9)))
  | ((with_reducible refine Qfha (⟨a+1,Nat.succ_le_of_lt y9⟩:{a:Nat // a<=N}) ?_ ?_);(·exact msr o9 y9);(·exact pfp Q7g))
  | fail)
def Q5j (n es:Nat) (el:Nat->List SC) (a:Option Addr×Nat):Nat->Nat->Row:=fun p i=>if p=0/\i=0 then ⟨a.1,n,a.2,es,el⟩ else ⟨none,0,0,0,fun _=>[]⟩
theorem Qog {n es:Nat} {el:Nat->List SC} {a:Option Addr×Nat} (hp:∀j,Qob (el j)=true) (p i j:Nat) (h:j<(Q5j n es el a p i).n):Qob ((Q5j n es el a p i).el j)=true:=by
 unfold Q5j at h⊢
 split at h
 · rename_i g;rw[if_pos g];exact hp j
 · exact absurd h (Nat.not_lt_zero _)
theorem Qe1 {w:World} {n es:Nat} {el:Nat->List SC} {a:Option Addr×Nat} (hn:Q3d w a.1) (p i:Nat) (h:∃j,j<(Q5j n es el a p i).n):Q3d w (Q5j n es el a p i).a:=by
 unfold Q5j at h⊢
 split at h
 · rename_i g;rw[if_pos g];exact hn
 · obtain ⟨j,h⟩:=h;exact absurd h (Nat.not_lt_zero _)
theorem Qlt {n es:Nat} {el:Nat->List SC} {a:Option Addr×Nat} {p i:Nat} (h:¬(p=0/\i=0)):Q5j n es el a p i=NoFam p i:=by
 unfold Q5j;rw[if_neg h];rfl
section
variable {P:Program} {Q:E9z} {c:R9z} {w0:Base} {k:List Item} {st:St}
theorem Qrs (d q i:Nat) {a:Option Addr} {n cap:Nat} (hd:nth st.t d=some (.pt (.one (.val (.slice a n cap))))) (hq:(.slice (c q i).a (c q i).n (c q i).c:Value)=.slice a n cap)
 (h:Goes P Q c w0 k { st with t:=Q0b st.t d (.pt (.one (.xs q i))) }):Goes P Q c w0 k st:=⟨fun e s a' w hce F=>by
 rw[Qva] at hd
 obtain ⟨v,h1,h2⟩:=Qce F.tm hd
 have h2:v=.slice a n cap:=h2
 subst h2
 have h3:isV e (Q0b st.t d (.pt (.one (.xs q i)))) (a'.tmps.toList.set d (.slice a n cap)):=Qsn F.tm d (by subst hce;exact hq.symm)
 have h4:a'.tmps.toList.set d (.slice a n cap)=a'.tmps.toList:=by
  apply List.ext_getElem?
  intro j
  rw[List.getElem?_set]
  split
  · rename_i e;subst e;split
    · exact h1.symm
    · rename_i g;rw[List.getElem?_eq_none o9]
  · rfl
 rw[h4] at h3
 have h5:=h.run e s a' w hce (F.turn rfl rfl F.fr F.dfr h3)
 exact h5⟩
end
end Go.Proofs.YtemnfncbgalljaaGreat
