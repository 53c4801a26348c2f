/- Lemmas. No condition. -/
import Derived.Test.YtemnfncbgalljaaGreatW2
import Derived.Test.YtemnfncbgalljaaGreatW4
namespace Go.Proofs.YtemnfncbgalljaaGreat
open Go.RowKit
set_option linter.all false
set_option maxRecDepth 100000
set_option maxHeartbeats 64000000
theorem Qn2 {F:GFun} (hO:F.Ok) {L:Nat} {R:B9z} (hR:∀j,j<stN F.sn F.bn->R j=true->(Qdf F).liB L j=true):∀k,k<=stN F.sn F.bn->∀j,j<stN F.sn F.bn->(DnG.dn (Qbd F) (fun n=>decide (smN F n=Int.ofNat L)) R (stN F.sn F.bn) k).1 j=true->(Qdf F).liB L j=true
 | 0,_=>hR
 | k+1,hk=>fun j hj h=>by
   have ih:=Qn2 hO hR k o9
   rw[DnG.dn,DnG.step] at h
   split at h
   · exact ih j hj h
   · rename_i g
     simp only at h
     split at h
     · rename_i e
       subst e
       obtain ⟨q,h1,h2⟩:=List.any_eq_true.1 h
       have hq:=ih q (Q9h hO hj q h1) h2
       have g2:decide (Int.ofNat L=smN F (stN F.sn F.bn - 1 - k))=false:=decide_eq_false fun e=>g (by rw[decide_eq_true e.symm,Bool.or_true])
       rw[Q47 hO hj,g2,show (Q0g F (stN F.sn F.bn - 1 - k)).any (fun q=>(Qdf F).liB L q)=true from List.any_eq_true.2 ⟨q,(Qcg hj).1 h1,hq⟩]
       rfl
     · exact ih j hj h
def vvD:Nat->Int
 | 0=>-1
 | t+1=>.ofNat t
theorem Qwb {p:Prop} (h:p:=by (first|((try with_reducible refine Q8c ?_ ?_ ?_ ?_);all_goals (cbv;(try simp only[true_and,and_true]);(try ((repeat' apply And.intro)<;>(first|trivial|rfl|exact RowLe.rfl' _|decide|(rw[Qda har _ o9];done)|((exact e1 n _ (hUu n)))|((have e:n=N:=Nat.le_antisymm hn y9;rw[e];exact RowLe.rfl' _))|((exact hvN N o9))|((exact hvN t o9))|((exact (w1 R).2.symm))|((rw[(w1 R).1];exact RowLe.rfl' _))|((rw[v0 _ t y9];exact RowLe.rfl' _))|((exact hA _ t m y9 y9))|((exact hB _ t m y9 y9 y9))|((rw[Qda har m (by have:=dl2 t;have h9:m<dl t:=y9;omega)]))|((rw[(w2a R t ht y9).1];exact RowLe.rfl' _))|((rw[(w2b R t ht y9).1];exact RowLe.rfl' _))|((exact (w2a R t ht y9).2.symm))|((exact (w2b R t ht y9).2.symm))|((rw[(w3a R t m ht y9 y9 hm y9).1];exact RowLe.rfl' _))|((exact ((w3a R t m ht y9 y9 hm y9).2.1 y9).symm))|((exact ((w3a R t m ht y9 y9 hm y9).2.2 y9).symm))|((exact e9 hH y9))|fail))));done)|fail)):Pf p:=⟨h⟩
theorem Qzy (F:GFun) (w:World) (hF:F.At w) (hO:F.Ok) (L:Nat) (hLn:L<F.ln):
 Calls Tryz.prog 255 #[F.val,.int .i64 (.ofNat L)] w (RetR w (Qwa F) (.pt (.one (.rs 0))) [⟨stN F.sn F.bn,1,fun j=>[.bool ((Qdf F).liB L j)]⟩]):=by
 have h7 wc (hk:KB ⟨w,[]⟩ wc):=Qez F wc (hF.later hk) hO.small
 have hN9:=hO.pts
 have hl16:=hO.ln16
 obtain ⟨N,hN⟩:=x9 (stN F.sn F.bn)
 obtain ⟨sm,hsm⟩:=x9 (smN F:I9z)
 obtain ⟨UB,hUB⟩:=x9 (fun n l=>uB F (pbN F n) (piN F n) l:B9y)
 have h3 wc (hk:KB ⟨w,[]⟩ wc) (x:Nat) (hx:x<N):Calls Tryz.prog 180 #[F.val,.int .i64 (.ofNat x)] wc (Ret wc (Qsl (UB x))):=by
  rw[hUB];exact Qyt F wc (hF.later hk) hO x (hN▸hx)
 have hst wc (hk:KB ⟨w,[]⟩ wc) (x:Nat) (hx:x<N):Calls Tryz.prog 211 #[F.val,.int .i64 (.ofNat x)] wc (Ret wc (.int .i64 (sm x))):=by
  rw[hsm];exact Q1y F wc (hF.later hk) hO x (hN▸hx)
 obtain ⟨dl,hdl⟩:=x9 (fun x=>(Qbd F x).length:N9z)
 obtain ⟨dg,hdg⟩:=x9 (fun x j=>(Qbd F x).getD j 0:Nat->Nat->Nat)
 have hnx wc (hk:KB ⟨w,[]⟩ wc) (x:Nat) (hx:x<N):Calls Tryz.prog 149 #[F.val,.int .i64 (.ofNat x)] wc (RetR wc (Qwa F) (.pt (.one (.rs 0))) [⟨dl x,1,fun j=>[.int .i64 (.ofNat (dg x j))]⟩]):=by
  have:=Qd3 F wc (hF.later hk) hO x (hN▸hx)
  rw[hdl,hdg];exact this
 have dl2:∀x,dl x<=2:=fun x=>by rw[hdl];exact Qaq F x
 have dgN:∀x k,x<N->k<dl x->dg x k<N:=fun x k hx hk=>by
  rw[hdl] at hk;rw[hdg,hN]
  refine Q9h hO (hN▸hx) _ ?_
  simp only[List.getD,List.getElem?_eq_getElem hk,Option.getD_some]
  exact List.getElem_mem hk
 obtain ⟨ub,hub⟩:=x9 (fun x=>uB F (pbN F x) (piN F x) L:B9z)
 have hUu:∀n,UB n L=ub n:=fun n=>by rw[hUB,hub]
 obtain ⟨lv,hlv⟩:=x9 (fun x=>(Qdf F).liB L x:B9z)
 obtain ⟨R1,hR1⟩:=x9 (fun n j=>decide (j<n)&&ub j:B9y)
 obtain ⟨wB,hwB⟩:=x9 (fun R t=>(DnG.W (Qbd F) (fun n=>decide (smN F n=Int.ofNat L)) R N t).1:(Nat->Bool)->Nat->Nat->Bool)
 obtain ⟨wM,hwM⟩:=x9 (fun R t=>(DnG.W (Qbd F) (fun n=>decide (smN F n=Int.ofNat L)) R N t).2:(Nat->Bool)->Nat->Bool)
 obtain ⟨iN,hiN⟩:=x9 (fun S t k=>DnG.inn (Qbd F) S t k:(Nat->Bool)->Nat->Nat->Nat->Bool)
 obtain ⟨ct,hct⟩:=x9 (fun R=>FlowG.cnt R N:(Nat->Bool)->Nat)
 have w1:∀R,wB R N=R/\wM R N=false:=fun R=>by rw[hwB,hwM];simp only[DnG.W_top];exact ⟨trivial,trivial⟩
 have w2:∀R t,t<N->(wB R (t+1) t||decide (sm t=Int.ofNat L))=true->wB R t=wB R (t+1)/\wM R t=wM R (t+1):=fun R t ht h=>by
  rw[hwB,hsm] at h
  rw[hwB,hwM];simp only[DnG.W_step _ _ ht,DnG.step,if_pos h];exact ⟨trivial,trivial⟩
 have w3:∀R t,t<N->wB R (t+1) t=false->decide (sm t=Int.ofNat L)=false->wB R t=iN (wB R (t+1)) t (dl t)/\wM R t=(wM R (t+1)||iN (wB R (t+1)) t (dl t) t):=fun R t ht h h2=>by
  have hc:¬(wB R (t+1) t||decide (sm t=Int.ofNat L))=true:=by rw[h,h2];simp
  rw[hwB,hsm] at hc
  rw[hwB,hwM,hiN,hdl];simp only[DnG.W_step _ _ ht,DnG.step,if_neg hc]
  refine ⟨?_,?_⟩
  · funext j;simp only[DnG.inn,List.take_length]
  · simp only[DnG.inn,List.take_length,if_true]
 have v0:∀S t,S t=false->iN S t 0=S:=fun S t h=>by
  rw[hiN];funext j;simp only[DnG.inn,List.take_zero,List.any_nil]
  by_cases e:j=t
  · rw[if_pos e,e,h]
  · rw[if_neg e]
 have v1:∀S t k,k<dl t->iN S t (k+1)=fun j=>if j=t then (iN S t k t||S (dg t k)) else iN S t k j:=fun S t k hk=>by
  rw[hdl] at hk
  rw[hiN,hdg];funext j
  by_cases e:j=t
  · subst e
    simp only[DnG.inn,if_true]
    rw[List.take_add_one,List.any_append]
    simp only[List.getElem?_eq_getElem hk,Option.toList_some,List.any_cons,List.any_nil,Bool.or_false,List.getD,Option.getD_some]
  · simp only[DnG.inn,if_neg e]
 have v2:∀S t k,S t=false->iN S t k t=false->iN S t k (dg t k)=S (dg t k):=fun S t k h h2=>by
  by_cases e:dg t k=t
  · rw[e,h2,h]
  · rw[hiN];simp only[DnG.inn,if_neg e]
 have r0:∀R,(∀j,j<N->ub j=true->R j=true)->(∀j,j<N->ub j=true->wB R 0 j=true):=fun R h j hj hu=>by
  rw[hwB];exact DnG.dn_up _ _ (h j hj hu) _
 have rc:∀R,wM R 0=true->ct R<ct (wB R 0):=fun R h=>by rw[hwM] at h;rw[hct,hwB];exact DnG.W_cnt _ _ h
 have rf:∀R,(∀j,j<N->ub j=true->R j=true)->wM R 0=false->∀j,lv j=true->wB R 0 j=true:=fun R h hm j hj=>by
  rw[hwM] at hm;rw[hlv] at hj
  have hn:=DnG.dn_no (Qbd F) (fun n=>decide (smN F n=Int.ofNat L)) (R:=R) (N:=N) (N - 0) o9 hm
  have e:wB R 0=R:=by rw[hwB];exact hn.1
  rw[e]
  refine Qsx (fun n hn2 hu=>h n (by rw[hN];exact hn2) (by rw[hub];exact hu)) (fun n hn2 hx=>hn.2 n o9 (by rw[hN];exact hn2) hx) hj
 have ra:∀R,N<=ct R->∀j,j<N->R j=true:=fun R h=>by rw[hct] at h;exact DnG.cnt_all N h
 have rs:∀R,(∀j,j<N->R j=true->lv j=true)->(∀j,j<N->wB R 0 j=true->lv j=true):=fun R h=>by
  rw[hlv,hN] at h
  rw[hwB,hlv,hN]
  exact Qn2 hO h _ (Nat.sub_le _ _)
 have cl:∀R,ct R<=N:=fun R=>by rw[hct];exact FlowG.cnt_le R N
 have hul:∀j,j<N->ub j=true->lv j=true:=fun j hj h=>by
  rw[hub] at h
  rw[hlv]
  show (Qdf F).liB L j=true
  rw[Q47 hO (hN▸hj)]
  rw[show uB F (pbN F j) (piN F j) L=true from h,Bool.or_true]
 obtain ⟨Hd,hHd⟩:=x9 (fun x=>(∀j,j<N->ub j=true->x.1 j=true)/\(∀j,j<N->x.1 j=true->lv j=true)/\(x.2=false->∀j,lv j=true->x.1 j=true):(Nat->Bool)×Bool->Prop)
 obtain ⟨mu,hmu⟩:=x9 (fun x=>2 * (N - ct x.1)+if x.2=true then 1 else 0:(Nat->Bool)×Bool->Nat)
 have q1:∀{R:B9z} {m:Bool},Hd (R,m)->m=true->Hd (wB R 0,wM R 0)/\mu (wB R 0,wM R 0)<mu (R,m):=fun {R m} h hm=>by
  rw[hHd] at h⊢
  refine ⟨⟨r0 R h.1,rs R h.2.1,rf R h.1⟩,?_⟩
  rw[hmu,hm]
  show 2 * (N - ct (wB R 0))+(if wM R 0=true then 1 else 0)<2 * (N - ct R)+1
  have h3:=cl (wB R 0)
  cases g:wM R 0
  · have e:ct (wB R 0)=ct R:=by
     rw[hwM] at g
     have:=(DnG.dn_no (Qbd F) (fun n=>decide (smN F n=Int.ofNat L)) (R:=R) (N:=N) (N - 0) o9 g).1
     rw[hct,hwB]
     show FlowG.cnt (DnG.W (Qbd F) (fun n=>decide (smN F n=Int.ofNat L)) R N 0).1 N=_
     unfold DnG.W
     rw[this]
    rw[e];simp
  · have:=rc R g
    simp only[if_true]
    omega
 have qe:∀{R:B9z} {m:Bool},Hd (R,m)->m=false->∀j,j<N->R j=lv j:=fun {R m} h hm j hj=>by
  rw[hHd] at h
  cases g:lv j
  · cases g2:R j
    · rfl
    · have:=h.2.1 j hj g2
      rw[g] at this;cases this
  · exact h.2.2 hm j g
 have q0:Hd (R1 N,true):=by
  rw[hHd]
  refine ⟨fun j hj hu=>?_,fun j hj hu=>?_,fun h=>by cases h⟩
  · rw[hR1];simp only[decide_eq_true hj,hu];rfl
  · rw[hR1] at hu
    simp only[Bool.and_eq_true] at hu
    exact hul j hj hu.2
 have hRB:(fun j=>[SC.bool ((Qdf F).liB L j)])=fun j=>[SC.bool (lv j)]:=by rw[hlv]
 rw[hRB,<-hN]
 rw[<-hN] at h7 hN9
 clear hRB hsm hN hO hdl hdg hub hUB hlv hwB hwM hiN hct hHd hmu r0 rc rf ra rs cl hul
 cases F
 obtain ⟨hX,hl,hb,hs,hj⟩:=hF
 simp only at hl hb hs hj
 try simp only at h3 h7 hl16 hst hnx hLn
 refine Qaa (args:=[.pt (.agg (GFun.dat _)),.pt (.one (.int .i64 (.ofNat L)))]) (c:=(Qwa _)) Tryz.func255 rfl hX rfl rfl ?_
 obtain ⟨_,_,_,hnt,ar,har,cm,hcm,_,_,_,_,ar01,ar12,_,hzpl,_,_,zup,hzup,_,_,_,_,hT⟩:=Qca
 have hmk:(N:Int)<=1073741824:=by omega
 have e0:RowLe ⟨N,1,fun x=>[SC.lit false]⟩ ⟨N,1,fun j=>[SC.bool (R1 0 j)]⟩:=Q0a rfl fun j hj=>⟨(by rw[hR1];simp;rfl),trivial⟩
 have e1:∀n X,X=ub n->RowLe ⟨N,1,zup (fun j=>[SC.bool (R1 n j)]) n 0 [SC.bool X]⟩ ⟨N,1,fun j=>[SC.bool (R1 (n+1) j)]⟩:=fun n X hX=>by
  refine Qad hzup rfl (fun j hj h=>⟨?_,trivial⟩) (fun _=>⟨?_,trivial⟩)
  · have:R1 n j=R1 (n+1) j:=by rw[hR1];simp only;congr 1;exact decide_eq_decide.2 o9
    rw[this];exact rfl
  · have:R1 (n+1) n=ub n:=by rw[hR1];simp
    rw[hX,this];exact rfl
 have hvN:∀t:Nat,t<=1000->ar .sub .i64 (.ofNat t) 1=vvD t:=fun t ht=>by
  rw[har]
  show IntKind.i64.wrap ((t:Int) - 1)=vvD t
  rw[Go.IntWalk.i64_in _ o9]
  cases t with
  | zero=>rfl
  | succ t=>show ((t+1:Nat):Int) - 1=(t:Int);omega
 have w2a:∀R t,t<N->wB R (t+1) t=true->wB R t=wB R (t+1)/\wM R t=wM R (t+1):=fun R t ht h=>w2 R t ht (by rw[h];rfl)
 have w2b:∀R t,t<N->decide (sm t=Int.ofNat L)=true->wB R t=wB R (t+1)/\wM R t=wM R (t+1):=fun R t ht h=>w2 R t ht (by rw[h,Bool.or_true])
 have w3a:∀R t k,t<N->wB R (t+1) t=false->decide (sm t=Int.ofNat L)=false->k<=dl t->dl t<=k->wB R t=iN (wB R (t+1)) t k/\(wM R (t+1)=true->wM R t=true)/\(wM R (t+1)=false->wM R t=iN (wB R (t+1)) t k t):=fun R t k ht h h2 h3 h4=>by
  have e:k=dl t:=Nat.le_antisymm h3 h4
  have q:=w3 R t ht h h2
  rw[e]
  refine ⟨q.1,fun g=>by rw[q.2,g];rfl,fun g=>by rw[q.2,g];rfl⟩
 have c6:∀t:Nat,cm .geq (.ofNat t) 0=true:=fun t=>by rw[hcm];exact decide_eq_true (Int.natCast_nonneg t)
 have c7:cm .geq (-1) 0=false:=by rw[hcm];decide
 have hA:∀S t k,k<dl t->iN S t k t=true->RowLe ⟨N,1,zup (fun j=>[SC.bool (iN S t k j)]) t 0 [SC.lit true]⟩ ⟨N,1,fun j=>[SC.bool (iN S t (k+1) j)]⟩:=fun S t k hk h=>by
  rw[v1 S t k hk]
  refine Qad hzup rfl (fun j hj h2=>⟨?_,trivial⟩) (fun _=>⟨?_,trivial⟩)
  · simp only[if_neg h2];exact rfl
  · simp only[if_true,h,Bool.true_or];exact rfl
 have hB:∀S t k,k<dl t->S t=false->iN S t k t=false->RowLe ⟨N,1,zup (fun j=>[SC.bool (iN S t k j)]) t 0 [SC.bool (iN S t k (dg t k))]⟩ ⟨N,1,fun j=>[SC.bool (iN S t (k+1) j)]⟩:=fun S t k hk h h3=>by
  rw[v1 S t k hk,v2 S t k h h3]
  refine Qad hzup rfl (fun j hj h2=>⟨?_,trivial⟩) (fun _=>⟨?_,trivial⟩)
  · simp only[if_neg h2];exact rfl
  · simp only[if_true,h3,Bool.false_or];exact rfl
 have e9:∀{R:B9z} {m:Bool},Hd (R,m)->m=false->RowLe ⟨N,1,fun j=>[SC.bool (R j)]⟩ ⟨N,1,fun j=>[SC.bool (lv j)]⟩:=fun {R m} a b=>Q0a rfl fun j hj=>⟨by rw[qe a b j hj];exact rfl,trivial⟩
 have hL16:L<16:=Nat.lt_of_lt_of_le hLn hl16
 repeat' (first
  | refine goa ?_|refine go3 (fun hlt=>?_) (fun hge=>?_)|refine go2 (fun h=>?_) (fun h=>?_)|refine gof ?_
  | exact gor (ha:=Qwb) (hb:=Qwb)
  | refine gob ?_
  | ((with_reducible refine Q4c ?_ ?_);(·first|((exact ⟨Int.natCast_nonneg N,hmk⟩))))
  | (refine' Qiha Tryz.call56 ?_ ?_;rotate_left;(·intro wc hbc hxc;exact h7 wc hbc))
  | (refine' Qiha Tryz.call180 ?_ ?_;rotate_left;(·intro wc hbc hxc;exact h3 wc hbc n y9))
  | (((with_reducible refine Q3f (.bool (UB n L)) ?_ rfl ?_);(·exact Qvh (UB n) hL16)))
  | ((with_reducible refine Qgha (σ:={n:Nat // n<=N}) (zs9 [14,14]) (fun x=>[zc9 6 x.1]) (fun x=>[]) (fun x=>[(0,⟨N,1,fun j=>[.bool (R1 x.1 j)]⟩)]) (fun x=>N - x.1) ⟨0,Nat.zero_le _⟩ ?_ ?_);(·exact pfp Qwb);(rintro ⟨n,hn⟩ mm hmm))
  | ((with_reducible refine Qfha (⟨n+1,Nat.succ_le_of_lt y9⟩:{n:Nat // n<=N}) ?_ ?_);(·exact msr o9 y9);(·exact pfp Qwb))
  | ((with_reducible refine Qgha (σ:={x:(Nat->Bool)×Bool // Hd x}) (zs9 [8,3,28,51]) (fun x=>[(7,.pt (.one (.bool x.1.2)))]) (fun x=>[]) (fun x=>[(0,⟨N,1,fun j=>[.bool (x.1.1 j)]⟩)]) (fun x=>mu x.1) ⟨(R1 N,true),q0⟩ ?_ ?_);(·exact pfp Qwb);(rintro ⟨⟨R,m0⟩,hH⟩ mm hmm))
  | ((with_reducible refine Qgha (σ:={t:Nat // t<=N}) (zs9 [9,2,32,47]) (fun x=>[(8,.pt (.one (.int .i64 (vvD x.1)))),(7,.pt (.one (.bool (wM R x.1))))]) (fun x=>[]) (fun x=>[(0,⟨N,1,fun j=>[.bool (wB R x.1 j)]⟩)]) (fun x=>x.1) ⟨N,Nat.le_refl _⟩ ?_ ?_);(·exact pfp Qwb);(rintro ⟨_|t,ht⟩ mm hmm))
  | (refine' Qiha Tryz.call211 ?_ ?_;rotate_left;(·intro wc hbc hxc;exact hst wc hbc t ht))
  | ((with_reducible apply Qoa (hf:=Tryz.call149));(·intro S;cbv;try rfl);(·intro wc S hbc hxc hrc;exact hnx wc hbc t ht);(·rfl))
  | (((with_reducible apply Qxa);(·exact Int.natCast_nonneg _);(·first|exact Int.ofNat_lt.2 ht|exact Int.ofNat_lt.2 (dgN t m ht y9))))
  | ((with_reducible refine Qgha (σ:={k:Nat // k<=dl t}) (zs9 [50,22]) (fun x=>[zc9 10 x.1]) (fun x=>[]) (fun x=>[(0,⟨N,1,fun j=>[.bool (iN (wB R (t+1)) t x.1 j)]⟩)]) (fun x=>dl t - x.1) ⟨0,Nat.zero_le _⟩ ?_ ?_);(·exact pfp Qwb);(rintro ⟨m,hm⟩ mm hmm))
  | ((with_reducible refine Qfha (⟨m+1,Nat.succ_le_of_lt y9⟩:{k:Nat // k<=dl t}) ?_ ?_);(·exact Nat.lt_of_lt_of_eq (show dl t - (m+1)<dl t - m from by omega) (Eq.symm y9));(·exact pfp Qwb))
  | ((with_reducible refine Qfha (⟨t,Nat.le_of_succ_le ht⟩:{t:Nat // t<=N}) ?_ ?_);(·exact Nat.lt_of_lt_of_eq (show t<t+1 from by omega) (Eq.symm y9));(·exact pfp Qwb))
  | ((exfalso;exact absurd ((c6 t).symm.trans y9) (by decide)))
  | ((with_reducible refine Qfha (⟨(wB R 0,wM R 0),(q1 hH y9).1⟩:{x:(Nat->Bool)×Bool // Hd x}) ?_ ?_);(·(exact Nat.lt_of_lt_of_eq (q1 hH y9).2 (Eq.symm y9)));(·exact pfp Qwb))
  | fail)
end Go.Proofs.YtemnfncbgalljaaGreat
