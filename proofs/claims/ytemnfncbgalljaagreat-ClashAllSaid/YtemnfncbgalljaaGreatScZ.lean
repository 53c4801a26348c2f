/- Lemmas. No condition. -/
import Derived.Test.YtemnfncbgalljaaGreatC3
import Derived.Test.YtemnfncbgalljaaGreatLoC
import Derived.Test.YtemnfncbgalljaaGreatW2
namespace Go.Proofs.YtemnfncbgalljaaGreat
open Go.RowKit
set_option linter.all false
set_option maxHeartbeats 64000000
set_option maxRecDepth 100000
theorem WyG.same {G G':WyG} (hp:G.p<G.N) (ep:G'.p=G.p) (et:G'.tw=G.tw) (hl:∀m,m<G.N->∀q∈G.sc m,q<G.N) (hl':∀m,m<G.N->∀q∈G'.sc m,q<G.N) (hR:∀n m,n<G.N->(G.R n m↔G'.R n m)) (m:Nat):G.inB m=G'.inB m/\G.usB m=G'.usB m:=by
 have lt':∀m,G'.inB m=true->m<G.N:=fun m h=>by
  replace h:=Qmb.1 h
  induction h with
  | zero h=>exact hl' _ (by rw[ep];exact hp) _ h.2.1
  | step _ g ih=>exact hl' _ ih _ g.2.1
 have a1:∀m,G.inB m=true->G'.inB m=true:=fun m g=>by
  have g':=Qmb.1 g
  clear g
  induction g' with
  | zero g=>exact in0 (by rw[ep];exact (hR _ _ hp).1 g)
  | step h g ih=>exact in1 ih ((hR _ _ (inB_lt hp hl (Qmb.2 h))).1 g)
 have a2:∀m,G'.inB m=true->G.inB m=true:=fun m g=>by
  have g':=Qmb.1 g
  clear g
  induction g' with
  | zero g=>exact in0 ((hR _ _ hp).2 (by rw[ep] at g;exact g))
  | step h g ih=>exact in1 ih ((hR _ _ (lt' _ (Qmb.2 h))).2 g)
 have b1:∀m,G.usB m=true->G'.usB m=true:=fun m g=>by
  have g':=Qmb.1 g
  clear g
  induction g' with
  | zero g=>
    obtain ⟨n,g1,g2,g3⟩:=g
    exact us0 (a1 n g1) (by rw[et];exact g2) ((hR _ _ (inB_lt hp hl g1)).1 g3)
  | step h g ih=>exact us1 ih ((hR _ _ (inB_lt hp hl (us_in (Qmb.2 h)))).1 g)
 have b2:∀m,G'.usB m=true->G.usB m=true:=fun m g=>by
  have g':=Qmb.1 g
  clear g
  induction g' with
  | zero g=>
    obtain ⟨n,g1,g2,g3⟩:=g
    exact us0 (a2 n g1) (by rw[<-et];exact g2) ((hR _ _ (lt' _ g1)).2 g3)
  | step h g ih=>exact us1 ih ((hR _ _ (lt' _ (us_in (Qmb.2 h)))).2 g)
 refine ⟨?_,?_⟩
 · rw[Bool.eq_iff_iff];exact ⟨a1 m,a2 m⟩
 · rw[Bool.eq_iff_iff];exact ⟨b1 m,b2 m⟩
noncomputable def wyR (F:GFun) (k:Nat):WyG:=⟨stN F.sn F.bn,lpN F k,Qbd F,fun m=>Qfl F (k+F.ln) m,fun n=>Qqf F k n,(wyF F k).tw⟩
theorem Qm9 {F:GFun} (hO:F.Ok) {k:Nat} (hk:k<lnC F) (m:Nat):(wyR F k).inB m=scI F k m/\(wyR F k).usB m=scU F k m:=
 WyG.same (G:=wyR F k) (G':=wyF F k) (Qhm hk).1 rfl rfl (fun m hm=>Q9h hO hm) (fun m hm=>Qgi hO hm) (fun n m hn=>⟨fun h=>⟨h.1,(Qcg hn).1 h.2.1,h.2.2⟩,fun h=>⟨h.1,(Qcg hn).2 h.2.1,h.2.2⟩⟩) m
def Qnu (F:GFun) (a:Option Addr) (n cap:Nat) (f:B9z):Nat->Nat->Row
 | 0,i=>Qwa F 0 i
 | 1,i=>Qwa F 1 i
 | 2,i=>Qwa F 2 i
 | 3,i=>Qwa F 3 i
 | _,_=>⟨a,n,cap,1,fun i=>[.bool (f i)]⟩
theorem Qjw {F:GFun} {a:Option Addr} {n cap:Nat} {f:B9z}:∀q i,q<4->Qwa F q i=Qnu F a n cap f q i
 | 0,_,_=>rfl
 | 1,_,_=>rfl
 | 2,_,_=>rfl
 | 3,_,_=>rfl
theorem Qo4 {F:GFun} {w:World} (hF:F.At w) {a:Option Addr} {n cap:Nat} {f:B9z} {c:R9z} (hx:XOk ⟨[],c,[]⟩ ⟨w,[]⟩) (q i:Nat) (h:c q i=⟨a,n,cap,1,fun i=>[.bool (f i)]⟩):XOk ⟨[],Qnu F a n cap f,[]⟩ ⟨w,[]⟩:=fun q' i' j hj=>by
 by_cases hq:q'<4
 · have e:=Qjw (F:=F) (a:=a) (n:=n) (cap:=cap) (f:=f) q' i' hq
   have hj':j<(Qwa F q' i').n:=by rw[e];exact hj
   obtain ⟨b,p,g1,g2,g3,vs,g4,g5⟩:=hF.ok q' i' j hj'
   refine ⟨b,p,(congrArg Row.a e).symm.trans g1,g2,g3,vs,?_,?_⟩
   · show isL ⟨[],Qnu F a n cap f,[]⟩ ((Qnu F a n cap f q' i').el j) vs
     rw[<-e]
     exact Qbe (K:=4) Qjw (Qmc F q' i' j hq hj') g4
   · show ∀(t:Nat) (v:Value),vs[t]? =some v->w.cell? ⟨b,p+(j * (Qnu F a n cap f q' i').size+t),none⟩=some v
     rw[<-e]
     exact g5
 · obtain ⟨q',rfl⟩:∃m,q'=m+4:=⟨q' - 4,by omega⟩
   have:=hx q i j (by simp only[h];exact hj)
   simp only[h] at this
   obtain ⟨b,p,g1,g2,g3,vs,g4,g5⟩:=this
   exact ⟨b,p,g1,g2,g3,vs,Q2b rfl g4,g5⟩
section
variable {P:Program} {Q:E9z} {c:R9z} {w0:Base}
theorem Qos (id i:Nat) {σ:Type} (C:σ->Nat->Nat->Row) (ws:List Nat) (ups:σ->List (Nat×SV)) (rups:σ->List (Nat×ORow)) {ops:Array Oper} {d:Bool} {b c2 c3:Code} {k:List Item} {st:St} (hk:noA (.code c2::.code b::.blk i::.code c3::k)=true) (h1:Goes P (fun _ _ _=>False) c w0 [.code (.region id ops d),.stop (Q3z C w0 (fun y=>st.lay ws (ups y) [] (rups y)))] st) (h2:∀y,Goes P Q (C y) w0 (.code c2::.code b::.blk i::.code c3::k) (st.lay ws (ups y) [] (rups y))):Goes P Q c w0 (.code .skip::.code ((Code.block i (((Code.region id ops d).seq c2).seq b)).seq c3)::k) st:=⟨fun e s a w hc F=>by
 have h:=(Quk C _ hk h1 h2).run e s a w hc F
 refine wp_skip (Q:=KQ P Q c (.code ((Code.block i (((Code.region id ops d).seq c2).seq b)).seq c3)::k) s) ?_
 exact wp_seq (wp_block (wp_seq (wp_seq h)))⟩
theorem Qps (id:Nat) {σ:Type} (C:σ->Nat->Nat->Row) (ws:List Nat) (ups:σ->List (Nat×SV)) (rups:σ->List (Nat×ORow)) {ops:Array Oper} {d:Bool} {b:Code} {k:List Item} {st:St} (hk:noA (.code b::k)=true) (h1:Goes P (fun _ _ _=>False) c w0 [.code (.region id ops d),.stop (Q3z C w0 (fun y=>st.lay ws (ups y) [] (rups y)))] st) (h2:∀y,Goes P Q (C y) w0 (.code b::k) (st.lay ws (ups y) [] (rups y))):Goes P Q c w0 (.code .skip::.code ((Code.region id ops d).seq b)::k) st:=⟨fun e s a w hc F=>by
 have h:=(Quk C _ hk h1 h2).run e s a w hc F
 refine wp_skip (Q:=KQ P Q c (.code ((Code.region id ops d).seq b)::k) s) ?_
 exact wp_seq h⟩
end
theorem Qr1 (F:GFun) (w:World) (hF:F.At w) (hO:F.Ok) (at_ l f bo lo:Int) (d:Bool) (n:Nat) (hn:n<stN F.sn F.bn) (t:Bool) (ht0:bo≠3->t=false) (ht:bo=3->0<=lo/\lo<16/\t=uB F (pbN F n) (piN F n) lo.toNat):
 Calls Tryz.prog 148 #[F.val,.agg #[.int .i64 at_,.int .i64 l,.bool d,.int .u8 f,.int .u8 bo,.int .i64 lo],.int .i64 (.ofNat n)] w (Ret w (.bool t)):=by
 have h10 wc (hk:KB ⟨w,[]⟩ wc):=Qyt F wc (hF.later hk) hO n hn
 obtain ⟨U,hU⟩:=x9 (fun l=>uB F (pbN F n) (piN F n) l)
 rw[<-hU] at h10
 by_cases hb:bo=3
 case neg=>
  have e:=ht0 hb
  subst e
  have hb':decide (bo=3)=false:=decide_eq_false hb
  clear hU hO ht ht0 hb
  obtain ⟨pa,un,lA,ln,lc,lk,lt,bA,bn,bc,sA,sn,sc,s,jA,jn,jc,ja,jk,jo,jf,jx,je,jd⟩:=F
  obtain ⟨hX,hl,hb,hs,hj⟩:=hF
  simp only at hl hb hs hj
  refine Qaa (args:=[.pt (.agg (GFun.dat _)),.pt (.agg [.int .i64 at_,.int .i64 l,.bool d,.int .u8 f,.int .u8 bo,.int .i64 lo]),.pt (.one (.int .i64 (.ofNat n)))]) (c:=(Qwa _)) Tryz.func148 rfl hX rfl rfl ?_
  obtain ⟨_,_,_,hnt,_,har,cm,hcm,_,_,_,_,ar01,ar12,_,hzpl,_,_,_,_,_,_,_,_,hT⟩:=Qca
  repeat' (first
   | refine goa ?_|refine god ?_
   | fail)
  all_goals first
   | rfl
   | (rw[hb'] at *;simp_all;done)
 obtain ⟨g1,g2,g3⟩:=ht hb
 obtain ⟨m,rfl⟩:∃m,lo=.ofNat m:=⟨lo.toNat,(Int.toNat_of_nonneg g1).symm⟩
 have hm:m<16:=by simp only[Int.ofNat_eq_natCast] at g2;omega
 have e:t=U m:=by rw[g3,hU];rfl
 subst e hb
 clear hU hO ht ht0 g1 g2 g3
 obtain ⟨pa,un,lA,ln,lc,lk,lt,bA,bn,bc,sA,sn,sc,s,jA,jn,jc,ja,jk,jo,jf,jx,je,jd⟩:=F
 obtain ⟨hX,hl,hb,hs,hj⟩:=hF
 simp only at hl hb hs hj
 refine Qaa (args:=[.pt (.agg (GFun.dat _)),.pt (.agg [.int .i64 at_,.int .i64 l,.bool d,.int .u8 f,.int .u8 3,.int .i64 (.ofNat m)]),.pt (.one (.int .i64 (.ofNat n)))]) (c:=(Qwa _)) Tryz.func148 rfl hX rfl rfl ?_
 obtain ⟨_,_,_,hnt,_,har,cm,hcm,_,_,_,_,ar01,ar12,_,hzpl,_,_,_,_,_,_,_,_,hT⟩:=Qca
 have c1:cm .geq (.ofNat m) 0=true:=by rw[hcm];exact decide_eq_true (Int.natCast_nonneg m)
 repeat' (first
  | refine goa ?_|refine god ?_
  | (refine' Qiha Tryz.call180 ?_ ?_;rotate_left;(·intro wc hbc hxc;exact h10 wc hbc))
  | (((with_reducible refine Q3f (.bool (U m)) ?_ rfl ?_);(·exact Qvh U hm)))
  | fail)
 all_goals first
  | rfl
  | exact absurd (c1.symm.trans y9) (by decide)
theorem Qtc {p:Prop} (h:p:=by (first|((try with_reducible refine Q8c ?_ ?_ ?_ ?_);all_goals (cbv;(try simp only[true_and,and_true]);(try ((repeat' apply And.intro)<;>(first|trivial|rfl|exact RowLe.rfl' _|decide|(rw[Qda har _ o9];done)|((first|exact ((s0 _ _).1)|exact ((s0 _ _).1).symm))|((exact RE _ _ (s0 _ _).2.1))|((exact RE _ _ (s0 _ _).2.2))|((first|exact ((k1 _ _ _ y9).1)|exact ((k1 _ _ _ y9).1).symm))|((exact RE _ _ (k1 _ _ _ y9).2.1))|((exact RE _ _ (k1 _ _ _ y9).2.2))|((exact (hFin bm I U y9 hQ).1))|((exact (hFin bm I U y9 hQ).2))|fail))));done)|fail)):Pf p:=⟨h⟩
theorem Qec {p:Prop} (h:p:=by (first|((try with_reducible refine Q8c ?_ ?_ ?_ ?_);all_goals (cbv;(try simp only[true_and,and_true]);(try ((repeat' apply And.intro)<;>(first|trivial|rfl|exact RowLe.rfl' _|decide|(rw[Qda har _ o9];done)|((first|exact ((p0 _ _ _).1)|exact ((p0 _ _ _).1).symm))|((exact RE _ _ (p0 _ _ _).2.1))|((exact RE _ _ (p0 _ _ _).2.2))|((first|exact ((p1 _ _ _ _ y9 y9).1)|exact ((p1 _ _ _ _ y9 y9).1).symm))|((exact RE _ _ (p1 _ _ _ _ y9 y9).2.1))|((exact RE _ _ (p1 _ _ _ _ y9 y9).2.2))|((exact RU _ _ _ _ _ rfl (p2 _ _ _ _ y9 y9).2.1))|((exact RU _ _ _ _ _ rfl (u1 _ _ _ _ y9 y9 y9)))|((exact RU _ _ _ _ _ rfl (u0 _ _ _ _ y9 y9 y9)))|((first|exact (b1 _ _ _ _ y9 y9 y9)|exact (b1 _ _ _ _ y9 y9 y9).symm))|((first|exact (b2 _ _ _ _ y9 y9 y9)|exact (b2 _ _ _ _ y9 y9 y9).symm))|((first|exact (b3 _ _ _ _ y9 y9 y9 y9 y9)|exact (b3 _ _ _ _ y9 y9 y9 y9 y9).symm))|((first|exact (b5 _ _ _ _ y9 y9 y9 y9 y9)|exact (b5 _ _ _ _ y9 y9 y9 y9 y9).symm))|((first|exact ((pe _ _ _ _ y9 y9 y9).1)|exact ((pe _ _ _ _ y9 y9 y9).1).symm))|((exact RE _ _ (pe _ _ _ _ y9 y9 y9).2.1))|((exact RE _ _ (pe _ _ _ _ y9 y9 y9).2.2))|((rw[Qda har i (by have:=hslN n;omega)];done))|fail))));done)|fail)):Pf p:=⟨h⟩
theorem Qt1 (F:GFun) (w:World) (hF:F.At w) (hO:F.Ok) (k:Nat) (hk:k<lnC F) (a:Option Addr) (cap:Nat) (hX0:XOk ⟨[],Qnu F a (stN F.sn F.bn) cap (fun m=>Qfl F (k+F.ln) m),[]⟩ ⟨w,[]⟩):
 Calls Tryz.prog 91 #[F.val,.agg #[.int .i64 (.ofNat (lpN F k)),.int .i64 (stAt F (lpN F k)).r.p.l,.bool (stAt F (lpN F k)).r.p.d,.int .u8 (stAt F (lpN F k)).r.p.f,.int .u8 (stAt F (lpN F k)).r.bo,.int .i64 (lnL F (lpN F k))],.slice a (stN F.sn F.bn) cap] w (RetR w (Qnu F a (stN F.sn F.bn) cap (fun m=>Qfl F (k+F.ln) m)) (.tup [.one (.rs 0),.one (.rs 1)]) [⟨stN F.sn F.bn,1,fun j=>[.bool (scI F k j)]⟩,⟨stN F.sn F.bn,1,fun j=>[.bool (scU F k j)]⟩]):=by
 have h10 (wc:World) (hbk:KB ⟨w,[]⟩ wc) (n:Nat) (hn:n<stN F.sn F.bn):Calls Tryz.prog 147 #[F.val,.agg #[.int .i64 (.ofNat (lpN F k)),.int .i64 (stAt F (lpN F k)).r.p.l,.bool (stAt F (lpN F k)).r.p.d,.int .u8 (stAt F (lpN F k)).r.p.f,.int .u8 (stAt F (lpN F k)).r.bo,.int .i64 (lnL F (lpN F k))],.int .i64 (.ofNat n)] wc (Ret wc (.bool (Qqf F k n))):=Q9u F wc (hF.later hbk) hO _ _ _ _ _ _ n hn
 have h20 (wc:World) (hbk:KB ⟨w,[]⟩ wc) (n:Nat) (hn:n<stN F.sn F.bn):Calls Tryz.prog 148 #[F.val,.agg #[.int .i64 (.ofNat (lpN F k)),.int .i64 (stAt F (lpN F k)).r.p.l,.bool (stAt F (lpN F k)).r.p.d,.int .u8 (stAt F (lpN F k)).r.p.f,.int .u8 (stAt F (lpN F k)).r.bo,.int .i64 (lnL F (lpN F k))],.int .i64 (.ofNat n)] wc (Ret wc (.bool ((wyF F k).tw n))):=
  Qr1 F wc (hF.later hbk) hO _ _ _ _ _ _ n hn _ (fun h=>by show (decide ((stAt F (lpN F k)).r.bo=3)&&_)=false;rw[decide_eq_false h,Bool.false_and]) (fun h=>⟨(Qzn hO hk h).1,by have:=(Qzn hO hk h).2;have:=hO.ln16;omega,by show (decide ((stAt F (lpN F k)).r.bo=3)&&_)=_;rw[decide_eq_true h,Bool.true_and]⟩)
 have h30 (wc:World) (hbk:KB ⟨w,[]⟩ wc) {c:R9z} (n:Nat) (hn:n<stN F.sn F.bn):=Calls.to (c':=c) (r:=[Qzu (Qbd F n)]) ⟨fun _ _=>rfl,trivial⟩ rfl (Qd3 F wc (hF.later hbk) hO n hn)
 have hN9:=hO.pts
 have hN0:=Qdl hO
 have hlpN0:=(Qhm hk).1
 have hl0:∀m,m<(wyR F k).N->∀q∈(wyR F k).sc m,q<(wyR F k).N:=fun m hm=>Q9h hO hm
 have hsl0:∀n,(Qbd F n).length<=2:=fun n=>Qaq F n
 have hsq0:∀n,n<stN F.sn F.bn->∀t,t<(Qbd F n).length->(Qbd F n).getD t 0<stN F.sn F.bn:=fun n hn t ht=>Q9h hO hn _ (by rw[List.getD_eq_getElem?_getD,List.getElem?_eq_getElem ht];exact List.getElem_mem ht)
 obtain ⟨G,hG⟩:=x9 (wyR F k)
 have eN:G.N=stN F.sn F.bn:=by rw[hG];rfl
 have ep:G.p=lpN F k:=by rw[hG];rfl
 have es:G.sc=Qbd F:=by rw[hG];rfl
 have er:G.rg=fun m=>Qfl F (k+F.ln) m:=by rw[hG];rfl
 have ek:G.kl=fun n=>Qqf F k n:=by rw[hG];rfl
 have et:G.tw=(wyF F k).tw:=by rw[hG];rfl
 have hin:∀m,G.inB m=scI F k m/\G.usB m=scU F k m:=fun m=>by rw[hG];exact Qm9 hO hk m
 rw[<-hG] at hl0
 obtain ⟨N,hN⟩:=x9 (stN F.sn F.bn)
 obtain ⟨lp,hlp⟩:=x9 (lpN F k)
 obtain ⟨el,hel⟩:=x9 ((stAt F (lpN F k)).r.p.l:Int)
 obtain ⟨ed,hed⟩:=x9 ((stAt F (lpN F k)).r.p.d:Bool)
 obtain ⟨ef,hef⟩:=x9 ((stAt F (lpN F k)).r.p.f:Int)
 obtain ⟨eb,heb⟩:=x9 ((stAt F (lpN F k)).r.bo:Int)
 obtain ⟨lo,hlo⟩:=x9 (lnL F (lpN F k):Int)
 obtain ⟨kl,hkl⟩:=x9 (fun n=>Qqf F k n:B9z)
 obtain ⟨tw,htw⟩:=x9 ((wyF F k).tw:B9z)
 obtain ⟨rg,hrg⟩:=x9 (fun m=>Qfl F (k+F.ln) m:B9z)
 obtain ⟨sl,hsl⟩:=x9 (fun n=>(Qbd F n).length:N9z)
 obtain ⟨sq,hsq⟩:=x9 (fun n t=>(Qbd F n).getD t 0:Nat->Nat->Nat)
 obtain ⟨sI,hsI⟩:=x9 (fun j=>scI F k j:B9z)
 obtain ⟨sU,hsU⟩:=x9 (fun j=>scU F k j:B9z)
 have h1 (wc:World) (hbk:KB ⟨w,[]⟩ wc) (n:Nat) (hn:n<N):Calls Tryz.prog 147 #[F.val,.agg #[.int .i64 (.ofNat lp),.int .i64 el,.bool ed,.int .u8 ef,.int .u8 eb,.int .i64 lo],.int .i64 (.ofNat n)] wc (Ret wc (.bool (kl n))):=by
  rw[hlp,hel,hed,hef,heb,hlo,hkl];exact h10 wc hbk n (hN▸hn)
 have h2 (wc:World) (hbk:KB ⟨w,[]⟩ wc) (n:Nat) (hn:n<N):Calls Tryz.prog 148 #[F.val,.agg #[.int .i64 (.ofNat lp),.int .i64 el,.bool ed,.int .u8 ef,.int .u8 eb,.int .i64 lo],.int .i64 (.ofNat n)] wc (Ret wc (.bool (tw n))):=by
  rw[hlp,hel,hed,hef,heb,hlo,htw];exact h20 wc hbk n (hN▸hn)
 have h3 (wc:World) (hbk:KB ⟨w,[]⟩ wc) {c:R9z} (n:Nat) (hn:n<N):Calls Tryz.prog 149 #[F.val,.int .i64 (.ofNat n)] wc (RetR wc c (.pt (.one (.rs 0))) [⟨sl n,1,fun j=>[.int .i64 (.ofNat (sq n j))]⟩]):=by rw[hsl,hsq];exact h30 wc hbk n (hN▸hn)
 have hslN:∀n,sl n<=2:=by rw[hsl];exact hsl0
 have hsqN:∀n,n<N->∀t,t<sl n->sq n t<N:=by rw[hN,hsl,hsq];exact hsq0
 obtain ⟨yB,hyB⟩:=x9 (fun I U n=>(WyG.xsw G I U n).1:(Nat->Bool)->(Nat->Bool)->Nat->Bool)
 obtain ⟨yI,hyI⟩:=x9 (fun I U n=>(WyG.xsw G I U n).2.1:(Nat->Bool)->(Nat->Bool)->Nat->Nat->Bool)
 obtain ⟨yU,hyU⟩:=x9 (fun I U n=>(WyG.xsw G I U n).2.2:(Nat->Bool)->(Nat->Bool)->Nat->Nat->Bool)
 obtain ⟨yC,hyC⟩:=x9 (fun I U n=>!((decide (n=G.p)||(WyG.xsw G I U n).2.1 n)&&!G.kl n):(Nat->Bool)->(Nat->Bool)->Nat->Bool)
 obtain ⟨yW,hyW⟩:=x9 (fun I U n=>WyG.xwas G (WyG.xsw G I U n) n:(Nat->Bool)->(Nat->Bool)->Nat->Bool)
 obtain ⟨zB,hzB⟩:=x9 (fun I U n i=>(WyG.xpart G (WyG.xwas G (WyG.xsw G I U n) n) (WyG.xsw G I U n) n i).1:(Nat->Bool)->(Nat->Bool)->Nat->Nat->Bool)
 obtain ⟨zI,hzI⟩:=x9 (fun I U n i=>(WyG.xpart G (WyG.xwas G (WyG.xsw G I U n) n) (WyG.xsw G I U n) n i).2.1:(Nat->Bool)->(Nat->Bool)->Nat->Nat->Nat->Bool)
 obtain ⟨zU,hzU⟩:=x9 (fun I U n i=>(WyG.xpart G (WyG.xwas G (WyG.xsw G I U n) n) (WyG.xsw G I U n) n i).2.2:(Nat->Bool)->(Nat->Bool)->Nat->Nat->Nat->Bool)
 obtain ⟨QX,hQX⟩:=x9 (fun b I U=>WyG.XI (G:=G) b I U:Bool->(Nat->Bool)->(Nat->Bool)->Prop)
 obtain ⟨mz,hmz⟩:=x9 (WyG.mu G:Bool->(Nat->Bool)->(Nat->Bool)->Nat)
 have s0:∀I U,yB I U 0=false/\yI I U 0=I/\yU I U 0=U:=fun I U=>by rw[hyB,hyI,hyU];exact ⟨rfl,rfl,rfl⟩
 have c1:∀I U n,decide (Int.ofNat n=Int.ofNat lp)=false->yI I U n n=false->yC I U n=true:=fun I U n h1 h2=>by
  have h1:n≠lp:=fun e=>of_decide_eq_false h1 (congrArg Int.ofNat e)
  rw[hyI] at h2;rw[hyC];simp only[ep,<-hlp,decide_eq_false h1,h2,Bool.false_or,Bool.false_and,Bool.not_false]
 have c3:∀I U n,decide (Int.ofNat n=Int.ofNat lp)=true->yC I U n=kl n:=fun I U n h1=>by
  have h1:n=lp:=Int.ofNat.inj (of_decide_eq_true h1)
  rw[hkl,hyC,ek];simp only[ep,<-hlp,decide_eq_true h1,Bool.true_or,Bool.true_and,Bool.not_not]
 have c4:∀I U n,yI I U n n=true->yC I U n=kl n:=fun I U n h1=>by
  rw[hyI] at h1;rw[hkl,hyC,ek];simp only[h1,Bool.or_true,Bool.true_and,Bool.not_not]
 have w1:∀I U n,yU I U n n=true->yW I U n=true:=fun I U n h=>by
  rw[hyU] at h;rw[hyW];simp only[WyG.xwas,h,Bool.true_or]
 have w2:∀I U n,yU I U n n=false->yI I U n n=false->yW I U n=false:=fun I U n h h2=>by
  rw[hyU] at h;rw[hyI] at h2;rw[hyW];simp only[WyG.xwas,h,h2,Bool.false_and,Bool.or_false]
 have w3:∀I U n,yU I U n n=false->yI I U n n=true->yW I U n=tw n:=fun I U n h h2=>by
  rw[hyU] at h;rw[hyI] at h2;rw[hyW,htw,<-et];simp only[WyG.xwas,h,h2,Bool.true_and,Bool.false_or]
 have k1:∀I U n,yC I U n=true->yB I U (n+1)=yB I U n/\yI I U (n+1)=yI I U n/\yU I U (n+1)=yU I U n:=fun I U n h=>by
  have e:WyG.xsw G I U (n+1)=WyG.xsw G I U n:=by
   show WyG.xnode G _ n=_
   unfold WyG.xnode
   rw[if_neg]
   intro g
   rw[hyC] at h
   simp only[g.1,g.2,Bool.not_false,Bool.and_true,Bool.not_true] at h
   cases h
  rw[hyB,hyI,hyU];simp only[e];exact ⟨trivial,trivial,trivial⟩
 have p0:∀I U n,zB I U n 0=yB I U n/\zI I U n 0=yI I U n/\zU I U n 0=yU I U n:=fun I U n=>by
  rw[hzB,hzI,hzU,hyB,hyI,hyU];simp only[WyG.xpart_zero];exact ⟨trivial,trivial,trivial⟩
 have p1:∀I U n i,i<sl n->rg (sq n i)=false->zB I U n (i+1)=zB I U n i/\zI I U n (i+1)=zI I U n i/\zU I U n (i+1)=zU I U n i:=fun I U n i hi h=>by
  have h:G.rg ((G.sc n).getD i 0)=false:=by rw[hrg,hsq] at h;rw[er,es];exact h
  have hi:i<(G.sc n).length:=by rw[hsl] at hi;rw[es];exact hi
  rw[hzB,hzI,hzU];simp only[WyG.xpart_succ G _ hi]
  unfold WyG.xput
  rw[if_neg (by rw[h];decide)];exact ⟨rfl,rfl,rfl⟩
 have p2:∀I U n i,i<sl n->rg (sq n i)=true->zB I U n (i+1)=(zB I U n i||(!zI I U n i (sq n i)||(yW I U n&&!zU I U n i (sq n i))))/\zI I U n (i+1)=turn (zI I U n i) (sq n i) true/\zU I U n (i+1)=turn (zU I U n i) (sq n i) (zU I U n i (sq n i)||yW I U n):=fun I U n i hi h=>by
  have h:G.rg ((G.sc n).getD i 0)=true:=by rw[hrg,hsq] at h;rw[er,es];exact h
  have hi:i<(G.sc n).length:=by rw[hsl] at hi;rw[es];exact hi
  have e2:∀t,sq n t=(G.sc n).getD t 0:=fun t=>by rw[hsq,es]
  rw[hzB,hzI,hzU,hyW,e2];simp only[WyG.xpart_succ G _ hi]
  unfold WyG.xput
  rw[if_pos h];exact ⟨rfl,rfl,rfl⟩
 have pe:∀I U n i,sl n<=i->i<=sl n->yC I U n=false->yB I U (n+1)=zB I U n i/\yI I U (n+1)=zI I U n i/\yU I U (n+1)=zU I U n i:=fun I U n i g1 g2 h=>by
  have ei:i=(G.sc n).length:=by rw[es];rw[hsl] at g1 g2;exact Nat.le_antisymm g2 g1
  have e:WyG.xsw G I U (n+1)=(G.sc n).foldl (WyG.xput G (WyG.xwas G (WyG.xsw G I U n) n)) (WyG.xsw G I U n):=by
   show WyG.xnode G _ n=_
   unfold WyG.xnode
   rw[if_pos]
   rw[hyC] at h
   simp only[Bool.not_eq_false',Bool.and_eq_true,Bool.not_eq_true'] at h
   exact h
  rw[hyB,hyI,hyU,hzB,hzI,hzU,ei];simp only[e,WyG.xpart_end];exact ⟨trivial,trivial,trivial⟩
 have u1:∀I U n i,i<sl n->rg (sq n i)=true->zU I U n i (sq n i)=true->zU I U n (i+1)=turn (zU I U n i) (sq n i) true:=fun I U n i a b c=>by rw[(p2 I U n i a b).2.2,c,Bool.true_or]
 have u0:∀I U n i,i<sl n->rg (sq n i)=true->zU I U n i (sq n i)=false->zU I U n (i+1)=turn (zU I U n i) (sq n i) (yW I U n):=fun I U n i a b c=>by rw[(p2 I U n i a b).2.2,c,Bool.false_or]
 have b1:∀I U n i,i<sl n->rg (sq n i)=true->zB I U n i=true->zB I U n (i+1)=true:=fun I U n i a b c=>by rw[(p2 I U n i a b).1,c,Bool.true_or]
 have b2:∀I U n i,i<sl n->rg (sq n i)=true->zI I U n i (sq n i)=false->zB I U n (i+1)=true:=fun I U n i a b c=>by rw[(p2 I U n i a b).1,c,Bool.not_false,Bool.true_or,Bool.or_true]
 have b3:∀I U n i,i<sl n->rg (sq n i)=true->zB I U n i=false->zI I U n i (sq n i)=true->yW I U n=false->zB I U n (i+1)=false:=fun I U n i a b c d e=>by rw[(p2 I U n i a b).1,c,d,e];rfl
 have b4:∀I U n i,i<sl n->rg (sq n i)=true->zB I U n i=false->zI I U n i (sq n i)=true->yW I U n=true->zB I U n (i+1)= !zU I U n i (sq n i):=fun I U n i a b c d e=>by rw[(p2 I U n i a b).1,c,d,e];rfl
 have q0:QX true (fun _=>false) (fun _=>false):=by rw[hQX];exact WyG.XI.first
 have q1:∀b I U n,N<=n->n<=N->QX b I U->QX (yB I U n) (yI I U n) (yU I U n):=fun b I U n g1 g2 h=>by
  have e:n=G.N:=by omega
  rw[hQX] at h⊢;rw[hyB,hyI,hyU,e];exact WyG.XI.round hl0 h
 have q2:∀b I U n,b=true->N<=n->n<=N->QX b I U->mz (yB I U n) (yI I U n) (yU I U n)<mz b I U:=fun b I U n g0 g1 g2 h=>by
  subst g0
  have e:n=G.N:=by omega
  rw[hQX] at h;rw[hmz,hyB,hyI,hyU,e];exact WyG.XI.less hl0 h
 have q3:∀b I U,b=false->QX b I U->∀j,I j=sI j/\U j=sU j:=fun b I U g0 h j=>by
  subst g0
  rw[hQX] at h;rw[hsI,hsU]
  have hp:G.p<G.N:=by rw[ep,eN];exact hlpN0
  have:=WyG.XI.fin h hp (fun m g=>WyG.inB_lt hp hl0 g) j
  exact ⟨this.1.trans (hin j).1,this.2.trans (hin j).2⟩
 rw[<-hN,<-hrg] at hX0
 have eR:([⟨stN F.sn F.bn,1,fun j=>[.bool (scI F k j)]⟩,⟨stN F.sn F.bn,1,fun j=>[.bool (scU F k j)]⟩]:List ORow)=[⟨N,1,fun j=>[.bool (sI j)]⟩,⟨N,1,fun j=>[.bool (sU j)]⟩]:=by rw[hN,hsI,hsU]
 rw[eR,<-hN,<-hrg,<-hlo,<-heb,<-hef,<-hed,<-hel,<-hlp]
 rw[<-hN] at hN9 hN0 hlpN0
 rw[<-hlp] at hlpN0
 clear eR h10 h20 h30 hsl0 hsq0 hG eN ep es er ek et hin hl0 hN hlp hel hed hef heb hlo hkl htw hrg hsl hsq hsI hsU hyB hyI hyU hyC hyW hzB hzI hzU hQX hmz hO
 obtain ⟨pa,un,lA,ln,lc,lk,lt,bA,bn,bc,sA,sn,sc,s,jA,jn,jc,ja,jk,jo,jf,jx,je,jd⟩:=F
 obtain ⟨hX,hl,hb,hs,hj⟩:=hF
 simp only at hl hb hs hj
 clear hX
 refine Qaa (args:=[.pt (.agg (GFun.dat ⟨pa,un,lA,ln,lc,lk,lt,bA,bn,bc,sA,sn,sc,s,jA,jn,jc,ja,jk,jo,jf,jx,je,jd⟩)),.pt (.agg [.int .i64 (.ofNat lp),.int .i64 el,.bool ed,.int .u8 ef,.int .u8 eb,.int .i64 lo]),.pt (.one (.xs 4 0))]) (c:=(Qnu ⟨pa,un,lA,ln,lc,lk,lt,bA,bn,bc,sA,sn,sc,s,jA,jn,jc,ja,jk,jo,jf,jx,je,jd⟩ a N cap rg)) Tryz.func91 rfl hX0 rfl rfl ?_
 obtain ⟨_,_,nt,hnt,_,har,_,hcm,_,_,_,_,ar01,ar12,_,hzpl,_,_,zup,hzup,_,_,_,_,hT⟩:=Qca
 have hmk:0<=Int.ofNat N/\(N:Int)<=1073741824:=⟨Int.natCast_nonneg _,by omega⟩
 have RU:∀(S S':B9z) (m:Nat) (v:SC) (x:Bool),Qre v (.bool x)->S'=turn S m x->RowLe ⟨N,1,zup (fun j=>[.bool (S j)]) m 0 [v]⟩ ⟨N,1,fun j=>[.bool (S' j)]⟩:=fun S S' m v x hv e=>by
  subst e
  refine Qad hzup rfl (fun j hj g=>⟨?_,trivial⟩) (fun _=>⟨?_,trivial⟩)
  · rw[WyG.turn_ne g];exact rfl
  · rw[WyG.turn_at];exact hv
 have RE:∀(S S':B9z),S'=S->RowLe ⟨N,1,fun j=>[.bool (S j)]⟩ ⟨N,1,fun j=>[.bool (S' j)]⟩:=fun S S' e=>by subst e;exact RowLe.rfl' _
 have b5:∀I U n i,i<sl n->rg (sq n i)=true->zB I U n i=false->zI I U n i (sq n i)=true->yW I U n=true->nt (zU I U n i (sq n i))=zB I U n (i+1):=fun I U n i a b c d e=>by rw[b4 I U n i a b c d e,hnt]
 have hFin:∀b I U,b=false->QX b I U->RowLe ⟨N,1,fun j=>[.bool (I j)]⟩ ⟨N,1,fun j=>[.bool (sI j)]⟩/\RowLe ⟨N,1,fun j=>[.bool (U j)]⟩ ⟨N,1,fun j=>[.bool (sU j)]⟩:=fun b I U g h=>⟨Q0a rfl (fun j _=>⟨(q3 b I U g h j).1,trivial⟩),Q0a rfl (fun j _=>⟨(q3 b I U g h j).2,trivial⟩)⟩
 have RF:RowLe ⟨N,1,fun _=>[.lit false]⟩ ⟨N,1,fun j=>[.bool ((fun _=>false:B9z) j)]⟩:=Q0a rfl (fun j hj=>⟨rfl,trivial⟩)
 repeat' (first
  | (((with_reducible apply go_plan true hT 17 0 [0,1,2,3,5,6,7,8]);(·rfl);(·rfl);(·rfl);(·kernel_rfl);(·kernel_rfl);(·(cbv;try rfl));(·(cbv;try rfl))))
  | (((with_reducible apply Qyw 17 8 4 9);(·rfl);(·rfl);(·kernel_rfl)))
  | (((with_reducible apply go_one1 17 9 9);(·rfl);(·rfl);(·rfl);(with_reducible apply Q5f hT);(·(cbv;try rfl));(·(cbv;try rfl));(·(cbv;try rfl))))
  | (((with_reducible apply go_one1 17 9 4);(·rfl);(·rfl);(·rfl);(with_reducible apply Q5f hT);(·(cbv;try rfl));(·(cbv;try rfl));(·(cbv;try rfl))))
  | (((with_reducible apply Q5f hT (i:=4));(·(cbv;try rfl));(·(cbv;try rfl));(·(cbv;try rfl))))
  | (((with_reducible apply Q5f hT (i:=9));(·(cbv;try rfl));(·(cbv;try rfl));(·(cbv;try rfl))))
  | (((with_reducible refine Qos 9 3 (σ:=Unit) (fun _=>Qnu ⟨pa,un,lA,ln,lc,lk,lt,bA,bn,bc,sA,sn,sc,s,jA,jn,jc,ja,jk,jo,jf,jx,je,jd⟩ a N cap rg) [28,29,30,31,32,33,34,35,36,37,38,39,40,41,42,43,44] (fun _=>[(44,.pt (.one (.bool (yC I U n))))]) (fun _=>[]) rfl ?_ (fun _=>?_))))
  | (((with_reducible refine Qps 10 (σ:=Unit) (fun _=>Qnu ⟨pa,un,lA,ln,lc,lk,lt,bA,bn,bc,sA,sn,sc,s,jA,jn,jc,ja,jk,jo,jf,jx,je,jd⟩ a N cap rg) [45,46,47,48,49,50,51,52,53,54,55,56,57,58,59,60] (fun _=>[(12,.pt (.one (.bool (yW I U n))))]) (fun _=>[]) rfl ?_ (fun _=>?_))))
  | refine go1 ?_|refine go3 (fun hlt=>?_) (fun hge=>?_)|refine go2 (fun h=>?_) (fun h=>?_)|refine gof ?_
  | exact gor (ha:=Qtc) (hb:=Qtc)
  | refine gob ?_
  | ((with_reducible refine Q4c ?_ ?_);(·first|((exact hmk))))
  | ((with_reducible apply Qua (hf:=Tryz.call147));(·(cbv;try rfl));(·intro wc hbc hxc;exact h1 wc hbc n y9);intro z hz)
  | ((with_reducible apply Qua (hf:=Tryz.call148));(·(cbv;try rfl));(·intro wc hbc hxc;exact h2 wc hbc n y9);intro z hz)
  | ((with_reducible apply Qoa (hf:=Tryz.call149));(·intro S;cbv;try rfl);(·intro wc S hbc hxc hrc;exact h3 wc hbc n y9);(·rfl))
  | ((with_reducible refine Qgha (σ:={x:Bool×(Nat->Bool)×(Nat->Bool) // QX x.1 x.2.1 x.2.2}) (zs9 [11,4,21,103]) (fun x=>[(10,.pt (.one (.bool x.1.1)))]) (fun x=>[]) (fun x=>[(0,⟨N,1,fun j=>[.bool (x.1.2.1 j)]⟩),(1,⟨N,1,fun j=>[.bool (x.1.2.2 j)]⟩)]) (fun x=>mz x.1.1 x.1.2.1 x.1.2.2) ⟨(true,fun _=>false,fun _=>false),q0⟩ ?_ ?_);(·exact pfp Qtc);(rintro ⟨⟨bm,I,U⟩,hQ⟩ mm hmm))
  | ((with_reducible refine Qgha (σ:={n:Nat // n<=N}) (zs9 [12,3,22,102]) (fun x=>[zc9 11 x.1,(10,.pt (.one (.bool (yB I U x.1))))]) (fun x=>[]) (fun x=>[(0,⟨N,1,fun j=>[.bool (yI I U x.1 j)]⟩),(1,⟨N,1,fun j=>[.bool (yU I U x.1 j)]⟩)]) (fun x=>N - x.1) ⟨0,Nat.zero_le _⟩ ?_ ?_);(·exact pfp Qtc);(rintro ⟨n,hn⟩ mm hmm))
  | (((with_reducible refine Qzh () rfl ?_ ?_ ?_);(·(refine Q8c ?_ ?_ ?_ ?_<;>(cbv;(try simp only[true_and,and_true]);(try ((repeat' apply And.intro)<;>(first|trivial|rfl|exact RowLe.rfl' _|exact (c1 _ _ _ y9 y9)|exact (c1 _ _ _ y9 y9).symm|exact (c3 _ _ _ y9)|exact (c3 _ _ _ y9).symm|exact hz.trans (c3 _ _ _ y9).symm|exact (hz.trans (c3 _ _ _ y9).symm).symm|exact (c4 _ _ _ y9)|exact (c4 _ _ _ y9).symm|exact hz.trans (c4 _ _ _ y9).symm|exact (hz.trans (c4 _ _ _ y9).symm).symm|exact (w1 _ _ _ y9)|exact (w1 _ _ _ y9).symm|exact (w2 _ _ _ y9 y9)|exact (w2 _ _ _ y9 y9).symm|exact (w3 _ _ _ y9 y9)|exact (w3 _ _ _ y9 y9).symm|exact hz.trans (w3 _ _ _ y9 y9).symm|exact (hz.trans (w3 _ _ _ y9 y9).symm).symm))))));(·(cbv;try rfl));(·simp)))
  | ((with_reducible refine Qfha (⟨n+1,Nat.succ_le_of_lt y9⟩:{n:Nat // n<=N}) ?_ ?_);(·(exact Nat.lt_of_lt_of_eq (show N - (n+1)<N - n by omega) (Eq.symm y9)));(·exact pfp Qtc))
  | ((with_reducible refine Qfha (⟨(yB I U n,yI I U n,yU I U n),q1 _ _ _ _ y9 hn hQ⟩:{x:Bool×(Nat->Bool)×(Nat->Bool) // QX x.1 x.2.1 x.2.2}) ?_ ?_);(·(exact Nat.lt_of_lt_of_eq (q2 bm I U n y9 y9 hn hQ) (Eq.symm y9)));(·exact pfp Qtc))
  | fail)
 all_goals try rfl
 all_goals as_aux_lemma=>
  repeat' (first
   | (((with_reducible apply go_plan true hT 17 0 [0,1,2,3,5,6,7,8]);(·rfl);(·rfl);(·rfl);(·kernel_rfl);(·kernel_rfl);(·(cbv;try rfl));(·(cbv;try rfl))))
   | (((with_reducible apply Qyw 17 8 4 9);(·rfl);(·rfl);(·kernel_rfl)))
   | (((with_reducible apply go_one1 17 9 9);(·rfl);(·rfl);(·rfl);(with_reducible apply Q5f hT);(·(cbv;try rfl));(·(cbv;try rfl));(·(cbv;try rfl))))
   | (((with_reducible apply go_one1 17 9 4);(·rfl);(·rfl);(·rfl);(with_reducible apply Q5f hT);(·(cbv;try rfl));(·(cbv;try rfl));(·(cbv;try rfl))))
   | (((with_reducible apply Q5f hT (i:=4));(·(cbv;try rfl));(·(cbv;try rfl));(·(cbv;try rfl))))
   | (((with_reducible apply Q5f hT (i:=9));(·(cbv;try rfl));(·(cbv;try rfl));(·(cbv;try rfl))))
   | (((with_reducible refine Qos 9 3 (σ:=Unit) (fun _=>Qnu ⟨pa,un,lA,ln,lc,lk,lt,bA,bn,bc,sA,sn,sc,s,jA,jn,jc,ja,jk,jo,jf,jx,je,jd⟩ a N cap rg) [28,29,30,31,32,33,34,35,36,37,38,39,40,41,42,43,44] (fun _=>[(44,.pt (.one (.bool (yC I U n))))]) (fun _=>[]) rfl ?_ (fun _=>?_))))
   | (((with_reducible refine Qps 10 (σ:=Unit) (fun _=>Qnu ⟨pa,un,lA,ln,lc,lk,lt,bA,bn,bc,sA,sn,sc,s,jA,jn,jc,ja,jk,jo,jf,jx,je,jd⟩ a N cap rg) [45,46,47,48,49,50,51,52,53,54,55,56,57,58,59,60] (fun _=>[(12,.pt (.one (.bool (yW I U n))))]) (fun _=>[]) rfl ?_ (fun _=>?_))))
   | refine go1 ?_|refine go3 (fun hlt=>?_) (fun hge=>?_)|refine go2 (fun h=>?_) (fun h=>?_)|exact go0|refine god ?_|refine gof ?_|refine Qvha ?_ ?_
   | ((with_reducible refine Qgha (σ:={i:Nat // i<=sl n}) (zs9 [64,60]) (fun x=>[zc9 14 x.1,(10,.pt (.one (.bool (zB I U n x.1))))]) (fun x=>[]) (fun x=>[(0,⟨N,1,fun j=>[.bool (zI I U n x.1 j)]⟩),(1,⟨N,1,fun j=>[.bool (zU I U n x.1 j)]⟩)]) (fun x=>sl n - x.1) ⟨0,Nat.zero_le _⟩ ?_ ?_);(·exact pfp Qec);(rintro ⟨i,hi⟩ mm hmm))
   | (((with_reducible apply Qxa);(·exact Int.natCast_nonneg _);(·first|exact Int.ofNat_lt.2 y9|exact Int.ofNat_lt.2 hlpN0|exact Int.ofNat_lt.2 (hsqN _ y9 _ y9))))
   | ((with_reducible refine Qfha (⟨i+1,Nat.succ_le_of_lt y9⟩:{i:Nat // i<=sl n}) ?_ ?_);(·(exact Nat.lt_of_lt_of_eq (show sl n - (i+1)<sl n - i by have:=hslN n;omega) (Eq.symm y9)));(·exact pfp Qec))
   | ((with_reducible refine Qfha (⟨n+1,Nat.succ_le_of_lt y9⟩:{n:Nat // n<=N}) ?_ ?_);(·(exact Nat.lt_of_lt_of_eq (show N - (n+1)<N - n by omega) (Eq.symm y9)));(·exact pfp Qec))
   | fail)
  all_goals first
   | rfl
end Go.Proofs.YtemnfncbgalljaaGreat
