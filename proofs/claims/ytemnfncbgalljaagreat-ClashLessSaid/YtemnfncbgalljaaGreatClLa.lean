/- Lemmas. No condition. -/
import Derived.Test.YtemnfncbgalljaaGreatK7
import Derived.Test.YtemnfncbgalljaaGreatK6
namespace Go.Proofs.YtemnfncbgalljaaGreat
open Go.RowKit
set_option linter.all false
set_option maxRecDepth 100000
set_option maxHeartbeats 64000000
theorem Qeja {F:GFun} (i:Nat) (hi:i<(claL F).length):((claL F).getD i .zero).loan<lnC F/\((claL F).getD i .zero).at_<stN F.sn F.bn/\scI F ((claL F).getD i .zero).loan ((claL F).getD i .zero).at_=true/\∀j,j<i->((claL F).getD j .zero).at_<=((claL F).getD i .zero).at_:=by
 have e:(claL F).getD i .zero=(claL F)[i]:=by rw[List.getD_eq_getElem?_getD,List.getElem?_eq_getElem hi];rfl
 have hm:(claL F).getD i .zero∈claL F:=by rw[e];exact List.getElem_mem hi
 obtain ⟨h1,h2,h3⟩:=(clG F).al_mem hm
 refine ⟨h2,h1,h3,fun j hj=>?_⟩
 have e2:(claL F).getD j .zero=(claL F)[j]'o9:=by rw[List.getD_eq_getElem?_getD,List.getElem?_eq_getElem o9];rfl
 rw[e,e2]
 exact List.pairwise_iff_getElem.1 ((clG F).al_sorted _) j i (by show j<(claL F).length;omega) hi hj
theorem Qhja {F:GFun} (h:lnC F=0):(claL F).length=0:=by
 have:claL F=[]:=(clG F).al_none h _
 rw[this];rfl
theorem Qtja {p:Prop} (h:p:=by (first|((try with_reducible refine Q8c ?_ ?_ ?_ ?_);all_goals (cbv;(try simp only[true_and,and_true]);(try ((repeat' apply And.intro)<;>(first|trivial|rfl|exact RowLe.rfl' _|decide|(rw[Qda har _ o9];done)|((exact hst _ y9))|((exact yF y9))|((exact yH y9))|((exact yT y9 y9))|((rw[Qda har _ o9];done))|((rw[Qda har k (by have h9:=bs0 i y9;have h8:k<sn i:=y9;omega)];done))|fail))));done)|fail)):Pf p:=⟨h⟩
theorem Qmja (F:GFun) (w:World) (hF:F.At w) (hK:F.Ty8) (hE:F.Fe):
 Calls Tryz.prog 13 #[F.val] w (Ret w (.bool true)):=by
 have g0 (wc:World):=Q7ha wc
 have g1 wc (hk:KB ⟨w,[]⟩ wc):=Qv7 F wc (hF.later hk)
 have g2 wc (hk:KB ⟨w,[]⟩ wc):=gfC F wc (hF.later hk)
 have g3 wc (hk:KB ⟨w,[]⟩ wc):=Q2p F wc (hF.later hk) hK
 generalize greatB F=q1 at g1
 generalize gfB F=q2 at g2
 rw[Qdj] at g3
 by_cases hO:fchkV F=0
 case neg=>
  have hq:decide (fchkV F=0)=false:=decide_eq_false hO
  generalize fchkV F=z at g3 hq
  clear hK hE hO
  obtain ⟨pa,un,lA,ln,lc,lk,lt,bA,bn,bc,sA,sn,sc,s,jA,jn,jc,ja,jk,jo,jf,jx,je,jd⟩:=F
  obtain ⟨hX,hl,hb,hs,hj⟩:=hF
  simp only at hl hb hs hj
  refine Qaa (args:=[.pt (.agg (GFun.dat _))]) (c:=(Qwa _)) Tryz.func13 rfl hX rfl rfl ?_
  obtain ⟨_,_,_,hnt,ar,har,cm,hcm,_,_,_,_,ar01,ar12,zpl,hzpl,zjn,hzjn,zup,hzup,_,_,_,_,hT⟩:=Qca
  repeat' (first
   | refine goa ?_|refine go3 (fun hlt=>?_) (fun hge=>?_)|refine go2 (fun h=>?_) (fun h=>?_)|exact go0|refine goz ?_|refine Qvha ?_ ?_
   | (refine' Qiha Tryz.call51 ?_ ?_;rotate_left;(·intro wc hbc hxc;exact g0 wc))
   | ((with_reducible apply Qua (hf:=Tryz.call25));(·(cbv;try rfl));(·intro wc hbc hxc;exact g1 wc hbc);intro z hz)
   | ((with_reducible apply Qeb (hf:=Tryz.call25));(·(cbv;try rfl));(·intro wc hbc hxc;exact g1 wc hbc);intro z hz)
   | ((with_reducible apply Qua (hf:=Tryz.call26));(·(cbv;try rfl));(·intro wc hbc hxc;exact g2 wc hbc);intro z hz)
   | ((with_reducible apply Qeb (hf:=Tryz.call26));(·(cbv;try rfl));(·intro wc hbc hxc;exact g2 wc hbc);intro z hz)
   | (refine' Qiha Tryz.call35 ?_ ?_;rotate_left;(·intro wc hbc hxc;exact g3 wc hbc))
   | fail)
  all_goals rfl
 rw[hO] at g3
 have hO:F.Ok:=hO
 have hD:=hE.fd
 have h00 wc (hk:KB ⟨w,[]⟩ wc) {c:R9z}:=Calls.to (c':=c) (Qsea _) rfl (Qzga F wc (hF.later hk) hO hE)
 have h10 wc (hk:KB ⟨w,[]⟩ wc) {c:R9z}:=Calls.to (c':=c) (r:=[lnR F]) ⟨fun _ _=>rfl,trivial⟩ rfl (Q7s F wc (hF.later hk) hO)
 have h20 wc (hk:KB ⟨w,[]⟩ wc):=(Q18 F wc (hF.later hk) hO hD).mono fun _ _ h=>h.fam (G':=fun A=>rrG A (nnN (lnC F) (stN F.sn F.bn)) (scI F)) fun A p i j hj=>Qtea p i j hj
 have hz0:∀i,i<(claL F).length->_:=fun i hi=>Qeja (F:=F) i hi
 have hz50:=fun h=>Qhja (F:=F) h
 have bs0:=hO.small.s
 have bb0:=hO.small.b
 have k10 {wc:World} (hk:KB ⟨w,[]⟩ wc) {c:R9z} {A:TwA} {v:Value} (hc) (hg) (hx) (hR):=Qdja (F:=F) (A:=A) (c:=c) (K:=5) (wc:=wc) (v:=v) (hF.later hk) hK hc hg hx hR
 have k20 {wc:World} (hk:KB ⟨w,[]⟩ wc) (hz:rchkV (Qgja F)=0) {c c':R9z} {A:TwA} {v:Value} (hc) (hg) (hx) (hR):=Qlja (F:=F) (A:=A) (c:=c) (K:=5) (wc:=wc) (v:=v) (c':=c') (hF.later hk) hE ((Qdj _).symm.trans hz) hc hg hx hR
 obtain ⟨z,hz⟩:=x9 (rchkV (Qgja F))
 rw[<-hz] at k10 k20
 clear hz
 have hbE:∀i A (y:Option Addr×Nat),(fun p j=>if p=0/\j=i then (⟨y.1,F.sn i,y.2,26,fun k=>(Qaja (F.s i k)).sc⟩:Row) else Qrja F i A p j)=Qrja F (i+1) (twU A i y):=fun i A y=>by
  funext p j
  simp only[Qrja,twU]
  by_cases e:j=i
  · subst e
    by_cases p0:p=0
    · subst p0;simp
    · simp[p0]
  · by_cases l:j<i
    · have l2:j<i+1:=by omega
      simp[e,l,l2]
    · have l2:¬j<i+1:=by omega
      simp[e,l,l2]
 obtain ⟨bg,hbg⟩:=x9 (Qrja F:Nat->TwA->Nat->Nat->Row)
 obtain ⟨bB,hbB⟩:=x9 (Qpja F:TwA->Nat->List SC)
 obtain ⟨tu,htu⟩:=x9 (twU:TwA->Nat->Option Addr×Nat->TwA)
 obtain ⟨bS,hbS⟩:=x9 (fun i k=>Qaja (F.s i k):Nat->Nat->GStmt)
 obtain ⟨ys,hys⟩:=x9 (fun i k j=>if j<k then Qaja (F.s i j) else F.s i j:Nat->Nat->Nat->GStmt)
 have y0:∀i j,ys i 0 j=F.s i j:=fun i j=>by rw[hys];rfl
 have yN:∀i j,j<F.sn i->ys i (F.sn i) j=bS i j:=fun i j h=>by rw[hys,hbS];exact if_pos h
 have yE:∀i k j,j≠k->ys i (k+1) j=ys i k j:=fun i k j h=>by
  rw[hys];simp only
  by_cases g:j<k
  · rw[if_pos g,if_pos o9]
  · rw[if_neg g,if_neg o9]
 have yk:∀i k,ys i k k=F.s i k:=fun i k=>by rw[hys];exact if_neg o9
 have yK:∀i k,ys i (k+1) k=Qaja (F.s i k):=fun i k=>by rw[hys];exact if_pos o9
 have yf:∀i k,decide ((ys i k k).k=1)=false->∀j,ys i (k+1) j=ys i k j:=fun i k h j=>by
  by_cases e:j=k
  · subst e
    rw[yk] at h⊢
    rw[yK]
    exact if_neg (fun g=>of_decide_eq_false h g.1)
  · exact yE i k j e
 have yg:∀i k,decide ((ys i k k).r.k=4)=false->∀j,ys i (k+1) j=ys i k j:=fun i k h j=>by
  by_cases e:j=k
  · subst e
    rw[yk] at h⊢
    rw[yK]
    exact if_neg (fun g=>of_decide_eq_false h g.2)
  · exact yE i k j e
 have yt:∀i k,decide ((ys i k k).k=1)=true->decide ((ys i k k).r.k=4)=true->ys i (k+1) k=⟨(ys i k k).k,(ys i k k).p,⟨1,0,0,⟨1,0,.zero⟩,.zero,.zero⟩,(ys i k k).a,(ys i k k).l⟩:=fun i k h g=>by
  rw[yk] at h g⊢
  rw[yK]
  exact if_pos ⟨of_decide_eq_true h,of_decide_eq_true g⟩
 clear yk yK
 have b0:bg 0 (fun _=>(none,0))=NoFam:=by
  rw[hbg];funext p j
  simp only[Qrja]
  rw[if_neg o9];rfl
 have bP:∀i A p j k,k<(bg i A p j).n->Qob ((bg i A p j).el k)=true:=fun i A p j k h=>by
  rw[hbg] at h⊢
  simp only[Qrja] at h⊢
  split at h
  · rename_i g;rw[if_pos g];rfl
  · exact absurd h (Nat.not_lt_zero _)
 have bz:∀i A,(bg i A 0 i).n=0:=fun i A=>by
  rw[hbg];simp only[Qrja]
  rw[if_neg o9]
 have bq:∀A j,qbL 5 (bB A j)=true:=fun A j=>by rw[hbB];rfl
 have bG:∀i A b,b<i->bg i A 0 b=⟨(A b).1,F.sn b,(A b).2,26,fun k=>(bS b k).sc⟩:=fun i A b h=>by
  rw[hbg,hbS];simp only[Qrja];rw[if_pos ⟨trivial,h⟩]
 obtain ⟨th,hth⟩:=x9 (fun i A y p j=>if p=0/\j=i then ⟨y.1,F.sn i,y.2,26,fun k=>(bS i k).sc⟩ else bg i A p j:Nat->TwA->Option Addr×Nat->Nat->Nat->Row)
 have h1:∀i A (a:Option Addr) (cap:Nat) p' i',¬(p'=0/\i'=i)->th i A (a,cap) p' i'=bg i A p' i':=fun i A a cap p' i' h=>by rw[hth];simp only;rw[if_neg h]
 have h2:∀i A (a:Option Addr) (cap:Nat),th i A (a,cap) 0 i=⟨a,F.sn i,cap,26,fun k=>(bS i k).sc⟩:=fun i A a cap=>by rw[hth];simp only[and_self,if_true]
 have hup:∀i A y,th i A y=bg (i+1) (tu A i y):=fun i A y=>by
  rw[hth,hbg,htu,hbS]
  exact hbE i A y
 have hb1:∀i A y j,j<i->bB (tu A i y) j=bB A j:=fun i A y j h=>by
  rw[hbB,htu]
  simp only[Qpja,twU]
  rw[if_neg o9]
 have hb2:∀i A (a1:Option Addr) (c1:Nat),bB (tu A i (a1,c1)) i=[.val (.slice a1 (F.sn i) c1),.int .u8 (F.jk i),.int .u8 (F.jo i).k,.int .i64 (F.jo i).n,.int .i64 (F.jo i).p.l,.bool (F.jo i).p.d,.int .u8 (F.jo i).p.f,.int .i64 (F.jf i),.int .i64 (F.jx i),.int .i64 (F.je i),.xs 3 i,.int .i64 (F.jd i).l,.bool (F.jd i).d,.int .u8 (F.jd i).f]:=fun i A a1 c1=>by
  rw[hbB,htu]
  simp only[Qpja,twU,if_true]
 have huN:∀{w:World} {A:TwA} {i:Nat} {a:Option Addr} {cap:Nat},(∀j,Q3d w (A j).1)->Q3d w a->∀j,Q3d w (tu A i (a,cap) j).1:=fun {w A i a cap} h g j=>by
  rw[htu]
  simp only[twU]
  split
  · exact g
  · exact h j
 have k1 {wc:World} (hk:KB ⟨w,[]⟩ wc) {c:R9z} {A:TwA} {v:Value} (hc:∀q i,q<4->c q i=Qwa F q i) (hg:∀b,c 5 b=bg F.bn A 0 b) (hx:XOk ⟨[],c,[]⟩ ⟨wc,[]⟩) (hR:RowIs c wc ⟨F.bn,14,bB A⟩ v):Calls Tryz.prog 35 #[.agg #[.int .i64 F.pa,.bool F.un,.slice F.lA F.ln F.lc,v]] wc (Ret wc (.int .i64 z)):=by
  refine k10 (A:=A) hk hc (fun b hb=>?_) hx (hbB▸hR)
  rw[hg b,bG _ _ _ hb,hbS]
 have k2 {wc:World} (hk:KB ⟨w,[]⟩ wc) (hz:z=0) {c:R9z} {A:TwA} {v:Value} (hc:∀q i,q<4->c q i=Qwa F q i) (hg:∀b,c 5 b=bg F.bn A 0 b) (hx:XOk ⟨[],c,[]⟩ ⟨wc,[]⟩) (hR:RowIs c wc ⟨F.bn,14,bB A⟩ v) {c':R9z}:Calls Tryz.prog 20 #[.agg #[.int .i64 F.pa,.bool F.un,.slice F.lA F.ln F.lc,v]] wc (RetR wc c' (.tup [.one (.rs 0),.one (.int .i64 0)]) [⟨0,7,fun _=>[.int .i64 0,.int .i64 0,.int .i64 0,.bool false,.int .u8 0,.bool false,.bool false]⟩]):=by
  have:=k20 (A:=A) (c':=c') hk hz hc (fun b hb=>?_) hx (hbB▸hR)
  · exact this
  · rw[hg b,bG _ _ _ hb,hbS]
 clear k10 k20 hbE bG
 have hL90:(claL F).length<=600 * ((9+600) * 600):=by
  have hN9:=hO.pts
  have hP9:lnC F<=600:=Nat.le_trans (Qxb F _) hN9
  exact Nat.le_trans (Qzea hO (Nat.le_refl _)) (Nat.mul_le_mul hN9 (Nat.mul_le_mul (Nat.add_le_add_left hP9 9) hP9))
 obtain ⟨N,hN⟩:=x9 (stN F.sn F.bn)
 obtain ⟨P,hP⟩:=x9 (lnC F)
 obtain ⟨L,hL⟩:=x9 ((claL F).length)
 obtain ⟨sI,hsI⟩:=x9 (scI F:B9y)
 obtain ⟨nn,hnn⟩:=x9 (nnN (lnC F) (stN F.sn F.bn):N9z)
 obtain ⟨lp,hlp⟩:=x9 (lpN F:N9z)
 obtain ⟨el,hel⟩:=x9 (fun j=>(stAt F (lpN F j)).r.p.l:I9z)
 obtain ⟨ed,hed⟩:=x9 (fun j=>(stAt F (lpN F j)).r.p.d:B9z)
 obtain ⟨ef,hef⟩:=x9 (fun j=>(stAt F (lpN F j)).r.p.f:I9z)
 obtain ⟨eb,heb⟩:=x9 (fun j=>(stAt F (lpN F j)).r.bo:I9z)
 obtain ⟨lo,hlo⟩:=x9 (fun j=>lnL F (lpN F j):I9z)
 obtain ⟨zo,hzo⟩:=x9 (fun j=>((claL F).getD j .zero).at_:N9z)
 obtain ⟨zk,hzk⟩:=x9 (fun j=>((claL F).getD j .zero).loan:N9z)
 obtain ⟨zl,hzl⟩:=x9 (fun j=>((claL F).getD j .zero).t.p.l:I9z)
 obtain ⟨zd,hzd⟩:=x9 (fun j=>((claL F).getD j .zero).t.p.d:B9z)
 obtain ⟨zf,hzf⟩:=x9 (fun j=>((claL F).getD j .zero).t.p.f:I9z)
 obtain ⟨zw,hzw⟩:=x9 (fun j=>((claL F).getD j .zero).t.w:B9z)
 obtain ⟨zz,hzz⟩:=x9 (fun j=>((claL F).getD j .zero).t.d:B9z)
 have h0 wc (hk:KB ⟨w,[]⟩ wc) {c:R9z}:Calls Tryz.prog 20 #[F.val] wc (RetR wc c (.tup [.one (.rs 0),.one (.int .i64 0)]) [⟨L,7,fun j=>[.int .i64 (.ofNat (zo j)),.int .i64 (.ofNat (zk j)),.int .i64 (zl j),.bool (zd j),.int .u8 (zf j),.bool (zw j),.bool (zz j)]⟩]):=by
  have:=@h00 wc hk c
  rw[claR] at this
  rw[hL,hzo,hzk,hzl,hzd,hzf,hzw,hzz];exact this
 have h3 wc (hk:KB ⟨w,[]⟩ wc) {c:R9z}:Calls Tryz.prog 52 #[F.val] wc (RetR wc c (.tup [.one (.rs 0),.one (.int .i64 0)]) [⟨P,6,fun j=>[.int .i64 (.ofNat (lp j)),.int .i64 (el j),.bool (ed j),.int .u8 (ef j),.int .u8 (eb j),.int .i64 (lo j)]⟩]):=by
  have:=@h10 wc hk c
  rw[lnR] at this
  rw[hP,hlp,hel,hed,hef,heb,hlo];exact this
 have h4 wc (hk:KB ⟨w,[]⟩ wc):Calls Tryz.prog 53 #[F.val] wc (RetX wc (fun _:AdF=>.tup [.one (.rs 0),.one (.int .i64 0)]) (fun A=>[⟨P,1,fun j=>[.val (.slice (A j).1 N (A j).2)]⟩]) (fun A=>rrG A nn sI)):=by rw[hP,hN,hnn,hsI];exact h20 wc hk
 have hnk:∀k,k<P->nn k=N:=fun k hk=>by rw[hnn,hN];exact Qde (hP▸hk)
 have fz:∀i,i<L->zk i<P/\zo i<N/\sI (zk i) (zo i)=true/\∀j,j<i->zo j<=zo i:=by rw[hL,hzk,hzo,hP,hN,hsI];exact hz0
 have hL9:L<=219240000:=by rw[hL];exact hL90
 have fz5:P=0->L=0:=by rw[hP,hL];exact hz50
 clear h00 h10 h20 hz0 hz50 hL90 hK hN hP hL hsI hnn hlp hel hed hef heb hlo hzo hzk hzl hzd hzf hzw hzz hO hE hD hbg hbB htu hbS hys hth
 obtain ⟨pa,un,lA,ln,lc,lk,lt,bA,bn,bc,sA,sn,sc,s,jA,jn,jc,ja,jk,jo,jf,jx,je,jd⟩:=F
 obtain ⟨hX,hl,hb,hs,hj⟩:=hF
 simp only at hl hb hs hj
 try simp only at g1 g2 g3 h0 h3 h4 bs0 bb0 y0 yN h2 hb2 k1 k2
 refine Qaa (args:=[.pt (.agg (GFun.dat _))]) (c:=(Qwa _)) Tryz.func13 rfl hX rfl rfl ?_
 obtain ⟨_,_,_,hnt,ar,har,cm,hcm,_,_,_,_,ar01,ar12,zpl,hzpl,zjn,hzjn,zup,hzup,_,_,_,_,hT⟩:=Qca
 have hc5:∀A,∀q i j,q<5->j<(Q3a (Qwa ⟨pa,un,lA,ln,lc,lk,lt,bA,bn,bc,sA,sn,sc,s,jA,jn,jc,ja,jk,jo,jf,jx,je,jd⟩) 4 (rrG A nn sI) q i).n->qbL 5 ((Q3a (Qwa ⟨pa,un,lA,ln,lc,lk,lt,bA,bn,bc,sA,sn,sc,s,jA,jn,jc,ja,jk,jo,jf,jx,je,jd⟩) 4 (rrG A nn sI) q i).el j)=true:=fun A=>Qiia (Qmc _) (fun p i j h=>Q9c (Qwc p i j h))
 have hst:∀i,i<bn->RowLe ⟨zpl 0 (sn i),26,zjn 0 (fun j=>Qte [] (j * 26) 26) (fun k=>(s i k).sc)⟩ ⟨sn i,26,fun k=>(ys i 0 k).sc⟩:=fun i hi=>by
  subst hzpl hzjn
  refine ⟨by show 0+sn i=sn i;omega,rfl,fun j hj=>?_⟩
  simp only[rJn,Nat.not_lt_zero,if_false,Nat.sub_zero]
  rw[y0]
  exact Qpa _
 have hbl:∀i A (a1:Option Addr) (c1:Nat),i<bn->RowLe ⟨zpl i 1,14,zjn i (bB A) (fun j=>Qte [.val (.slice a1 (sn i) c1),.int .u8 (jk i),.int .u8 (jo i).k,.int .i64 (jo i).n,.int .i64 (jo i).p.l,.bool (jo i).p.d,.int .u8 (jo i).p.f,.int .i64 (jf i),.int .i64 (jx i),.int .i64 (je i),.xs 3 i,.int .i64 (jd i).l,.bool (jd i).d,.int .u8 (jd i).f] (0+j * 14) 14)⟩ ⟨i+1,14,bB (tu A i (a1,c1))⟩:=fun i A a1 c1 hi=>by
  refine Q7a hzpl hzjn rfl (fun j hj=>?_) ?_
  · rw[hb1 i A _ j hj];exact Qpa _
  · rw[hb2];exact Qpa _
 have hn0:(0:Nat)<=bn/\∀j:Nat,Q3d w ((fun _=>((none:Option Addr),0):TwA) j).1:=⟨Nat.zero_le _,fun j=>fun b p h=>(by cases h)⟩
 have yR:∀{i k:Nat},k<=sn i->sn i<=k->RowLe ⟨sn i,26,fun j=>(ys i k j).sc⟩ ⟨sn i,26,fun j=>(bS i j).sc⟩:=fun {i k} h g=>by
  have e:k=sn i:=by omega
  subst e
  exact ⟨rfl,rfl,fun j hj=>by show Qbc (ys i (sn i) j).sc _;rw[yN i j hj];exact Qpa _⟩
 have yF:∀{i k:Nat},decide ((ys i k k).k=1)=false->RowLe ⟨sn i,26,fun j=>(ys i k j).sc⟩ ⟨sn i,26,fun j=>(ys i (k+1) j).sc⟩:=fun {i k} h=>⟨rfl,rfl,fun j hj=>by simp only[yf i k h j];exact Qpa _⟩
 have yH:∀{i k:Nat},decide ((ys i k k).r.k=4)=false->RowLe ⟨sn i,26,fun j=>(ys i k j).sc⟩ ⟨sn i,26,fun j=>(ys i (k+1) j).sc⟩:=fun {i k} h=>⟨rfl,rfl,fun j hj=>by simp only[yg i k h j];exact Qpa _⟩
 have yT:∀{i k:Nat},decide ((ys i k k).k=1)=true->decide ((ys i k k).r.k=4)=true->RowLe ⟨sn i,26,zup (fun j=>(ys i k j).sc) k 4 [.int .u8 1,.int .u8 0,.int .u8 0,.int .u8 1,.int .i64 0,.int .i64 0,.bool false,.int .u8 0,.int .u8 0,.int .i64 0,.int .i64 0,.bool false,.int .u8 0,.int .i64 0,.bool false,.int .u8 0]⟩ ⟨sn i,26,fun j=>(ys i (k+1) j).sc⟩:=fun {i k} h g=>by
  refine Qad hzup rfl (fun j hj e=>?_) (fun _=>?_)
  · simp only[yE i k j e];exact Qpa _
  · simp only[yt i k h g];exact Qpa _
 have hsub:∀i,i<L->cm .gtr (.ofNat i) 0=true->ar .sub .i64 (.ofNat i) 1=.ofNat (i - 1)/\0<i:=fun i h g=>by
  rw[hcm] at g
  have h9:=of_decide_eq_true (p:=((0:Int)<Int.ofNat i)) g
  simp only[Int.ofNat_eq_natCast] at h9
  have h0:0<i:=by omega
  refine ⟨?_,h0⟩
  rw[har]
  show IntKind.wrap .i64 (Int.ofNat i - 1)=_
  simp only[Int.ofNat_eq_natCast,IntKind.wrap,IntKind.bits,IntKind.signed]
  simp
  omega
 repeat' (first
  | refine goa ?_|refine go3 (fun hlt=>?_) (fun hge=>?_)|refine go2 (fun h=>?_) (fun h=>?_)|exact go0|refine god ?_|refine gof ?_|refine Qvha ?_ ?_
  | ((first|with_reducible apply Qhb hT|with_reducible apply Qna hT);(·(cbv;try rfl));(·(cbv;try rfl));(·exact Qtja);(·exact Qtja);(·rfl))
  | refine gob ?_
  | ((with_reducible refine Q4c ?_ ?_);(·first|((rw[hzpl];show i+1<=1073741824;omega))))
  | (refine' Qiha Tryz.call51 ?_ ?_;rotate_left;(·intro wc hbc hxc;exact g0 wc))
  | ((with_reducible apply Qua (hf:=Tryz.call25));(·(cbv;try rfl));(·intro wc hbc hxc;exact g1 wc hbc);intro z hz)
  | ((with_reducible apply Qeb (hf:=Tryz.call25));(·(cbv;try rfl));(·intro wc hbc hxc;exact g1 wc hbc);intro z hz)
  | ((with_reducible apply Qua (hf:=Tryz.call26));(·(cbv;try rfl));(·intro wc hbc hxc;exact g2 wc hbc);intro z hz)
  | ((with_reducible apply Qeb (hf:=Tryz.call26));(·(cbv;try rfl));(·intro wc hbc hxc;exact g2 wc hbc);intro z hz)
  | (refine' Qiha Tryz.call35 ?_ ?_;rotate_left;(·intro wc hbc hxc;exact g3 wc hbc))
  | ((with_reducible apply Qoa (hf:=Tryz.call20));(·intro S;cbv;try rfl);(·intro wc S hbc hxc hrc;exact h0 wc hbc);(·rfl))
  | ((with_reducible apply Qoa (hf:=Tryz.call52));(·intro S;cbv;try rfl);(·intro wc S hbc hxc hrc;exact h3 wc hbc);(·rfl))
  | (((with_reducible apply Qhc 4 (hf:=Tryz.call53));(·intro S;cbv;try rfl);(·intro wc S hbc hxc hrc;exact h4 wc hbc);(·intro A;rfl);(·intro A;rfl);(·rfl);(·rfl);(·exact ⟨fun _ _=>rfl,fun _ _=>rfl,trivial⟩);(·exact Qmc _);(·intro A;exact ⟨fun j hj=>rfl,trivial⟩);(·intro A p i j hj;exact Qwc p i j hj);(intro A1 hnA1;refine Qsca 2 (fun j=>[.xs 4 j]) rfl (fun j hj vs hv=>Q8da ⟨rfl,hnk j hj,rfl⟩ vs hv) ?_;refine Qcm 5 rfl rfl ⟨fun _ _=>rfl,fun _ _=>rfl,fun _ _=>rfl,trivial⟩ (hc5 A1) ?_)))
  | ((with_reducible refine Qgha (σ:={i:Nat // i<=L}) (zs9 [11,1,75,63]) (fun x=>[zc9 10 x.1]) (fun x=>[]) (fun x=>[]) (fun x=>L - x.1) ⟨0,Nat.zero_le _⟩ ?_ ?_);(·exact pfp Qtja);(rintro ⟨i,hi⟩ mm hmm))
  | (((with_reducible refine Q4c ?_ ?_);(·exact ⟨fun j hj=>⟨rfl,rfl⟩,by rw[hzpl];show 0+sn i<=1073741824;have:=bs0 i y9;omega⟩)))
  | (((with_reducible apply Qxa);(·exact Int.natCast_nonneg _);(·first|exact Int.ofNat_lt.2 y9|exact Int.ofNat_lt.2 (fz i y9).1|(rw[hnk _ (fz i y9).1];exact Int.ofNat_lt.2 (fz i y9).2.1))))
  | (((with_reducible apply Qxa);(·(rw[(hsub i y9 y9).1];exact Int.natCast_nonneg _));(·(rw[(hsub i y9 y9).1];exact Int.ofNat_lt.2 (by have h9:i<L:=y9;have h8:=(hsub i y9 y9).2;omega)))))
  | ((with_reducible refine Qfha (⟨i+1,Nat.succ_le_of_lt y9⟩:{i:Nat // i<=L}) ?_ ?_);(·exact msr y9 y9);(·exact pfp Qtja))
  | (fail)
  | fail)
 all_goals try first
  | rfl
  | (exfalso;rw[hcm,fz5 (Int.ofNat.inj (of_decide_eq_true y9))] at h;exact absurd h (by decide))
  | (exfalso;rw[hcm] at h;have h9:=of_decide_eq_true (p:=(Int.ofNat (zk i)<0)) h;simp only[Int.ofNat_eq_natCast] at h9;omega)
  | (exfalso;rw[hcm] at h;have h9:=of_decide_eq_true (p:=(Int.ofNat (zo i)<0)) h;simp only[Int.ofNat_eq_natCast] at h9;omega)
  | (exfalso;have h8:=(fz i y9).1;rw[hcm] at h;have h9:=of_decide_eq_true (p:=(Int.ofNat P<=Int.ofNat (zk i))) h;simp only[Int.ofNat_eq_natCast] at h9;omega)
  | (exfalso;have h8:=(fz i y9).2.1;have h7:=hnk _ (fz i y9).1;rw[hcm] at h;have h9:=of_decide_eq_true (p:=(Int.ofNat (nn (zk i))<=Int.ofNat (zo i))) h;simp only[Int.ofNat_eq_natCast] at h9;omega)
  | (exfalso;have h8:=(fz i y9).2.2.1;rename_i h7;rw[h8] at h;cases h)
  | (exfalso;have h8:=hsub i y9 y9;have h7:=(fz i y9).2.2.2 (i - 1) o9;rw[hcm,h8.1] at h;have h9:=of_decide_eq_true (p:=(Int.ofNat (zo i)<Int.ofNat (zo (i - 1)))) h;simp only[Int.ofNat_eq_natCast] at h9;omega)
 all_goals as_aux_lemma=>
  repeat' (first
   | (((have hz7:sn i<=k:=y9);(refine Qnc 4 0 i (fun a cap=>th i A (a,cap)) (R:=⟨sn i,26,fun j=>(bS i j).sc⟩) rfl ?_ rfl ?_ ?_ ?_ ?_ ?_ ?_ ?_ ?_ ?_);(·exact yR hk hz7);(·exact (fun v=>rfl));(·exact ⟨fun _ _=>rfl,fun _ _=>rfl,fun _ _=>rfl,fun j _=>bq A j,trivial⟩);(·exact (fun j hj=>rfl));(·exact hc5 A1);(·exact (fun p j k h=>bP i A p j k h));(·exact (bz i A));(·exact (fun a cap p' i' h=>h1 i A a cap p' i' h));(·exact (fun a cap=>h2 i A a cap));(intro a1 c1 hn1)))
   | (refine gov ?_;(try simp only[ar01,ar12]))
   | ((with_reducible apply go_takeC 0 hT (g:=39) (hfun:=Tryz.call39));(·rfl);(·kernel_rfl);(·rfl);(·rfl);(·(intro h_;cases h_));(·kernel_rfl);(·kernel_rfl);(·kernel_rfl);(·(cbv;try rfl));(·(cbv;try rfl));(·(cbv;try rfl));(·intro wc;exact Q1ha _ wc))
   | ((with_reducible apply go_takeC 1 hT (g:=39) (hfun:=Tryz.call39));(·rfl);(·kernel_rfl);(·rfl);(·rfl);(·(intro h_;cases h_));(·kernel_rfl);(·kernel_rfl);(·kernel_rfl);(·(cbv;try rfl));(·(cbv;try rfl));(·(cbv;try rfl));(·intro wc;exact Q1ha _ wc))
   | ((with_reducible apply go_takeC 2 hT (g:=39) (hfun:=Tryz.call39));(·rfl);(·kernel_rfl);(·rfl);(·rfl);(·(intro h_;cases h_));(·kernel_rfl);(·kernel_rfl);(·kernel_rfl);(·(cbv;try rfl));(·(cbv;try rfl));(·(cbv;try rfl));(·intro wc;exact Q1ha _ wc))
   | ((with_reducible apply go_takeC 3 hT (g:=39) (hfun:=Tryz.call39));(·rfl);(·kernel_rfl);(·rfl);(·rfl);(·(intro h_;cases h_));(·kernel_rfl);(·kernel_rfl);(·kernel_rfl);(·(cbv;try rfl));(·(cbv;try rfl));(·(cbv;try rfl));(·intro wc;exact Q1ha _ wc))
   | ((with_reducible apply go_takeC 4 hT (g:=39) (hfun:=Tryz.call39));(·rfl);(·kernel_rfl);(·rfl);(·rfl);(·(intro h_;cases h_));(·kernel_rfl);(·kernel_rfl);(·kernel_rfl);(·(cbv;try rfl));(·(cbv;try rfl));(·(cbv;try rfl));(·intro wc;exact Q1ha _ wc))
   | ((with_reducible apply go_takeC 0 hT (g:=38) (hfun:=Tryz.call38));(·rfl);(·kernel_rfl);(·rfl);(·rfl);(·(intro h_;cases h_));(·kernel_rfl);(·kernel_rfl);(·kernel_rfl);(·(cbv;try rfl));(·(cbv;try rfl));(·(cbv;try rfl));(·intro wc;exact Qeia _ _ _ _ wc))
   | ((with_reducible apply go_takeC 1 hT (g:=38) (hfun:=Tryz.call38));(·rfl);(·kernel_rfl);(·rfl);(·rfl);(·(intro h_;cases h_));(·kernel_rfl);(·kernel_rfl);(·kernel_rfl);(·(cbv;try rfl));(·(cbv;try rfl));(·(cbv;try rfl));(·intro wc;exact Qeia _ _ _ _ wc))
   | ((with_reducible apply go_takeC 2 hT (g:=38) (hfun:=Tryz.call38));(·rfl);(·kernel_rfl);(·rfl);(·rfl);(·(intro h_;cases h_));(·kernel_rfl);(·kernel_rfl);(·kernel_rfl);(·(cbv;try rfl));(·(cbv;try rfl));(·(cbv;try rfl));(·intro wc;exact Qeia _ _ _ _ wc))
   | ((with_reducible apply go_takeC 3 hT (g:=38) (hfun:=Tryz.call38));(·rfl);(·kernel_rfl);(·rfl);(·rfl);(·(intro h_;cases h_));(·kernel_rfl);(·kernel_rfl);(·kernel_rfl);(·(cbv;try rfl));(·(cbv;try rfl));(·(cbv;try rfl));(·intro wc;exact Qeia _ _ _ _ wc))
   | ((with_reducible apply go_takeC 4 hT (g:=38) (hfun:=Tryz.call38));(·rfl);(·kernel_rfl);(·rfl);(·rfl);(·(intro h_;cases h_));(·kernel_rfl);(·kernel_rfl);(·kernel_rfl);(·(cbv;try rfl));(·(cbv;try rfl));(·(cbv;try rfl));(·intro wc;exact Qeia _ _ _ _ wc))
   | refine goa ?_|refine go3 (fun hlt=>?_) (fun hge=>?_)|refine go2 (fun h=>?_) (fun h=>?_)|exact go0|refine god ?_|refine gof ?_|refine Qvha ?_ ?_
   | ((first|with_reducible apply Qhb hT|with_reducible apply Qna hT);(·(cbv;try rfl));(·(cbv;try rfl));(·exact Qtja);(·exact Qtja);(·rfl))
   | refine gob ?_
   | ((with_reducible refine Q4c ?_ ?_);(·first|((rw[hzpl];show i+1<=1073741824;omega))))
   | (((with_reducible apply Q9q 1 3 14);(·(cbv;try rfl))))
   | ((with_reducible refine Qgha (σ:={k:Nat // k<=sn i}) (zs9 [157,31]) (fun x=>[zc9 15 x.1]) (fun x=>[]) (fun x=>[(4,⟨sn i,26,fun j=>(ys i x.1 j).sc⟩)]) (fun x=>sn i - x.1) ⟨0,Nat.zero_le _⟩ ?_ ?_);(·exact pfp Qtja);(rintro ⟨k,hk⟩ mm hmm))
   | ((rw[<-b0];(with_reducible refine Qne (σ:={x:Nat×TwA // x.1<=bn/\∀j,Q3d w (x.2 j).1}) (fun x=>Q3a (Q3a (Qwa ⟨pa,un,lA,ln,lc,lk,lt,bA,bn,bc,sA,sn,sc,s,jA,jn,jc,ja,jk,jo,jf,jx,je,jd⟩) 4 (rrG A1 nn sI)) 5 (bg x.1.1 x.1.2)) [14,15,140,141,142,143,144,145,146,147,148,149,150,151,152,153,154,155,156,157,158,159,160,161,162,163,164,165,166,167,168,169,170,171,172,173,174,175,176,177,178,179,180,181,182,183,184,185,186,187,188,189,190,191,192,193] (fun x=>[(13,.pt (.one (.int .i64 (.ofNat x.1.1))))]) (fun x=>[]) (fun x=>[(3,⟨x.1.1,14,bB x.1.2⟩)]) (fun x=>bn - x.1.1) ⟨(0,fun _=>(none,0)),hn0⟩ rfl rfl ?_ ?_ ?_ ?_);(·(refine Q8c ?_ ?_ ?_ ?_<;>(cbv;(try simp only[true_and,and_true]);(try ((repeat' apply And.intro)<;>(first|trivial|rfl|exact RowLe.rfl' _|exact Q0a rfl (fun j hj=>absurd hj (Nat.not_lt_zero _))|(rw[Qda har _ o9])|(exact hbl _ _ _ _ y9)))))));(·(cbv;try rfl));(·simp);(rintro ⟨⟨i,A⟩,hi,hA⟩ mm hmm)))
   | (((with_reducible refine Q4c ?_ ?_);(·exact ⟨fun j hj=>⟨rfl,rfl⟩,by rw[hzpl];show 0+sn i<=1073741824;have:=bs0 i y9;omega⟩)))
   | (((with_reducible apply Qxa);(·exact Int.natCast_nonneg _);(·first|exact Int.ofNat_lt.2 y9|exact Int.ofNat_lt.2 (fz i y9).1|(rw[hnk _ (fz i y9).1];exact Int.ofNat_lt.2 (fz i y9).2.1))))
   | (((with_reducible apply Qxa);(·(rw[(hsub i y9 y9).1];exact Int.natCast_nonneg _));(·(rw[(hsub i y9 y9).1];exact Int.ofNat_lt.2 (by have h9:i<L:=y9;have h8:=(hsub i y9 y9).2;omega)))))
   | (refine' Qiha Tryz.call39 ?_ ?_;rotate_left;(·intro wc hbc hxc;exact Q1ha _ wc))
   | (refine' Qiha Tryz.call38 ?_ ?_;rotate_left;(·intro wc hbc hxc;exact Qeia _ _ _ _ wc))
   | refine Qhha Tryz.func42 Tryz.results42 Tryz.call42 ?_
   | refine Qhha Tryz.func37 Tryz.results37 Tryz.call37 ?_
   | ((exact absurd (by assumption:(0:Nat)<0) (Nat.lt_irrefl 0)))
   | ((exact absurd (by assumption:cm .lss 0 (Int.ofNat 0)=true) (by rw[hcm];decide)))
   | ((exact absurd (by assumption:cm .lss (Int.ofNat 0) (Int.ofNat 0)=true) (by rw[hcm];decide)))
   | (with_reducible apply Qqa 1)
   | ((with_reducible refine Qfha (⟨k+1,Nat.succ_le_of_lt y9⟩:{k:Nat // k<=sn i}) ?_ ?_);(·exact msr y9 y9);(·exact pfp Qtja))
   | (((with_reducible refine Qqe (⟨(i+1,tu A i (a1,c1)),by omega,huN hA hn1⟩:{x:Nat×TwA // x.1<=bn/\∀j,Q3d w (x.2 j).1}) (by rw[hup]) ?_ ?_ ?_ ?_);(·exact Nat.lt_of_lt_of_eq (show bn - (i+1)<bn - i by omega) (Eq.symm y9));(·(refine Q8c ?_ ?_ ?_ ?_<;>(cbv;(try simp only[true_and,and_true]);(try ((repeat' apply And.intro)<;>(first|trivial|rfl|exact RowLe.rfl' _|exact Q0a rfl (fun j hj=>absurd hj (Nat.not_lt_zero _))|(rw[Qda har _ o9])|(exact hbl _ _ _ _ y9)))))));(·(cbv;try rfl));(·simp)))
   | ((with_reducible apply Qbp (hf:=Tryz.call35));(·intro S;cbv;try rfl);(·intro wc S hbc hxc hrc;exact (by have e_:i=bn:=o9;subst e_;exact k1 hbc (A:=A) (fun q i hq=>by rw[Q4a o9,Q4a hq]) (fun b=>by rw[Q2a o9]) hxc (hrc 3 _ rfl))))
   | ((with_reducible apply Qpu (hf:=Tryz.call35));(·intro S;cbv;try rfl);(·intro wc S hbc hxc hrc;exact (by have e_:i=bn:=o9;subst e_;exact k1 hbc (A:=A) (fun q i hq=>by rw[Q4a o9,Q4a hq]) (fun b=>by rw[Q2a o9]) hxc (hrc 3 _ rfl))))
   | ((with_reducible apply Qoa (hf:=Tryz.call20));(·intro S;cbv;try rfl);(·intro wc S hbc hxc hrc;exact (by have e_:i=bn:=o9;subst e_;exact k2 hbc (by first|(exact of_decide_eq_true y9)|omega) (A:=A) (fun q i hq=>by rw[Q4a o9,Q4a hq]) (fun b=>by rw[Q2a o9]) hxc (hrc 3 _ rfl)));(·rfl))
   | (fail)
   | fail)
  all_goals first
   | rfl
end Go.Proofs.YtemnfncbgalljaaGreat
