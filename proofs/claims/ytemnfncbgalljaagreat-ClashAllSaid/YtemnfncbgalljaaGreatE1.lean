/- Lemmas. No condition. -/
import Derived.Test.YtemnfncbgalljaaGreatScZ
import Derived.Test.YtemnfncbgalljaaGreatE3
namespace Go.Proofs.YtemnfncbgalljaaGreat
open Go.RowKit
set_option linter.all false
set_option maxRecDepth 100000
set_option maxHeartbeats 64000000
def Qvl (G0 G1:R9z):Nat->Nat->Row
 | 0,j=>G0 0 j
 | p+1,j=>G1 p j
theorem Qeu {c G0 G1:R9z} {K:Nat}:Q3a (Q3a c K G0) (K+1) G1=Q3a c K (Qvl G0 G1):=by
 funext q i
 by_cases h:q<K
 · rw[Q4a (show q<K+1 by omega),Q4a h,Q4a h]
 · obtain ⟨d,rfl⟩:∃d,q=K+d:=⟨q - K,by omega⟩
   rw[Q2a (c:=c) (K:=K) (G:=Qvl G0 G1) o9,Nat.add_sub_cancel_left]
   match d with
   | 0=>rw[Q4a o9,Q2a o9,Nat.add_zero,Nat.sub_self];rfl
   | d+1=>rw[Q2a o9,show K+(d+1) - (K+1)=d by omega];rfl
theorem Q1c {G0 G1:R9z} (h0:∀p i j,j<(G0 p i).n->Qob ((G0 p i).el j)=true) (h1:∀p i j,j<(G1 p i).n->Qob ((G1 p i).el j)=true):∀p i j,j<(Qvl G0 G1 p i).n->Qob ((Qvl G0 G1 p i).el j)=true
 | 0,i,j,h=>h0 0 i j h
 | p+1,i,j,h=>h1 p i j h
theorem Qlo {w:World} {G0 G1:R9z} (h0:∀p i,(∃j,j<(G0 p i).n)->Q3d w (G0 p i).a) (h1:∀p i,(∃j,j<(G1 p i).n)->Q3d w (G1 p i).a):∀p i,(∃j,j<(Qvl G0 G1 p i).n)->Q3d w (Qvl G0 G1 p i).a
 | 0,i,h=>h0 0 i h
 | p+1,i,h=>h1 p i h
theorem Qm7 {c:R9z} {K:Nat} {G:R9z} (hc:∀q i j,q<K->j<(c q i).n->qbL K ((c q i).el j)=true) (hG:∀p i j,j<(G p i).n->Qob ((G p i).el j)=true):∀q i j,q<K+1->j<(Q3a c K G q i).n->qbL (K+1) ((Q3a c K G q i).el j)=true:=fun q i j hq hj=>by
 by_cases g:q<K
 · rw[Q4a g] at hj⊢
   exact Qvc _ (hc q i j g hj)
 · rw[Q2a o9] at hj⊢
   exact Q9c (hG _ _ _ hj)
abbrev XFo:=AdF×(Option Addr×Nat)×AdF×AdF
noncomputable def Qeha (F:GFun) (A:XFo):Nat->Nat->Row:=Qvl (rrG A.1 (nnN (Q4g F) (stN F.sn F.bn)) (Qfl F)) (Qvl (Q5j (Q4g F) 1 (fun j=>[.val (.slice (A.1 j).1 (stN F.sn F.bn) (A.1 j).2)]) A.2.1) (Qvl (nxG (fun _=>stN F.sn F.bn) (fun j k=>[.bool (scI F j k)]) (lnC F) A.2.2.1) (nxG (fun _=>stN F.sn F.bn) (fun j k=>[.bool (scU F j k)]) (lnC F) A.2.2.2)))
theorem Q3p (F:GFun) (w:World) (hF:F.At w) (hK:F.Ty8) (hO:F.Ok):
 Calls Tryz.prog 55 #[F.val] w (RetX w (fun _:XFo=>.tup [.one (.rs 0),.one (.rs 1)]) (fun A=>[⟨lnC F,1,fun j=>[.val (.slice (A.2.2.1 j).1 (stN F.sn F.bn) (A.2.2.1 j).2)]⟩,⟨lnC F,1,fun j=>[.val (.slice (A.2.2.2 j).1 (stN F.sn F.bn) (A.2.2.2 j).2)]⟩]) (Qeha F)):=by
 have h10 wc (hk:KB ⟨w,[]⟩ wc) {c:R9z}:=Calls.to (c':=c) (r:=[lnR F]) ⟨fun _ _=>rfl,trivial⟩ rfl (Q6y F wc (hF.later hk) hO)
 have h20 wc (hk:KB ⟨w,[]⟩ wc):=Q5y F wc (hF.later hk) hK hO
 have h30 wc (hk:KB ⟨w,[]⟩ wc) {c:R9z} (k:Nat) (hkk:k<lnC F) (a:Option Addr) (cap:Nat) hX:=Calls.to (c':=c) (r:=[⟨stN F.sn F.bn,1,fun j=>[.bool (scI F k j)]⟩,⟨stN F.sn F.bn,1,fun j=>[.bool (scU F k j)]⟩]) ⟨fun _ _=>rfl,fun _ _=>rfl,trivial⟩ rfl (Qt1 F wc (hF.later hk) hO k hkk a cap hX)
 have hFX:=fun (wc:World) (hk:KB ⟨w,[]⟩ wc)=>hF.later hk
 have hN9:=hO.pts
 have hl16:=hO.ln16
 have hP9:lnC F<=600:=Nat.le_trans (Qxb F _) hN9
 have hrP:Q4g F=F.ln+lnC F:=rfl
 obtain ⟨rN,hrN⟩:=x9 (Q4g F)
 obtain ⟨N,hN⟩:=x9 (stN F.sn F.bn)
 obtain ⟨P,hP⟩:=x9 (lnC F)
 obtain ⟨lp,hlp⟩:=x9 (lpN F:N9z)
 obtain ⟨el,hel⟩:=x9 (fun j=>(stAt F (lpN F j)).r.p.l:I9z)
 obtain ⟨ed,hed⟩:=x9 (fun j=>(stAt F (lpN F j)).r.p.d:B9z)
 obtain ⟨ef,hef⟩:=x9 (fun j=>(stAt F (lpN F j)).r.p.f:I9z)
 obtain ⟨eb,heb⟩:=x9 (fun j=>(stAt F (lpN F j)).r.bo:I9z)
 obtain ⟨lo,hlo⟩:=x9 (fun j=>lnL F (lpN F j):I9z)
 obtain ⟨rf,hrf⟩:=x9 (Qfl F:B9y)
 obtain ⟨nr,hnr⟩:=x9 (nnN (Q4g F) (stN F.sn F.bn):N9z)
 obtain ⟨sI,hsI⟩:=x9 (scI F:B9y)
 obtain ⟨sU,hsU⟩:=x9 (scU F:B9y)
 obtain ⟨gR,hgR⟩:=x9 (fun A=>rrG A (nnN (Q4g F) (stN F.sn F.bn)) (Qfl F):AdF->Nat->Nat->Row)
 obtain ⟨tk,tkh,tku,htk,tk0,tkp,tkz,tk3,tk4,tkup,tk1,tk2,tkN,tkA⟩:=Qkd (fun _=>N) (fun j k=>[.bool (sI j k)]) (fun _ _=>rfl)
 obtain ⟨tj,tjh,tju,htj,tj0,tjp,tjz,tj3,tj4,tjup,tj1,tj2,tjN,tjA⟩:=Qkd (fun _=>N) (fun j k=>[.bool (sU j k)]) (fun _ _=>rfl)
 have gp:∀A p i j,j<(gR A p i).n->Qob ((gR A p i).el j)=true:=fun A p i j h=>by rw[hgR] at h⊢;exact Qwc p i j h
 have h1 wc (hk:KB ⟨w,[]⟩ wc) {c:R9z}:Calls Tryz.prog 89 #[F.val] wc (RetR wc c (.pt (.one (.rs 0))) [⟨P,6,fun j=>[.int .i64 (.ofNat (lp j)),.int .i64 (el j),.bool (ed j),.int .u8 (ef j),.int .u8 (eb j),.int .i64 (lo j)]⟩]):=by
  have:=@h10 wc hk c
  rw[lnR] at this
  rw[hP,hlp,hel,hed,hef,heb,hlo];exact this
 have h2 wc (hk:KB ⟨w,[]⟩ wc):Calls Tryz.prog 90 #[F.val] wc (RetX wc (fun _:AdF=>.pt (.one (.rs 0))) (fun A=>[⟨rN,1,fun j=>[.val (.slice (A j).1 N (A j).2)]⟩]) gR):=by
  rw[hgR,hrN,hN];exact h20 wc hk
 have h3 wc (hk:KB ⟨w,[]⟩ wc) {c:R9z} (c0:R9z) (a7:Option Addr×Nat) (k x:Nat) (hkk:k<P) (hx:x=k+F.ln) (A1 A2 A3:AdF) (hX:XOk ⟨[],Q3a (Q3a (Q3a c0 6 (gR A1)) 7 (Q5j rN 1 (fun j=>[.val (.slice (A1 j).1 N (A1 j).2)]) a7)) 8 (Qvl (tk k A2) (tj k A3)),[]⟩ ⟨wc,[]⟩):Calls Tryz.prog 91 #[F.val,.agg #[.int .i64 (.ofNat (lp k)),.int .i64 (el k),.bool (ed k),.int .u8 (ef k),.int .u8 (eb k),.int .i64 (lo k)],.slice (A1 x).1 N (A1 x).2] wc (RetR wc c (.tup [.one (.rs 0),.one (.rs 1)]) [⟨N,1,fun j=>[.bool (sI k j)]⟩,⟨N,1,fun j=>[.bool (sU k j)]⟩]):=by
  have hB:XOk ⟨[],Qnu F (A1 x).1 (stN F.sn F.bn) (A1 x).2 (fun m=>Qfl F (k+F.ln) m),[]⟩ ⟨wc,[]⟩:=by
   refine Qo4 (hFX wc hk) hX 6 x ?_
   rw[Q4a o9,Q4a o9,Q2a o9,hgR]
   show rrG A1 (nnN (Q4g F) (stN F.sn F.bn)) (Qfl F) 0 x=_
   unfold rrG
   rw[if_pos rfl,Qde (by rw[hx,hrP,<-hP];omega),hx]
  rw[hN,hlp,hel,hed,hef,heb,hlo,hsI,hsU]
  exact h30 wc hk k (hP▸hkk) _ _ hB
 have eG:Qeha F=fun A=>Qvl (gR A.1) (Qvl (Q5j rN 1 (fun j=>[.val (.slice (A.1 j).1 N (A.1 j).2)]) A.2.1) (Qvl (tk P A.2.2.1) (tj P A.2.2.2))):=by funext A;rw[hgR,htk,htj,hsI,hsU,hN,hP,hrN];rfl
 rw[eG,<-hN,<-hP]
 rw[<-hN] at hN9
 rw[<-hP] at hP9 hrP
 rw[<-hrN] at hrP
 clear h10 h20 h30 hFX eG hN hP hlp hel hed hef heb hlo hrf hnr hsI hsU hgR htk htj hrN hO hK
 obtain ⟨pa,un,lA,ln,lc,lk,lt,bA,bn,bc,sA,sn,sc,s,jA,jn,jc,ja,jk,jo,jf,jx,je,jd⟩:=F
 obtain ⟨hX,hl,hb,hs,hj⟩:=hF
 simp only at hl hb hs hj
 try simp only at h1 h2 h3 hl16 hrP
 refine Qaa (args:=[.pt (.agg (GFun.dat _))]) (c:=(Qwa _)) Tryz.func55 rfl hX rfl rfl ?_
 obtain ⟨_,_,_,hnt,ar,har,_,hcm,_,_,_,_,ar01,ar12,zpl,hzpl,zjn,hzjn,_,_,_,_,_,_,hT⟩:=Qca
 have hc4:∀q i j,q<4->j<(Qwa ⟨pa,un,lA,ln,lc,lk,lt,bA,bn,bc,sA,sn,sc,s,jA,jn,jc,ja,jk,jo,jf,jx,je,jd⟩ q i).n->qbL 4 ((Qwa ⟨pa,un,lA,ln,lc,lk,lt,bA,bn,bc,sA,sn,sc,s,jA,jn,jc,ja,jk,jo,jf,jx,je,jd⟩ q i).el j)=true:=fun q i j hq hj=>by
  match q,hq with
  | 0,_=>rfl
  | 1,_=>rfl
  | 2,_=>rfl
  | 3,_=>rfl
 have hc5:∀b,∀q i j,q<5->j<((Q3a (Q3a (Qwa ⟨pa,un,lA,ln,lc,lk,lt,bA,bn,bc,sA,sn,sc,s,jA,jn,jc,ja,jk,jo,jf,jx,je,jd⟩) 4 NoFam) 4 (Q1g b [.int .i64 pa,.bool un,.xs 0 0,.xs 1 0])) q i).n->qbL 5 (((Q3a (Q3a (Qwa ⟨pa,un,lA,ln,lc,lk,lt,bA,bn,bc,sA,sn,sc,s,jA,jn,jc,ja,jk,jo,jf,jx,je,jd⟩) 4 NoFam) 4 (Q1g b [.int .i64 pa,.bool un,.xs 0 0,.xs 1 0])) q i).el j)=true:=fun b=>Qyf (Q2g hc4) rfl Qvc
 have hc6:∀b a,∀q i j,q<6->j<((Q3a (Q3a (Q3a (Qwa ⟨pa,un,lA,ln,lc,lk,lt,bA,bn,bc,sA,sn,sc,s,jA,jn,jc,ja,jk,jo,jf,jx,je,jd⟩) 4 NoFam) 4 (Q1g b [.int .i64 pa,.bool un,.xs 0 0,.xs 1 0])) 5 (Q5j P 6 (fun j=>[.int .i64 (.ofNat (lp j)),.int .i64 (el j),.bool (ed j),.int .u8 (ef j),.int .u8 (eb j),.int .i64 (lo j)]) a)) q i).n->qbL 6 (((Q3a (Q3a (Q3a (Qwa ⟨pa,un,lA,ln,lc,lk,lt,bA,bn,bc,sA,sn,sc,s,jA,jn,jc,ja,jk,jo,jf,jx,je,jd⟩) 4 NoFam) 4 (Q1g b [.int .i64 pa,.bool un,.xs 0 0,.xs 1 0])) 5 (Q5j P 6 (fun j=>[.int .i64 (.ofNat (lp j)),.int .i64 (el j),.bool (ed j),.int .u8 (ef j),.int .u8 (eb j),.int .i64 (lo j)]) a)) q i).el j)=true:=fun b a=>Qm7 (hc5 b) (Qog (fun _=>rfl))
 have hc7:∀b a A,∀q i j,q<7->j<((Q3a (Q3a (Q3a (Q3a (Qwa ⟨pa,un,lA,ln,lc,lk,lt,bA,bn,bc,sA,sn,sc,s,jA,jn,jc,ja,jk,jo,jf,jx,je,jd⟩) 4 NoFam) 4 (Q1g b [.int .i64 pa,.bool un,.xs 0 0,.xs 1 0])) 5 (Q5j P 6 (fun j=>[.int .i64 (.ofNat (lp j)),.int .i64 (el j),.bool (ed j),.int .u8 (ef j),.int .u8 (eb j),.int .i64 (lo j)]) a)) 6 (gR A)) q i).n->qbL 7 (((Q3a (Q3a (Q3a (Q3a (Qwa ⟨pa,un,lA,ln,lc,lk,lt,bA,bn,bc,sA,sn,sc,s,jA,jn,jc,ja,jk,jo,jf,jx,je,jd⟩) 4 NoFam) 4 (Q1g b [.int .i64 pa,.bool un,.xs 0 0,.xs 1 0])) 5 (Q5j P 6 (fun j=>[.int .i64 (.ofNat (lp j)),.int .i64 (el j),.bool (ed j),.int .u8 (ef j),.int .u8 (eb j),.int .i64 (lo j)]) a)) 6 (gR A)) q i).el j)=true:=fun b a A=>Qm7 (hc6 b a) (gp A)
 have hc8:∀b a A y,∀q i j,q<8->j<((Q3a (Q3a (Q3a (Q3a (Q3a (Qwa ⟨pa,un,lA,ln,lc,lk,lt,bA,bn,bc,sA,sn,sc,s,jA,jn,jc,ja,jk,jo,jf,jx,je,jd⟩) 4 NoFam) 4 (Q1g b [.int .i64 pa,.bool un,.xs 0 0,.xs 1 0])) 5 (Q5j P 6 (fun j=>[.int .i64 (.ofNat (lp j)),.int .i64 (el j),.bool (ed j),.int .u8 (ef j),.int .u8 (eb j),.int .i64 (lo j)]) a)) 6 (gR A)) 7 (Q5j rN 1 (fun j=>[.val (.slice (A j).1 N (A j).2)]) y)) q i).n->qbL 8 (((Q3a (Q3a (Q3a (Q3a (Q3a (Qwa ⟨pa,un,lA,ln,lc,lk,lt,bA,bn,bc,sA,sn,sc,s,jA,jn,jc,ja,jk,jo,jf,jx,je,jd⟩) 4 NoFam) 4 (Q1g b [.int .i64 pa,.bool un,.xs 0 0,.xs 1 0])) 5 (Q5j P 6 (fun j=>[.int .i64 (.ofNat (lp j)),.int .i64 (el j),.bool (ed j),.int .u8 (ef j),.int .u8 (eb j),.int .i64 (lo j)]) a)) 6 (gR A)) 7 (Q5j rN 1 (fun j=>[.val (.slice (A j).1 N (A j).2)]) y)) q i).el j)=true:=fun b a A y=>Qm7 (hc7 b a A) (Qog (fun _=>rfl))
 have hsk:∀k (A:AdF) (a:Option Addr) (cap:Nat),RowLe ⟨zpl k 1,1,zjn k (fun j=>[.val (.slice (A j).1 N (A j).2)]) (fun j=>Qte [.val (.slice a N cap)] (0+j * 1) 1)⟩ ⟨k+1,1,fun j=>[.val (.slice (tku A k (a,cap) j).1 N (tku A k (a,cap) j).2)]⟩:=fun k A a cap=>by
  refine Q7a hzpl hzjn rfl (fun j hj=>?_) ?_
  · rw[tk1 A _ _ j hj];exact Qpa _
  · rw[tk2];exact Qpa _
 have hsj:∀k (A:AdF) (a:Option Addr) (cap:Nat),RowLe ⟨zpl k 1,1,zjn k (fun j=>[.val (.slice (A j).1 N (A j).2)]) (fun j=>Qte [.val (.slice a N cap)] (0+j * 1) 1)⟩ ⟨k+1,1,fun j=>[.val (.slice (tju A k (a,cap) j).1 N (tju A k (a,cap) j).2)]⟩:=fun k A a cap=>by
  refine Q7a hzpl hzjn rfl (fun j hj=>?_) ?_
  · rw[tj1 A _ _ j hj];exact Qpa _
  · rw[tj2];exact Qpa _
 have hA0:∀j:Nat,Q3d w ((fun _=>((none:Option Addr),0):AdF) j).1:=fun j b p h=>by cases h
 have hz0:∀p j,(Qvl (tk 0 (fun _=>(none,0))) (tj 0 (fun _=>(none,0))) p j).n=0:=fun p j=>by
  cases p
  · exact tk0 _ 0 j
  · exact tj0 _ _ j
 have hD0:∀k,k<P->ar .add .i64 (.ofNat ln) (.ofNat k)=.ofNat (k+ln):=fun k hk=>by
  rw[Qoq har o9,Nat.add_comm]
 have hD1:∀k,k<P->(match ar .add .i64 (.ofNat ln) (.ofNat k) with|Int.ofNat n=>n|Int.negSucc a=>0:Nat)=k+ln:=fun k hk=>by rw[hD0 k hk]
 repeat' (first
  | refine go1 ?_|refine go3 (fun hlt=>?_) (fun hge=>?_)|exact go0|refine Qz9 ?_|refine gof ?_|refine Qvha ?_ ?_
  | refine gob ?_
  | ((with_reducible refine Q4c ?_ ?_);(·first|((rw[hzpl];have hkk:k<P:=y9;show k+1<=1073741824;omega))))
  | (((with_reducible apply Qoa (hf:=Tryz.call89));(·intro S;cbv;try rfl);(·intro wc S hbc hxc hrc;exact h1 wc hbc);(·rfl);(refine Qcm 4 rfl rfl ⟨fun _ _=>rfl,trivial⟩ hc4 ?_);(refine Q9d 1 4 rfl rfl rfl rfl rfl ⟨fun _ _=>rfl,trivial⟩ rfl (Q2g hc4) (fun q i h=>by rw[Q2a h];rfl) (fun b0 _=>?_));(refine Qcm 5 rfl rfl ⟨fun _ _=>rfl,trivial⟩ (hc5 b0) ?_);(refine Qnc 0 0 0 (fun a cap=>Q5j P 6 (fun j=>[.int .i64 (.ofNat (lp j)),.int .i64 (el j),.bool (ed j),.int .u8 (ef j),.int .u8 (eb j),.int .i64 (lo j)]) (a,cap)) (R:=⟨P,6,fun j=>[.int .i64 (.ofNat (lp j)),.int .i64 (el j),.bool (ed j),.int .u8 (ef j),.int .u8 (eb j),.int .i64 (lo j)]⟩) rfl (RowLe.rfl' _) rfl (fun v=>rfl) trivial (fun j hj=>rfl) (hc5 b0) (fun p i j hj=>absurd hj (Nat.not_lt_zero _)) rfl (fun a cap p' i' h=>Qlt h) (fun a cap=>rfl) (fun aL cL hnL=>?_));(refine Qrs 12 5 0 rfl rfl ?_)))
  | (((with_reducible apply Qhc 6 (hf:=Tryz.call90));(·intro S;cbv;try rfl);(·intro wc S hbc hxc hrc;exact h2 wc hbc);(·intro A;rfl);(·intro A;rfl);(·rfl);(·rfl);(·exact trivial);(·exact hc6 b0 (aL,cL));(·intro A;exact ⟨fun _ _=>rfl,trivial⟩);(·intro A p i j hj;exact gp A p i j hj);(intro A1 hnew1;refine Qcm 7 rfl rfl ⟨fun _ _=>rfl,trivial⟩ (hc7 b0 (aL,cL) A1) ?_);(refine Qnc 1 0 0 (fun a cap=>Q5j rN 1 (fun j=>[.val (.slice (A1 j).1 N (A1 j).2)]) (a,cap)) (R:=⟨rN,1,fun j=>[.val (.slice (A1 j).1 N (A1 j).2)]⟩) rfl (RowLe.rfl' _) rfl (fun v=>rfl) trivial (fun j hj=>rfl) (hc7 b0 (aL,cL) A1) (fun p i j hj=>absurd hj (Nat.not_lt_zero _)) rfl (fun a cap p' i' h=>Qlt h) (fun a cap=>rfl) (fun aR cR hnR=>?_));(refine Qrs 14 7 0 rfl rfl ?_);(refine Q0i 8 (G:=Qvl (tk 0 (fun _=>(none,0))) (tj 0 (fun _=>(none,0)))) hz0 rfl rfl trivial (hc8 b0 (aL,cL) A1 (aR,cR)) ?_)))
  | ((with_reducible apply Qud 6 1);(·(cbv;try rfl)))
  | ((with_reducible apply Qud 7 1);(·(cbv;try rfl)))
  | (((with_reducible refine Qne (σ:={x:Nat×AdF×AdF // x.1<=P/\(∀j,Q3d w (x.2.1 j).1)/\∀j,Q3d w (x.2.2 j).1}) (fun x=>Q3a ((Q3a (Q3a (Q3a (Q3a (Q3a (Qwa ⟨pa,un,lA,ln,lc,lk,lt,bA,bn,bc,sA,sn,sc,s,jA,jn,jc,ja,jk,jo,jf,jx,je,jd⟩) 4 NoFam) 4 (Q1g b0 [.int .i64 pa,.bool un,.xs 0 0,.xs 1 0])) 5 (Q5j P 6 (fun j=>[.int .i64 (.ofNat (lp j)),.int .i64 (el j),.bool (ed j),.int .u8 (ef j),.int .u8 (eb j),.int .i64 (lo j)]) (aL,cL))) 6 (gR A1)) 7 (Q5j rN 1 (fun j=>[.val (.slice (A1 j).1 N (A1 j).2)]) (aR,cR)))) 8 (Qvl (tk x.1.1 x.1.2.1) (tj x.1.1 x.1.2.2))) [9,10,15,16,17,18,19,20,21,22,23,24,25,26,27,28,29,30,31,32,33,34,35,36,37,38,39,40,41,42,43,44,45] (fun x=>[(8,.pt (.one (.int .i64 (.ofNat x.1.1))))]) (fun x=>[]) (fun x=>[(2,⟨x.1.1,1,fun j=>[.val (.slice (x.1.2.1 j).1 N (x.1.2.1 j).2)]⟩),(3,⟨x.1.1,1,fun j=>[.val (.slice (x.1.2.2 j).1 N (x.1.2.2 j).2)]⟩)]) (fun x=>P - x.1.1) ⟨(0,fun _=>(none,0),fun _=>(none,0)),Nat.zero_le _,hA0,hA0⟩ rfl rfl ?_ ?_ ?_ ?_);(·(refine Q8c ?_ ?_ ?_ ?_<;>(cbv;(try simp only[true_and,and_true]);(try ((repeat' apply And.intro)<;>(first|trivial|rfl|exact RowLe.rfl' _|exact Q0a rfl (fun j hj=>absurd hj (Nat.not_lt_zero _))|(rw[Qda har _ o9];done)|exact hsk _ _ _ _|exact hsj _ _ _ _))))));(·(cbv;try rfl));(·simp);(rintro ⟨⟨k,A2,A3⟩,hk0,hA2,hA3⟩ mm hmm);(have hk:k<=P:=hk0)))
  | (((with_reducible apply Qxa);(·rw[hD0 k y9];exact Int.natCast_nonneg _);(·rw[hD0 k y9];have hkk:k<P:=y9;exact Int.ofNat_lt.2 o9)))
  | (((with_reducible apply Qoa (hf:=Tryz.call91));(·intro S;cbv;try rfl);(·intro wc S hbc hxc hrc;exact h3 wc hbc _ (aR,cR) k _ y9 (hD1 k y9) A1 A2 A3 hxc);(·rfl);(refine Qnc 4 0 k (fun a cap=>Qvl (tkh k A2 (a,cap)) (tj k A3)) (R:=⟨N,1,fun x=>[.bool (sI k x)]⟩) rfl (RowLe.rfl' _) rfl (fun v=>rfl) ⟨fun _ _=>rfl,fun _ _=>rfl,fun _ _=>rfl,trivial⟩ (fun j hj=>rfl) (hc8 b0 (aL,cL) A1 (aR,cR)) (Q1c (fun p j x h=>tkp k A2 p j x h) (fun p j x h=>tjp k A3 p j x h)) (tkz k A2) (fun a cap p' i' h=>by cases p' with|zero=>exact tk3 k A2 a cap 0 i' h|succ p=>rfl) (fun a cap=>tk4 k A2 a cap) (fun a1 c1 hn1=>?_));(refine Qnc 5 1 k (fun a cap=>Qvl (tkh k A2 (a1,c1)) (tjh k A3 (a,cap))) (R:=⟨N,1,fun x=>[.bool (sU k x)]⟩) rfl (RowLe.rfl' _) rfl (fun v=>rfl) ⟨fun _ _=>rfl,fun _ _=>rfl,trivial⟩ (fun j hj=>rfl) (hc8 b0 (aL,cL) A1 (aR,cR)) (Q1c (fun p j x h=>by rw[tkup] at h⊢;exact tkp (k+1) _ p j x h) (fun p j x h=>tjp k A3 p j x h)) (tjz k A3) (fun a cap p' i' h=>by cases p' with|zero=>rfl|succ p=>exact tj3 k A3 a cap p i' (fun g=>h ⟨by rw[g.1],g.2⟩)) (fun a cap=>tj4 k A3 a cap) (fun a2 c2 hn2=>?_))))
  | (((with_reducible refine Qqe (⟨(k+1,tku A2 k (a1,c1),tju A3 k (a2,c2)),Nat.succ_le_of_lt y9,tkN hA2 hn1,tjN hA3 hn2⟩:{x:Nat×AdF×AdF // x.1<=P/\(∀j,Q3d w (x.2.1 j).1)/\∀j,Q3d w (x.2.2 j).1}) (by (show _=Q3a _ 8 (Qvl (tk (k+1) (tku A2 k (a1,c1))) (tj (k+1) (tju A3 k (a2,c2)))));rw[tkup,tjup]) ?_ ?_ ?_ ?_);(·exact Nat.lt_of_lt_of_eq (show P - (k+1)<P - k by have hkk:k<P:=y9;omega) (Eq.symm y9));(·(refine Q8c ?_ ?_ ?_ ?_<;>(cbv;(try simp only[true_and,and_true]);(try ((repeat' apply And.intro)<;>(first|trivial|rfl|exact RowLe.rfl' _|exact Q0a rfl (fun j hj=>absurd hj (Nat.not_lt_zero _))|(rw[Qda har _ o9];done)|exact hsk _ _ _ _|exact hsj _ _ _ _))))));(·(cbv;try rfl));(·simp)))
  | (((have ek:k=P:=Nat.le_antisymm hk y9);(subst ek);(refine Qoy ((Qeu (K:=7)).trans (Qeu (K:=6))) ?_);(apply Qcc hT (A1,(aR,cR),A2,A3) (K:=6) (c0:=(Q3a (Q3a (Q3a (Qwa ⟨pa,un,lA,ln,lc,lk,lt,bA,bn,bc,sA,sn,sc,s,jA,jn,jc,ja,jk,jo,jf,jx,je,jd⟩) 4 NoFam) 4 (Q1g b0 [.int .i64 pa,.bool un,.xs 0 0,.xs 1 0])) 5 (Q5j k 6 (fun j=>[.int .i64 (.ofNat (lp j)),.int .i64 (el j),.bool (ed j),.int .u8 (ef j),.int .u8 (eb j),.int .i64 (lo j)]) (aL,cL)))) (G:=fun A:XFo=>Qvl (gR A.1) (Qvl (Q5j rN 1 (fun j=>[.val (.slice (A.1 j).1 N (A.1 j).2)]) A.2.1) (Qvl (tk k A.2.2.1) (tj k A.2.2.2)))));(·(cbv;try rfl));(·(cbv;try rfl));(·(cbv;(try simp only[true_and,and_true]);(try ((repeat' apply And.intro)<;>(first|trivial|rfl|decide)))));(·(cbv;(try simp only[true_and,and_true]);(try ((repeat' apply And.intro)<;>(first|trivial|rfl|exact RowLe.rfl' _)))));(·rfl);(·exact Q1c (gp A1) (Q1c (Qog (fun _=>rfl)) (Q1c (fun p j x h=>tkp k A2 p j x h) (fun p j x h=>tjp k A3 p j x h))));(·exact Qlo (fun p i h=>hnew1 p i h) (Qlo (Qe1 hnR) (Qlo (fun p i _=>tkA hA2 p i) (fun p i _=>tjA hA3 p i))));(·exact ⟨fun _ _=>rfl,fun _ _=>rfl,trivial⟩);(·rfl)))
  | fail)
 all_goals first
  | rfl
theorem Qiea {a a' b b':R9z} (ha:∀p i j,j<(a' p i).n->a p i=a' p i) (hb:∀p i j,j<(b' p i).n->b p i=b' p i):∀p i j,j<(Qvl a' b' p i).n->Qvl a b p i=Qvl a' b' p i
 | 0,i,j,h=>ha 0 i j h
 | p+1,i,j,h=>hb p i j h
theorem Qlfa {α:Type} {l:List α} {d:Nat} {x:α} (h:nth l d=some x):Q0b l d x=l:=by
 rw[Qva] at h
 apply List.ext_getElem?
 intro i
 rw[Qci]
 by_cases e:i=d
 · subst e
   obtain ⟨g,-⟩:=List.getElem?_eq_some_iff.1 h
   rw[if_pos rfl,if_pos g,h]
 · rw[if_neg e]
noncomputable abbrev Qvga (g0:XFo->Nat->Nat->Row) (g1:XFo->Nat->Nat->Row) (nn:N9z) (sI sU:B9y) (A:XFo):Nat->Nat->Row:=Qvl (g0 A) (Qvl (g1 A) (Qvl (rrG A.2.2.1 nn sI) (rrG A.2.2.2 nn sU)))
end Go.Proofs.YtemnfncbgalljaaGreat
