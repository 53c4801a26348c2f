/- Texts joined: ScZb ScZc. No condition. -/
import Derived.Test.YtemnfncbgalljaaGreatScZ
import Derived.Test.YtemnfncbgalljaaGreatE3
import Derived.Test.YtemnfncbgalljaaGreatC4
namespace Go.Proofs.YtemnfncbgalljaaGreat
open Go.RowKit
set_option linter.all false
set_option maxHeartbeats 64000000
section
set_option maxRecDepth 100000
def Qvl (G0 G1:Nat->Nat->Row):Nat->Nat->Row
 | 0,j=>G0 0 j
 | p+1,j=>G1 p j
theorem Qeu {c G0 G1:Nat->Nat->Row} {K:Nat}:Q3a (Q3a c K G0) (K+1) G1=Q3a c K (Qvl G0 G1):=by
 funext q i
 by_cases h:q<K
 · rw[Q4a (show q<K+1 by omega),Q4a h,Q4a h]
 · obtain ⟨d,rfl⟩:∃d,q=K+d:=⟨q - K,by omega⟩
   rw[Q2a (c:=c) (K:=K) (G:=Qvl G0 G1) (by omega),Nat.add_sub_cancel_left]
   match d with
   | 0=>rw[Q4a (by omega),Q2a (by omega),Nat.add_zero,Nat.sub_self];rfl
   | d+1=>rw[Q2a (by omega),show K+(d+1) - (K+1)=d by omega];rfl
theorem Q1c {G0 G1:Nat->Nat->Row} (h0:∀p i j,j<(G0 p i).n->Qob ((G0 p i).el j)=true) (h1:∀p i j,j<(G1 p i).n->Qob ((G1 p i).el j)=true):∀p i j,j<(Qvl G0 G1 p i).n->Qob ((Qvl G0 G1 p i).el j)=true
 | 0,i,j,h=>h0 0 i j h
 | p+1,i,j,h=>h1 p i j h
theorem Qlo {w:World} {G0 G1:Nat->Nat->Row} (h0:∀p i,(∃j,j<(G0 p i).n)->Q3d w (G0 p i).a) (h1:∀p i,(∃j,j<(G1 p i).n)->Q3d w (G1 p i).a):∀p i,(∃j,j<(Qvl G0 G1 p i).n)->Q3d w (Qvl G0 G1 p i).a
 | 0,i,h=>h0 0 i h
 | p+1,i,h=>h1 p i h
theorem Qm7 {c:Nat->Nat->Row} {K:Nat} {G:Nat->Nat->Row} (hc:∀q i j,q<K->j<(c q i).n->qbL K ((c q i).el j)=true) (hG:∀p i j,j<(G p i).n->Qob ((G p i).el j)=true):∀q i j,q<K+1->j<(Q3a c K G q i).n->qbL (K+1) ((Q3a c K G q i).el j)=true:=fun q i j hq hj=>by
 by_cases g:q<K
 · rw[Q4a g] at hj⊢
   exact Qvc _ (hc q i j g hj)
 · rw[Q2a (by omega)] at hj⊢
   exact Q9c (hG _ _ _ hj)
theorem Qxy {K:Nat} {l:List SC} (h:qbL K l=true):∀m,qbL (K+m) l=true
 | 0=>h
 | m+1=>Qvc _ (Qxy h m)
theorem famW (m:Nat) {c:Nat->Nat->Row} {K:Nat} {G:Nat->Nat->Row} (hc:∀q i j,q<K->j<(c q i).n->qbL K ((c q i).el j)=true) (hG:∀p i j,j<(G p i).n->Qob ((G p i).el j)=true):∀q i j,q<K+m->j<(Q3a c K G q i).n->qbL (K+m) ((Q3a c K G q i).el j)=true:=fun q i j hq hj=>by
 by_cases g:q<K
 · rw[Q4a g] at hj⊢
   exact Qxy (hc q i j g hj) m
 · rw[Q2a (by omega)] at hj⊢
   exact Q9c (hG _ _ _ hj)
abbrev XFo:=AdF×(Option Addr×Nat)×AdF×AdF
noncomputable def fndG (F:GFun) (A:XFo):Nat->Nat->Row:=Qvl (rrG A.1 (nnN (Q4g F) (stN F.sn F.bn)) (Qfl F)) (Qvl (Q5j (Q4g F) 1 (fun j=>[.val (.slice (A.1 j).1 (stN F.sn F.bn) (A.1 j).2)]) A.2.1) (Qvl (nxG (fun _=>stN F.sn F.bn) (fun j k=>[.bool (scI F j k)]) (lnC F) A.2.2.1) (nxG (fun _=>stN F.sn F.bn) (fun j k=>[.bool (scU F j k)]) (lnC F) A.2.2.2)))
theorem Qzi {F:GFun} {A:XFo} (p i j:Nat) (h:j<(fndG F A p i).n):Qob ((fndG F A p i).el j)=true:=
 Q1c (fun p i j h=>Qwc p i j h) (Q1c (fun p i j h=>Qog (fun _=>rfl) p i j h) (Q1c (fun p i j h=>Q1e (fun _ _=>rfl) p i j h) (fun p i j h=>Q1e (fun _ _=>rfl) p i j h))) p i j h
theorem Q3p (F:GFun) (w:World) (hF:F.At w) (hK:F.Ty8) (hO:F.Ok):
 Calls Tryz.prog 55 #[F.val] w (RetX w (fun _:XFo=>.tup [.one (.rs 0),.one (.rs 1)]) (fun A=>[⟨lnC F,1,fun j=>[.val (.slice (A.2.2.1 j).1 (stN F.sn F.bn) (A.2.2.1 j).2)]⟩,⟨lnC F,1,fun j=>[.val (.slice (A.2.2.2 j).1 (stN F.sn F.bn) (A.2.2.2 j).2)]⟩]) (fndG F)):=by
 have h10 (wc:World) (hk:KB ⟨w,[]⟩ wc) {c:Nat->Nat->Row}:=Calls.to (c':=c) (r:=[lnR F]) ⟨fun _ _=>rfl,trivial⟩ rfl (Q6y F wc (hF.later hk) hO)
 have h20 (wc:World) (hk:KB ⟨w,[]⟩ wc):=Q5y F wc (hF.later hk) hK hO
 have h30 (wc:World) (hk:KB ⟨w,[]⟩ wc) {c:Nat->Nat->Row} (k:Nat) (hkk:k<lnC F) (a:Option Addr) (cap:Nat) hX:=Calls.to (c':=c) (r:=[⟨stN F.sn F.bn,1,fun j=>[.bool (scI F k j)]⟩,⟨stN F.sn F.bn,1,fun j=>[.bool (scU F k j)]⟩]) ⟨fun _ _=>rfl,fun _ _=>rfl,trivial⟩ rfl (Qt1 F wc (hF.later hk) hO k hkk a cap hX)
 have hFX:=fun (wc:World) (hk:KB ⟨w,[]⟩ wc)=>hF.later hk
 have hN9:=hO.pts
 have hl16:=hO.ln16
 have hP9:lnC F<=600:=Nat.le_trans (Qxb F _) hN9
 have hrP:Q4g F=F.ln+lnC F:=rfl
 obtain ⟨rN,hrN⟩:∃x,x=Q4g F:=⟨_,rfl⟩
 obtain ⟨N,hN⟩:∃N,N=stN F.sn F.bn:=⟨_,rfl⟩
 obtain ⟨P,hP⟩:∃P,P=lnC F:=⟨_,rfl⟩
 obtain ⟨lp,hlp⟩:∃f:Nat->Nat,f=lpN F:=⟨_,rfl⟩
 obtain ⟨el,hel⟩:∃f:Nat->Int,f=fun j=>(Qib F (lpN F j)).r.p.l:=⟨_,rfl⟩
 obtain ⟨ed,hed⟩:∃f:Nat->Bool,f=fun j=>(Qib F (lpN F j)).r.p.d:=⟨_,rfl⟩
 obtain ⟨ef,hef⟩:∃f:Nat->Int,f=fun j=>(Qib F (lpN F j)).r.p.f:=⟨_,rfl⟩
 obtain ⟨eb,heb⟩:∃f:Nat->Int,f=fun j=>(Qib F (lpN F j)).r.bo:=⟨_,rfl⟩
 obtain ⟨lo,hlo⟩:∃f:Nat->Int,f=fun j=>lnL F (lpN F j):=⟨_,rfl⟩
 obtain ⟨rf,hrf⟩:∃f:Nat->Nat->Bool,f=Qfl F:=⟨_,rfl⟩
 obtain ⟨nr,hnr⟩:∃f:Nat->Nat,f=nnN (Q4g F) (stN F.sn F.bn):=⟨_,rfl⟩
 obtain ⟨sI,hsI⟩:∃f:Nat->Nat->Bool,f=scI F:=⟨_,rfl⟩
 obtain ⟨sU,hsU⟩:∃f:Nat->Nat->Bool,f=scU F:=⟨_,rfl⟩
 obtain ⟨gR,hgR⟩:∃f:AdF->Nat->Nat->Row,f=fun A=>rrG A (nnN (Q4g F) (stN F.sn F.bn)) (Qfl F):=⟨_,rfl⟩
 obtain ⟨tk,tkh,tku,htk,tk0,tkp,tkz,tk3,tk4,tkup,tk1,tk2,tkN,tkA⟩:=Qkd (fun _=>N) (fun j k=>[.bool (sI j k)]) (fun _ _=>rfl)
 obtain ⟨tj,tjh,tju,htj,tj0,tjp,tjz,tj3,tj4,tjup,tj1,tj2,tjN,tjA⟩:=Qkd (fun _=>N) (fun j k=>[.bool (sU j k)]) (fun _ _=>rfl)
 have gp:∀A p i j,j<(gR A p i).n->Qob ((gR A p i).el j)=true:=fun A p i j h=>by rw[hgR] at h⊢;exact Qwc p i j h
 have h1 (wc:World) (hk:KB ⟨w,[]⟩ wc) {c:Nat->Nat->Row}:Calls Tryz.prog 89 #[F.val] wc (RetR wc c (.pt (.one (.rs 0))) [⟨P,6,fun j=>[.int .i64 (.ofNat (lp j)),.int .i64 (el j),.bool (ed j),.int .u8 (ef j),.int .u8 (eb j),.int .i64 (lo j)]⟩]):=by
  have:=@h10 wc hk c
  rw[lnR] at this
  rw[hP,hlp,hel,hed,hef,heb,hlo];exact this
 have h2 (wc:World) (hk:KB ⟨w,[]⟩ wc):Calls Tryz.prog 90 #[F.val] wc (RetX wc (fun _:AdF=>.pt (.one (.rs 0))) (fun A=>[⟨rN,1,fun j=>[.val (.slice (A j).1 N (A j).2)]⟩]) gR):=by
  rw[hgR,hrN,hN];exact h20 wc hk
 have h3 (wc:World) (hk:KB ⟨w,[]⟩ wc) {c:Nat->Nat->Row} (c0:Nat->Nat->Row) (a7:Option Addr×Nat) (k x:Nat) (hkk:k<P) (hx:x=k+F.ln) (A1 A2 A3:AdF) (hX:XOk ⟨[],Q3a (Q3a (Q3a c0 6 (gR A1)) 7 (Q5j rN 1 (fun j=>[.val (.slice (A1 j).1 N (A1 j).2)]) a7)) 8 (Qvl (tk k A2) (tj k A3)),[]⟩ ⟨wc,[]⟩):Calls Tryz.prog 91 #[F.val,.agg #[.int .i64 (.ofNat (lp k)),.int .i64 (el k),.bool (ed k),.int .u8 (ef k),.int .u8 (eb k),.int .i64 (lo k)],.slice (A1 x).1 N (A1 x).2] wc (RetR wc c (.tup [.one (.rs 0),.one (.rs 1)]) [⟨N,1,fun j=>[.bool (sI k j)]⟩,⟨N,1,fun j=>[.bool (sU k j)]⟩]):=by
  have hB:XOk ⟨[],Qnu F (A1 x).1 (stN F.sn F.bn) (A1 x).2 (fun m=>Qfl F (k+F.ln) m),[]⟩ ⟨wc,[]⟩:=by
   refine Qo4 (hFX wc hk) hX 6 x ?_
   rw[Q4a (by omega),Q4a (by omega),Q2a (by omega),hgR]
   show rrG A1 (nnN (Q4g F) (stN F.sn F.bn)) (Qfl F) 0 x=_
   unfold rrG
   rw[if_pos rfl,Qde (by rw[hx,hrP,<-hP];omega),hx]
  rw[hN,hlp,hel,hed,hef,heb,hlo,hsI,hsU]
  exact h30 wc hk k (hP▸hkk) _ _ hB
 have eG:fndG F=fun A=>Qvl (gR A.1) (Qvl (Q5j rN 1 (fun j=>[.val (.slice (A.1 j).1 N (A.1 j).2)]) A.2.1) (Qvl (tk P A.2.2.1) (tj P A.2.2.2))):=by funext A;rw[hgR,htk,htj,hsI,hsU,hN,hP,hrN];rfl
 rw[eG,<-hN,<-hP]
 rw[<-hN] at hN9
 rw[<-hP] at hP9 hrP
 rw[<-hrN] at hrP
 clear h10 h20 h30 hFX eG hN hP hlp hel hed hef heb hlo hrf hnr hsI hsU hgR htk htj hrN hO hK
 obtain ⟨pa,un,lA,ln,lc,lk,lt,bA,bn,bc,sA,sn,sc,s,jA,jn,jc,ja,jk,jo,jf,jx,je,jd⟩:=F
 obtain ⟨hX,hl,hb,hs,hj⟩:=hF
 simp only at hl hb hs hj
 try simp only at h1 h2 h3 hl16 hrP
 refine Qaa (args:=[.pt (.agg (GFun.dat _))]) (c:=(Qwa _)) Tryz.func55 rfl hX rfl rfl ?_
 obtain ⟨_,_,_,hnt,ar,har,_,hcm,_,_,_,_,ar01,ar12,zpl,hzpl,zjn,hzjn,_,_,_,_,_,_,hT⟩:=Qca
 have hc4:∀q i j,q<4->j<(Qwa ⟨pa,un,lA,ln,lc,lk,lt,bA,bn,bc,sA,sn,sc,s,jA,jn,jc,ja,jk,jo,jf,jx,je,jd⟩ q i).n->qbL 4 ((Qwa ⟨pa,un,lA,ln,lc,lk,lt,bA,bn,bc,sA,sn,sc,s,jA,jn,jc,ja,jk,jo,jf,jx,je,jd⟩ q i).el j)=true:=fun q i j hq hj=>by
  match q,hq with
  | 0,_=>rfl
  | 1,_=>rfl
  | 2,_=>rfl
  | 3,_=>rfl
 have hc5:∀b,∀q i j,q<5->j<((Q3a (Q3a (Qwa ⟨pa,un,lA,ln,lc,lk,lt,bA,bn,bc,sA,sn,sc,s,jA,jn,jc,ja,jk,jo,jf,jx,je,jd⟩) 4 Quf) 4 (Q1g b [.int .i64 pa,.bool un,.xs 0 0,.xs 1 0])) q i).n->qbL 5 (((Q3a (Q3a (Qwa ⟨pa,un,lA,ln,lc,lk,lt,bA,bn,bc,sA,sn,sc,s,jA,jn,jc,ja,jk,jo,jf,jx,je,jd⟩) 4 Quf) 4 (Q1g b [.int .i64 pa,.bool un,.xs 0 0,.xs 1 0])) q i).el j)=true:=fun b=>Qyf (Q2g hc4) rfl Qvc
 have hc6:∀b a,∀q i j,q<6->j<((Q3a (Q3a (Q3a (Qwa ⟨pa,un,lA,ln,lc,lk,lt,bA,bn,bc,sA,sn,sc,s,jA,jn,jc,ja,jk,jo,jf,jx,je,jd⟩) 4 Quf) 4 (Q1g b [.int .i64 pa,.bool un,.xs 0 0,.xs 1 0])) 5 (Q5j P 6 (fun j=>[.int .i64 (.ofNat (lp j)),.int .i64 (el j),.bool (ed j),.int .u8 (ef j),.int .u8 (eb j),.int .i64 (lo j)]) a)) q i).n->qbL 6 (((Q3a (Q3a (Q3a (Qwa ⟨pa,un,lA,ln,lc,lk,lt,bA,bn,bc,sA,sn,sc,s,jA,jn,jc,ja,jk,jo,jf,jx,je,jd⟩) 4 Quf) 4 (Q1g b [.int .i64 pa,.bool un,.xs 0 0,.xs 1 0])) 5 (Q5j P 6 (fun j=>[.int .i64 (.ofNat (lp j)),.int .i64 (el j),.bool (ed j),.int .u8 (ef j),.int .u8 (eb j),.int .i64 (lo j)]) a)) q i).el j)=true:=fun b a=>Qm7 (hc5 b) (Qog (fun _=>rfl))
 have hc7:∀b a A,∀q i j,q<7->j<((Q3a (Q3a (Q3a (Q3a (Qwa ⟨pa,un,lA,ln,lc,lk,lt,bA,bn,bc,sA,sn,sc,s,jA,jn,jc,ja,jk,jo,jf,jx,je,jd⟩) 4 Quf) 4 (Q1g b [.int .i64 pa,.bool un,.xs 0 0,.xs 1 0])) 5 (Q5j P 6 (fun j=>[.int .i64 (.ofNat (lp j)),.int .i64 (el j),.bool (ed j),.int .u8 (ef j),.int .u8 (eb j),.int .i64 (lo j)]) a)) 6 (gR A)) q i).n->qbL 7 (((Q3a (Q3a (Q3a (Q3a (Qwa ⟨pa,un,lA,ln,lc,lk,lt,bA,bn,bc,sA,sn,sc,s,jA,jn,jc,ja,jk,jo,jf,jx,je,jd⟩) 4 Quf) 4 (Q1g b [.int .i64 pa,.bool un,.xs 0 0,.xs 1 0])) 5 (Q5j P 6 (fun j=>[.int .i64 (.ofNat (lp j)),.int .i64 (el j),.bool (ed j),.int .u8 (ef j),.int .u8 (eb j),.int .i64 (lo j)]) a)) 6 (gR A)) q i).el j)=true:=fun b a A=>Qm7 (hc6 b a) (gp A)
 have hc8:∀b a A y,∀q i j,q<8->j<((Q3a (Q3a (Q3a (Q3a (Q3a (Qwa ⟨pa,un,lA,ln,lc,lk,lt,bA,bn,bc,sA,sn,sc,s,jA,jn,jc,ja,jk,jo,jf,jx,je,jd⟩) 4 Quf) 4 (Q1g b [.int .i64 pa,.bool un,.xs 0 0,.xs 1 0])) 5 (Q5j P 6 (fun j=>[.int .i64 (.ofNat (lp j)),.int .i64 (el j),.bool (ed j),.int .u8 (ef j),.int .u8 (eb j),.int .i64 (lo j)]) a)) 6 (gR A)) 7 (Q5j rN 1 (fun j=>[.val (.slice (A j).1 N (A j).2)]) y)) q i).n->qbL 8 (((Q3a (Q3a (Q3a (Q3a (Q3a (Qwa ⟨pa,un,lA,ln,lc,lk,lt,bA,bn,bc,sA,sn,sc,s,jA,jn,jc,ja,jk,jo,jf,jx,je,jd⟩) 4 Quf) 4 (Q1g b [.int .i64 pa,.bool un,.xs 0 0,.xs 1 0])) 5 (Q5j P 6 (fun j=>[.int .i64 (.ofNat (lp j)),.int .i64 (el j),.bool (ed j),.int .u8 (ef j),.int .u8 (eb j),.int .i64 (lo j)]) a)) 6 (gR A)) 7 (Q5j rN 1 (fun j=>[.val (.slice (A j).1 N (A j).2)]) y)) q i).el j)=true:=fun b a A y=>Qm7 (hc7 b a A) (Qog (fun _=>rfl))
 have hsk:∀k (A:AdF) (a:Option Addr) (cap:Nat),RowLe ⟨zpl k 1,1,zjn k (fun j=>[.val (.slice (A j).1 N (A j).2)]) (fun j=>Qte [.val (.slice a N cap)] (0+j * 1) 1)⟩ ⟨k+1,1,fun j=>[.val (.slice (tku A k (a,cap) j).1 N (tku A k (a,cap) j).2)]⟩:=fun k A a cap=>by
  refine Q7a hzpl hzjn rfl (fun j hj=>?_) ?_
  · rw[tk1 A _ _ j hj];exact Qpa _
  · rw[tk2];exact Qpa _
 have hsj:∀k (A:AdF) (a:Option Addr) (cap:Nat),RowLe ⟨zpl k 1,1,zjn k (fun j=>[.val (.slice (A j).1 N (A j).2)]) (fun j=>Qte [.val (.slice a N cap)] (0+j * 1) 1)⟩ ⟨k+1,1,fun j=>[.val (.slice (tju A k (a,cap) j).1 N (tju A k (a,cap) j).2)]⟩:=fun k A a cap=>by
  refine Q7a hzpl hzjn rfl (fun j hj=>?_) ?_
  · rw[tj1 A _ _ j hj];exact Qpa _
  · rw[tj2];exact Qpa _
 have hA0:∀j:Nat,Q3d w ((fun _=>((none:Option Addr),0):AdF) j).1:=fun j b p h=>by cases h
 have hz0:∀p j,(Qvl (tk 0 (fun _=>(none,0))) (tj 0 (fun _=>(none,0))) p j).n=0:=fun p j=>by
  cases p
  · exact tk0 _ 0 j
  · exact tj0 _ _ j
 have hD0:∀k,k<P->ar .add .i64 (.ofNat ln) (.ofNat k)=.ofNat (k+ln):=fun k hk=>by
  rw[Qoq har (by omega),Nat.add_comm]
 have hD1:∀k,k<P->(match ar .add .i64 (.ofNat ln) (.ofNat k) with|Int.ofNat n=>n|Int.negSucc a=>0:Nat)=k+ln:=fun k hk=>by rw[hD0 k hk]
 repeat' (first
  | refine go1 ?_|refine go3 (fun hlt=>?_) (fun hge=>?_)|exact go0|refine Qz9 ?_|refine gof ?_|(with_reducible refine Qha ?_ ?_)
  | refine gob ?_
  | ((with_reducible refine Q4c ?_ ?_);(·first|((rw[hzpl];have hkk:k<P:=‹_›;show k+1<=1073741824;omega))))
  | (((with_reducible apply Qoa (hf:=Tryz.call89));(·intro S;cbv;try rfl);(·intro wc S hbc hxc hrc;exact h1 wc hbc);(·rfl);(refine Qcm 4 rfl rfl ⟨fun _ _=>rfl,trivial⟩ hc4 ?_);(refine Q9d 1 4 rfl rfl rfl rfl rfl ⟨fun _ _=>rfl,trivial⟩ rfl (Q2g hc4) (fun q i h=>by rw[Q2a h];rfl) (fun b0 _=>?_));(refine Qcm 5 rfl rfl ⟨fun _ _=>rfl,trivial⟩ (hc5 b0) ?_);(refine Qnc 0 0 0 (fun a cap=>Q5j P 6 (fun j=>[.int .i64 (.ofNat (lp j)),.int .i64 (el j),.bool (ed j),.int .u8 (ef j),.int .u8 (eb j),.int .i64 (lo j)]) (a,cap)) (R:=⟨P,6,fun j=>[.int .i64 (.ofNat (lp j)),.int .i64 (el j),.bool (ed j),.int .u8 (ef j),.int .u8 (eb j),.int .i64 (lo j)]⟩) rfl (RowLe.rfl' _) rfl (fun v=>rfl) trivial (fun j hj=>rfl) (hc5 b0) (fun p i j hj=>absurd hj (Nat.not_lt_zero _)) rfl (fun a cap p' i' h=>Qlt h) (fun a cap=>rfl) (fun aL cL hnL=>?_));(refine Qrs 12 5 0 rfl rfl ?_)))
  | (((with_reducible apply Qhc 6 (hf:=Tryz.call90));(·intro S;cbv;try rfl);(·intro wc S hbc hxc hrc;exact h2 wc hbc);(·intro A;rfl);(·intro A;rfl);(·rfl);(·rfl);(·exact trivial);(·exact hc6 b0 (aL,cL));(·intro A;exact ⟨fun _ _=>rfl,trivial⟩);(·intro A p i j hj;exact gp A p i j hj);(intro A1 hnew1;refine Qcm 7 rfl rfl ⟨fun _ _=>rfl,trivial⟩ (hc7 b0 (aL,cL) A1) ?_);(refine Qnc 1 0 0 (fun a cap=>Q5j rN 1 (fun j=>[.val (.slice (A1 j).1 N (A1 j).2)]) (a,cap)) (R:=⟨rN,1,fun j=>[.val (.slice (A1 j).1 N (A1 j).2)]⟩) rfl (RowLe.rfl' _) rfl (fun v=>rfl) trivial (fun j hj=>rfl) (hc7 b0 (aL,cL) A1) (fun p i j hj=>absurd hj (Nat.not_lt_zero _)) rfl (fun a cap p' i' h=>Qlt h) (fun a cap=>rfl) (fun aR cR hnR=>?_));(refine Qrs 14 7 0 rfl rfl ?_);(refine Q0i 8 (G:=Qvl (tk 0 (fun _=>(none,0))) (tj 0 (fun _=>(none,0)))) hz0 rfl rfl trivial (hc8 b0 (aL,cL) A1 (aR,cR)) ?_)))
  | ((with_reducible apply Qud 6 1);(·(cbv;try rfl)))
  | ((with_reducible apply Qud 7 1);(·(cbv;try rfl)))
  | (((with_reducible refine Qne (σ:={x:Nat×AdF×AdF // x.1<=P/\(∀j,Q3d w (x.2.1 j).1)/\∀j,Q3d w (x.2.2 j).1}) (fun x=>Q3a ((Q3a (Q3a (Q3a (Q3a (Q3a (Qwa ⟨pa,un,lA,ln,lc,lk,lt,bA,bn,bc,sA,sn,sc,s,jA,jn,jc,ja,jk,jo,jf,jx,je,jd⟩) 4 Quf) 4 (Q1g b0 [.int .i64 pa,.bool un,.xs 0 0,.xs 1 0])) 5 (Q5j P 6 (fun j=>[.int .i64 (.ofNat (lp j)),.int .i64 (el j),.bool (ed j),.int .u8 (ef j),.int .u8 (eb j),.int .i64 (lo j)]) (aL,cL))) 6 (gR A1)) 7 (Q5j rN 1 (fun j=>[.val (.slice (A1 j).1 N (A1 j).2)]) (aR,cR)))) 8 (Qvl (tk x.1.1 x.1.2.1) (tj x.1.1 x.1.2.2))) [9,10,15,16,17,18,19,20,21,22,23,24,25,26,27,28,29,30,31,32,33,34,35,36,37,38,39,40,41,42,43,44,45] (fun x=>[(8,.pt (.one (.int .i64 (.ofNat x.1.1))))]) (fun x=>[]) (fun x=>[(2,⟨x.1.1,1,fun j=>[.val (.slice (x.1.2.1 j).1 N (x.1.2.1 j).2)]⟩),(3,⟨x.1.1,1,fun j=>[.val (.slice (x.1.2.2 j).1 N (x.1.2.2 j).2)]⟩)]) (fun x=>P - x.1.1) ⟨(0,fun _=>(none,0),fun _=>(none,0)),Nat.zero_le _,hA0,hA0⟩ rfl rfl ?_ ?_ ?_ ?_);(·(refine Q8c ?_ ?_ ?_ ?_<;>(cbv;(try simp only[true_and,and_true]);(try ((repeat' apply And.intro)<;>(first|trivial|rfl|exact RowLe.rfl' _|exact Q0a rfl (fun j hj=>absurd hj (Nat.not_lt_zero _))|(rw[Qda har _ (by omega)];done)|exact hsk _ _ _ _|exact hsj _ _ _ _))))));(·(cbv;try rfl));(·simp);(rintro ⟨⟨k,A2,A3⟩,hk0,hA2,hA3⟩ mm hmm);(have hk:k<=P:=hk0)))
  | (((with_reducible apply Qxa);(·rw[hD0 k ‹_›];exact Int.natCast_nonneg _);(·rw[hD0 k ‹_›];have hkk:k<P:=‹_›;exact Int.ofNat_lt.2 (by omega))))
  | (((with_reducible apply Qoa (hf:=Tryz.call91));(·intro S;cbv;try rfl);(·intro wc S hbc hxc hrc;exact h3 wc hbc _ (aR,cR) k _ ‹_› (hD1 k ‹_›) A1 A2 A3 hxc);(·rfl);(refine Qnc 4 0 k (fun a cap=>Qvl (tkh k A2 (a,cap)) (tj k A3)) (R:=⟨N,1,fun x=>[.bool (sI k x)]⟩) rfl (RowLe.rfl' _) rfl (fun v=>rfl) ⟨fun _ _=>rfl,fun _ _=>rfl,fun _ _=>rfl,trivial⟩ (fun j hj=>rfl) (hc8 b0 (aL,cL) A1 (aR,cR)) (Q1c (fun p j x h=>tkp k A2 p j x h) (fun p j x h=>tjp k A3 p j x h)) (tkz k A2) (fun a cap p' i' h=>by cases p' with|zero=>exact tk3 k A2 a cap 0 i' h|succ p=>rfl) (fun a cap=>tk4 k A2 a cap) (fun a1 c1 hn1=>?_));(refine Qnc 5 1 k (fun a cap=>Qvl (tkh k A2 (a1,c1)) (tjh k A3 (a,cap))) (R:=⟨N,1,fun x=>[.bool (sU k x)]⟩) rfl (RowLe.rfl' _) rfl (fun v=>rfl) ⟨fun _ _=>rfl,fun _ _=>rfl,trivial⟩ (fun j hj=>rfl) (hc8 b0 (aL,cL) A1 (aR,cR)) (Q1c (fun p j x h=>by rw[tkup] at h⊢;exact tkp (k+1) _ p j x h) (fun p j x h=>tjp k A3 p j x h)) (tjz k A3) (fun a cap p' i' h=>by cases p' with|zero=>rfl|succ p=>exact tj3 k A3 a cap p i' (fun g=>h ⟨by rw[g.1],g.2⟩)) (fun a cap=>tj4 k A3 a cap) (fun a2 c2 hn2=>?_))))
  | (((with_reducible refine Qqe (⟨(k+1,tku A2 k (a1,c1),tju A3 k (a2,c2)),Nat.succ_le_of_lt ‹_›,tkN hA2 hn1,tjN hA3 hn2⟩:{x:Nat×AdF×AdF // x.1<=P/\(∀j,Q3d w (x.2.1 j).1)/\∀j,Q3d w (x.2.2 j).1}) (by (show _=Q3a _ 8 (Qvl (tk (k+1) (tku A2 k (a1,c1))) (tj (k+1) (tju A3 k (a2,c2)))));rw[tkup,tjup]) ?_ ?_ ?_ ?_);(·exact Nat.lt_of_lt_of_eq (show P - (k+1)<P - k by have hkk:k<P:=‹_›;omega) (Eq.symm ‹_›));(·(refine Q8c ?_ ?_ ?_ ?_<;>(cbv;(try simp only[true_and,and_true]);(try ((repeat' apply And.intro)<;>(first|trivial|rfl|exact RowLe.rfl' _|exact Q0a rfl (fun j hj=>absurd hj (Nat.not_lt_zero _))|(rw[Qda har _ (by omega)];done)|exact hsk _ _ _ _|exact hsj _ _ _ _))))));(·(cbv;try rfl));(·simp)))
  | (((have ek:k=P:=Nat.le_antisymm hk ‹_›);(subst ek);(refine Qoy ((Qeu (K:=7)).trans (Qeu (K:=6))) ?_);(apply Qcc hT (A1,(aR,cR),A2,A3) (K:=6) (c0:=(Q3a (Q3a (Q3a (Qwa ⟨pa,un,lA,ln,lc,lk,lt,bA,bn,bc,sA,sn,sc,s,jA,jn,jc,ja,jk,jo,jf,jx,je,jd⟩) 4 Quf) 4 (Q1g b0 [.int .i64 pa,.bool un,.xs 0 0,.xs 1 0])) 5 (Q5j k 6 (fun j=>[.int .i64 (.ofNat (lp j)),.int .i64 (el j),.bool (ed j),.int .u8 (ef j),.int .u8 (eb j),.int .i64 (lo j)]) (aL,cL)))) (G:=fun A:XFo=>Qvl (gR A.1) (Qvl (Q5j rN 1 (fun j=>[.val (.slice (A.1 j).1 N (A.1 j).2)]) A.2.1) (Qvl (tk k A.2.2.1) (tj k A.2.2.2)))));(·(cbv;try rfl));(·(cbv;try rfl));(·(cbv;(try simp only[true_and,and_true]);(try ((repeat' apply And.intro)<;>(first|trivial|rfl|decide)))));(·(cbv;(try simp only[true_and,and_true]);(try ((repeat' apply And.intro)<;>(first|trivial|rfl|exact RowLe.rfl' _)))));(·rfl);(·exact Q1c (gp A1) (Q1c (Qog (fun _=>rfl)) (Q1c (fun p j x h=>tkp k A2 p j x h) (fun p j x h=>tjp k A3 p j x h))));(·exact Qlo (fun p i h=>hnew1 p i h) (Qlo (Qe1 hnR) (Qlo (fun p i _=>tkA hA2 p i) (fun p i _=>tjA hA3 p i))));(·exact ⟨fun _ _=>rfl,fun _ _=>rfl,trivial⟩);(·rfl)))
  | fail)
 all_goals first
  | rfl
  | trace_state
theorem Qw5 (F:GFun) (w:World) (hF:F.At w) (hK:F.Ty8) (hO:F.Ok):
 Calls Tryz.prog 59 #[F.val] w (RetX w (fun _:XFo=>.tup [.one (.rs 0),.one (.int .i64 0)]) (fun A=>[⟨lnC F,1,fun j=>[.val (.slice (A.2.2.1 j).1 (stN F.sn F.bn) (A.2.2.1 j).2)]⟩]) (fndG F)):=by
 have h1 (wc:World) (hk:KB ⟨w,[]⟩ wc):=Q2p F wc (hF.later hk) hK
 rw[Qdj,show fchkV F=0 from hO] at h1
 have h20 (wc:World) (hk:KB ⟨w,[]⟩ wc):=Q3p F wc (hF.later hk) hK hO
 have gp:∀A p i j,j<(fndG F A p i).n->Qob ((fndG F A p i).el j)=true:=fun A p i j h=>Qzi p i j h
 obtain ⟨N,hN⟩:∃N,N=stN F.sn F.bn:=⟨_,rfl⟩
 obtain ⟨P,hP⟩:∃P,P=lnC F:=⟨_,rfl⟩
 have h2 (wc:World) (hk:KB ⟨w,[]⟩ wc):Calls Tryz.prog 55 #[F.val] wc (RetX wc (fun _:XFo=>.tup [.one (.rs 0),.one (.rs 1)]) (fun A=>[⟨P,1,fun j=>[.val (.slice (A.2.2.1 j).1 N (A.2.2.1 j).2)]⟩,⟨P,1,fun j=>[.val (.slice (A.2.2.2 j).1 N (A.2.2.2 j).2)]⟩]) (fndG F)):=by rw[hN,hP];exact h20 wc hk
 rw[<-hN,<-hP]
 generalize fndG F=gF at h2 gp⊢
 clear h20 hN hP hO hK
 obtain ⟨pa,un,lA,ln,lc,lk,lt,bA,bn,bc,sA,sn,sc,s,jA,jn,jc,ja,jk,jo,jf,jx,je,jd⟩:=F
 obtain ⟨hX,hl,hb,hs,hj⟩:=hF
 simp only at hl hb hs hj
 refine Qaa (args:=[.pt (.agg (GFun.dat _))]) (c:=(Qwa _)) Tryz.func59 rfl hX rfl rfl ?_
 obtain ⟨_,_,_,hnt,_,har,_,hcm,_,_,_,_,ar01,ar12,_,hzpl,_,_,_,_,_,_,_,_,hT⟩:=Qca
 repeat' (first
  | refine goa ?_
  | (refine' Qiha Tryz.call35 ?_ ?_;rotate_left;(·intro wc hbc hxc;exact h1 wc hbc))
  | (((with_reducible apply Qhc 4 (hf:=Tryz.call55));(·intro S;cbv;try rfl);(·intro wc S hbc hxc hrc;exact h2 wc hbc);(·intro A;rfl);(·intro A;rfl);(·rfl);(·rfl);(·trivial);(·exact Qmc _);(·intro A;exact ⟨fun _ _=>rfl,fun _ _=>rfl,trivial⟩);(·intro A p i j hj;exact gp A p i j hj);(intro A2 hnew2)))
  | (((with_reducible apply Qcc hT A2);(·(cbv;try rfl));(·(cbv;try rfl));(·(cbv;(try simp only[true_and,and_true]);(try ((repeat' apply And.intro)<;>(first|trivial|rfl|decide)))));(·(cbv;(try simp only[true_and,and_true]);(try ((repeat' apply And.intro)<;>(first|trivial|rfl|exact RowLe.rfl' _)))));(·rfl);(·exact fun p j x h=>gp A2 p j x h);(·exact fun p j h=>hnew2 p j h);(·exact ⟨fun _ _=>rfl,trivial⟩);(·rfl)))
  | fail)
 all_goals trace_state
theorem Q6u (F:GFun) (w:World) (hF:F.At w) (hK:F.Ty8) (hz:rchkV F≠0):
 Calls Tryz.prog 59 #[F.val] w (Ret w (.tuple #[.slice none 0 0,.int .i64 (rchkV F)])):=by
 have h1 (wc:World) (hk:KB ⟨w,[]⟩ wc):=Q2p F wc (hF.later hk) hK
 generalize rchkV F=z at h1 hz⊢
 have hq:decide (z=0)=false:=decide_eq_false hz
 clear hz hK
 obtain ⟨pa,un,lA,ln,lc,lk,lt,bA,bn,bc,sA,sn,sc,s,jA,jn,jc,ja,jk,jo,jf,jx,je,jd⟩:=F
 obtain ⟨hX,hl,hb,hs,hj⟩:=hF
 simp only at hl hb hs hj
 refine Qaa (args:=[.pt (.agg (GFun.dat _))]) (c:=(Qwa _)) Tryz.func59 rfl hX rfl rfl ?_
 obtain ⟨_,_,_,hnt,_,har,_,hcm,_,_,_,_,ar01,ar12,_,hzpl,_,_,_,_,_,_,_,_,hT⟩:=Qca
 repeat' (first
  | refine goa ?_
  | (refine' Qiha Tryz.call35 ?_ ?_;rotate_left;(·intro wc hbc hxc;exact h1 wc hbc))
  | fail)
 all_goals rfl
theorem Qq1 (F:GFun) (w:World) (hF:F.At w) (hK:F.Ty8) (hO:F.Ok):
 Calls Tryz.prog 60 #[F.val] w (RetX w (fun _:XFo=>.tup [.one (.rs 0),.one (.int .i64 0)]) (fun A=>[⟨lnC F,1,fun j=>[.val (.slice (A.2.2.2 j).1 (stN F.sn F.bn) (A.2.2.2 j).2)]⟩]) (fndG F)):=by
 have h1 (wc:World) (hk:KB ⟨w,[]⟩ wc):=Q2p F wc (hF.later hk) hK
 rw[Qdj,show fchkV F=0 from hO] at h1
 have h20 (wc:World) (hk:KB ⟨w,[]⟩ wc):=Q3p F wc (hF.later hk) hK hO
 have gp:∀A p i j,j<(fndG F A p i).n->Qob ((fndG F A p i).el j)=true:=fun A p i j h=>Qzi p i j h
 obtain ⟨N,hN⟩:∃N,N=stN F.sn F.bn:=⟨_,rfl⟩
 obtain ⟨P,hP⟩:∃P,P=lnC F:=⟨_,rfl⟩
 have h2 (wc:World) (hk:KB ⟨w,[]⟩ wc):Calls Tryz.prog 55 #[F.val] wc (RetX wc (fun _:XFo=>.tup [.one (.rs 0),.one (.rs 1)]) (fun A=>[⟨P,1,fun j=>[.val (.slice (A.2.2.1 j).1 N (A.2.2.1 j).2)]⟩,⟨P,1,fun j=>[.val (.slice (A.2.2.2 j).1 N (A.2.2.2 j).2)]⟩]) (fndG F)):=by rw[hN,hP];exact h20 wc hk
 rw[<-hN,<-hP]
 generalize fndG F=gF at h2 gp⊢
 clear h20 hN hP hO hK
 obtain ⟨pa,un,lA,ln,lc,lk,lt,bA,bn,bc,sA,sn,sc,s,jA,jn,jc,ja,jk,jo,jf,jx,je,jd⟩:=F
 obtain ⟨hX,hl,hb,hs,hj⟩:=hF
 simp only at hl hb hs hj
 refine Qaa (args:=[.pt (.agg (GFun.dat _))]) (c:=(Qwa _)) Tryz.func60 rfl hX rfl rfl ?_
 obtain ⟨_,_,_,hnt,_,har,_,hcm,_,_,_,_,ar01,ar12,_,hzpl,_,_,_,_,_,_,_,_,hT⟩:=Qca
 repeat' (first
  | refine goa ?_
  | (refine' Qiha Tryz.call35 ?_ ?_;rotate_left;(·intro wc hbc hxc;exact h1 wc hbc))
  | (((with_reducible apply Qhc 4 (hf:=Tryz.call55));(·intro S;cbv;try rfl);(·intro wc S hbc hxc hrc;exact h2 wc hbc);(·intro A;rfl);(·intro A;rfl);(·rfl);(·rfl);(·trivial);(·exact Qmc _);(·intro A;exact ⟨fun _ _=>rfl,fun _ _=>rfl,trivial⟩);(·intro A p i j hj;exact gp A p i j hj);(intro A2 hnew2)))
  | (((with_reducible apply Qcc hT A2);(·(cbv;try rfl));(·(cbv;try rfl));(·(cbv;(try simp only[true_and,and_true]);(try ((repeat' apply And.intro)<;>(first|trivial|rfl|decide)))));(·(cbv;(try simp only[true_and,and_true]);(try ((repeat' apply And.intro)<;>(first|trivial|rfl|exact RowLe.rfl' _)))));(·rfl);(·exact fun p j x h=>gp A2 p j x h);(·exact fun p j h=>hnew2 p j h);(·exact ⟨fun _ _=>rfl,trivial⟩);(·rfl)))
  | fail)
 all_goals trace_state
theorem Qsr (F:GFun) (w:World) (hF:F.At w) (hK:F.Ty8) (hz:rchkV F≠0):
 Calls Tryz.prog 60 #[F.val] w (Ret w (.tuple #[.slice none 0 0,.int .i64 (rchkV F)])):=by
 have h1 (wc:World) (hk:KB ⟨w,[]⟩ wc):=Q2p F wc (hF.later hk) hK
 generalize rchkV F=z at h1 hz⊢
 have hq:decide (z=0)=false:=decide_eq_false hz
 clear hz hK
 obtain ⟨pa,un,lA,ln,lc,lk,lt,bA,bn,bc,sA,sn,sc,s,jA,jn,jc,ja,jk,jo,jf,jx,je,jd⟩:=F
 obtain ⟨hX,hl,hb,hs,hj⟩:=hF
 simp only at hl hb hs hj
 refine Qaa (args:=[.pt (.agg (GFun.dat _))]) (c:=(Qwa _)) Tryz.func60 rfl hX rfl rfl ?_
 obtain ⟨_,_,_,hnt,_,har,_,hcm,_,_,_,_,ar01,ar12,_,hzpl,_,_,_,_,_,_,_,_,hT⟩:=Qca
 repeat' (first
  | refine goa ?_
  | (refine' Qiha Tryz.call35 ?_ ?_;rotate_left;(·intro wc hbc hxc;exact h1 wc hbc))
  | fail)
 all_goals rfl
end
section
set_option maxRecDepth 100000 in
theorem Q11 (F:GFun) (w:World) (hF:F.At w) (hK:F.Ty8) (hD:F.Fd):
 Calls Tryz.prog 14 #[F.val] w (Ret w (.bool true)):=by
 have h1 (wc:World) (hk:KB ⟨w,[]⟩ wc):=Qv7 F wc (hF.later hk)
 have h2 (wc:World) (hk:KB ⟨w,[]⟩ wc):=gfC F wc (hF.later hk)
 generalize greatB F=q1 at h1
 generalize gfB F=q2 at h2
 by_cases hO:fchkV F=0
 case neg=>
  have h3 (wc:World) (hk:KB ⟨w,[]⟩ wc):=Qc0 F wc (hF.later hk) hO
  have h5 (wc:World) (hk:KB ⟨w,[]⟩ wc):=Q0z F wc (hF.later hk) hO
  have h4 (wc:World) (hk:KB ⟨w,[]⟩ wc):=Q6u F wc (hF.later hk) hK (by rw[Qdj];exact hO)
  have h6 (wc:World) (hk:KB ⟨w,[]⟩ wc):=Qsr F wc (hF.later hk) hK (by rw[Qdj];exact hO)
  rw[Qdj] at h4 h6
  generalize fchkV F=z at h3 h4 h5 h6
  clear hK hO hD
  obtain ⟨pa,un,lA,ln,lc,lk,lt,bA,bn,bc,sA,sn,sc,s,jA,jn,jc,ja,jk,jo,jf,jx,je,jd⟩:=F
  obtain ⟨hX,hl,hb,hs,hj⟩:=hF
  simp only at hl hb hs hj
  refine Qaa (args:=[.pt (.agg (GFun.dat _))]) (c:=(Qwa _)) Tryz.func14 rfl hX rfl rfl ?_
  obtain ⟨_,_,_,hnt,_,har,_,hcm,_,_,_,_,ar01,ar12,_,hzpl,_,_,_,_,_,_,_,_,hT⟩:=Qca
  repeat' (first
   | refine goa ?_|refine go2 (fun h=>?_) (fun h=>?_)
   | ((with_reducible apply Qua (hf:=Tryz.call25));(·(cbv;try rfl));(·intro wc hbc hxc;exact h1 wc hbc);intro z hz)
   | ((with_reducible apply Qua (hf:=Tryz.call26));(·(cbv;try rfl));(·intro wc hbc hxc;exact h2 wc hbc);intro z hz)
   | (refine' Qiha Tryz.call53 ?_ ?_;rotate_left;(·intro wc hbc hxc;exact h3 wc hbc))
   | (refine' Qiha Tryz.call59 ?_ ?_;rotate_left;(·intro wc hbc hxc;exact h4 wc hbc))
   | (refine' Qiha Tryz.call54 ?_ ?_;rotate_left;(·intro wc hbc hxc;exact h5 wc hbc))
   | (refine' Qiha Tryz.call60 ?_ ?_;rotate_left;(·intro wc hbc hxc;exact h6 wc hbc))
   | (refine' Qiha Tryz.call61 ?_ ?_;rotate_left;(·intro wc hbc hxc;exact Q2t wc))
   | fail)
  all_goals (refine Qtb ?_;simp_all)
 have hO:F.Ok:=hO
 have h30 (wc:World) (hk:KB ⟨w,[]⟩ wc):=Q18 F wc (hF.later hk) hO hD
 have h40 (wc:World) (hk:KB ⟨w,[]⟩ wc):=Qw5 F wc (hF.later hk) hK hO
 have h50 (wc:World) (hk:KB ⟨w,[]⟩ wc):=Q6aa F wc (hF.later hk) hO hD
 have h60 (wc:World) (hk:KB ⟨w,[]⟩ wc):=Qq1 F wc (hF.later hk) hK hO
 have hN9:=hO.pts
 have hP9:lnC F<=600:=Nat.le_trans (Qxb F _) hN9
 obtain ⟨P,hP⟩:∃x,x=lnC F:=⟨_,rfl⟩
 obtain ⟨N,hN⟩:∃N,N=stN F.sn F.bn:=⟨_,rfl⟩
 obtain ⟨sI,hsI⟩:∃f:Nat->Nat->Bool,f=scI F:=⟨_,rfl⟩
 obtain ⟨sU,hsU⟩:∃f:Nat->Nat->Bool,f=scU F:=⟨_,rfl⟩
 obtain ⟨gI,hgI⟩:∃f:AdF->Nat->Nat->Row,f=fun A=>nxG (fun _=>stN F.sn F.bn) (fun j k=>[.bool (scI F j k)]) (lnC F) A:=⟨_,rfl⟩
 obtain ⟨gU,hgU⟩:∃f:AdF->Nat->Nat->Row,f=fun A=>nxG (fun _=>stN F.sn F.bn) (fun j k=>[.bool (scU F j k)]) (lnC F) A:=⟨_,rfl⟩
 obtain ⟨gF,hgF⟩:∃f:XFo->Nat->Nat->Row,f=fndG F:=⟨_,rfl⟩
 have pI:∀A p i j,j<(gI A p i).n->Qob ((gI A p i).el j)=true:=fun A p i j h=>by rw[hgI] at h⊢;exact Q1e (fun _ _=>rfl) p i j h
 have pU:∀A p i j,j<(gU A p i).n->Qob ((gU A p i).el j)=true:=fun A p i j h=>by rw[hgU] at h⊢;exact Q1e (fun _ _=>rfl) p i j h
 have pF:∀A p i j,j<(gF A p i).n->Qob ((gF A p i).el j)=true:=fun A p i j h=>by rw[hgF] at h⊢;exact Qzi p i j h
 have h3 (wc:World) (hk:KB ⟨w,[]⟩ wc):Calls Tryz.prog 53 #[F.val] wc (RetX wc (fun _:AdF=>.tup [.one (.rs 0),.one (.int .i64 0)]) (fun A=>[⟨P,1,fun j=>[.val (.slice (A j).1 N (A j).2)]⟩]) gI):=by rw[hgI,hN,hP];exact h30 wc hk
 have h5 (wc:World) (hk:KB ⟨w,[]⟩ wc):Calls Tryz.prog 54 #[F.val] wc (RetX wc (fun _:AdF=>.tup [.one (.rs 0),.one (.int .i64 0)]) (fun A=>[⟨P,1,fun j=>[.val (.slice (A j).1 N (A j).2)]⟩]) gU):=by rw[hgU,hN,hP];exact h50 wc hk
 have h4 (wc:World) (hk:KB ⟨w,[]⟩ wc):Calls Tryz.prog 59 #[F.val] wc (RetX wc (fun _:XFo=>.tup [.one (.rs 0),.one (.int .i64 0)]) (fun A=>[⟨P,1,fun j=>[.val (.slice (A.2.2.1 j).1 N (A.2.2.1 j).2)]⟩]) gF):=by rw[hgF,hN,hP];exact h40 wc hk
 have h6 (wc:World) (hk:KB ⟨w,[]⟩ wc):Calls Tryz.prog 60 #[F.val] wc (RetX wc (fun _:XFo=>.tup [.one (.rs 0),.one (.int .i64 0)]) (fun A=>[⟨P,1,fun j=>[.val (.slice (A.2.2.2 j).1 N (A.2.2.2 j).2)]⟩]) gF):=by rw[hgF,hN,hP];exact h60 wc hk
 have eI:∀(c:Nat->Nat->Row) (A:AdF) j,j<P->Q3a c 4 (gI A) 4 j=⟨(A j).1,N,(A j).2,1,fun k=>[.bool (sI j k)]⟩:=fun c A j hj=>by
  rw[Q2a (Nat.le_refl _),hgI,hN,hsI]
  exact Qjm (nn:=fun _=>stN F.sn F.bn) (el:=fun j k=>[.bool (scI F j k)]) (hP▸hj)
 have eF:∀(c:Nat->Nat->Row) K (A:XFo) j,j<P->Q3a c K (gF A) (K+2) j=⟨(A.2.2.1 j).1,N,(A.2.2.1 j).2,1,fun k=>[.bool (sI j k)]⟩:=fun c K A j hj=>by
  rw[Q2a (by omega),Nat.add_sub_cancel_left,hgF,hN,hsI]
  exact Qjm (nn:=fun _=>stN F.sn F.bn) (el:=fun j k=>[.bool (scI F j k)]) (hP▸hj)
 have eG:∀(c:Nat->Nat->Row) K (A:XFo) j,j<P->Q3a c K (gF A) (K+3) j=⟨(A.2.2.2 j).1,N,(A.2.2.2 j).2,1,fun k=>[.bool (sU j k)]⟩:=fun c K A j hj=>by
  rw[Q2a (by omega),Nat.add_sub_cancel_left,hgF,hN,hsU]
  exact Qjm (nn:=fun _=>stN F.sn F.bn) (el:=fun j k=>[.bool (scU F j k)]) (hP▸hj)
 have h7:=fun (wc:World) (c:Nat->Nat->Row) (A1:AdF) (A2:XFo) (G:Nat->Nat->Row) (H:Nat->Nat->Row) (v v':Value) (hx:XOk ⟨[],Q3a (Q3a (Q3a (Q3a c 4 (gI A1)) 5 (gF A2)) 9 G) 10 H,[]⟩ ⟨wc,[]⟩)=>
  Q3t P N sI (by omega) (by omega) A1 A2.2.2.1 _ wc v v' hx (fun j hj=>⟨4,j,by rw[Q4a (by omega),Q4a (by omega),Q4a (by omega),eI _ _ _ hj]⟩) (fun j hj=>⟨7,j,by rw[Q4a (by omega),Q4a (by omega),eF _ 5 _ _ hj]⟩)
 have e9:∀(c:Nat->Nat->Row) (A:AdF) j,j<P->Q3a c 9 (gU A) 9 j=⟨(A j).1,N,(A j).2,1,fun k=>[.bool (sU j k)]⟩:=fun c A j hj=>by
  rw[Q2a (Nat.le_refl _),hgU,hN,hsU]
  exact Qjm (nn:=fun _=>stN F.sn F.bn) (el:=fun j k=>[.bool (scU F j k)]) (hP▸hj)
 have h8:=fun (wc:World) (c:Nat->Nat->Row) (A1:AdF) (A2:XFo) (v v':Value) (hx:XOk ⟨[],Q3a (Q3a c 9 (gU A1)) 10 (gF A2),[]⟩ ⟨wc,[]⟩)=>
  Q3t P N sU (by omega) (by omega) A1 A2.2.2.2 _ wc v v' hx (fun j hj=>⟨9,j,by rw[Q4a (by omega),e9 _ _ _ hj]⟩) (fun j hj=>⟨13,j,by rw[eG _ 10 _ _ hj]⟩)
 rw[<-hN] at hN9
 rw[<-hP] at hP9
 clear h30 h40 h50 h60 hN hP hsI hsU hgI hgU hgF eI eF eG e9 hO hK hD
 obtain ⟨pa,un,lA,ln,lc,lk,lt,bA,bn,bc,sA,sn,sc,s,jA,jn,jc,ja,jk,jo,jf,jx,je,jd⟩:=F
 obtain ⟨hX,hl,hb,hs,hj⟩:=hF
 simp only at hl hb hs hj
 try simp only at h1 h2 h3 h4 h5 h6
 refine Qaa (args:=[.pt (.agg (GFun.dat _))]) (c:=(Qwa _)) Tryz.func14 rfl hX rfl rfl ?_
 obtain ⟨_,_,_,hnt,_,har,_,hcm,_,_,_,_,ar01,ar12,_,hzpl,_,_,_,_,_,_,_,_,hT⟩:=Qca
 have hc5:∀A,∀q i j,q<5->j<(Q3a (Qwa ⟨pa,un,lA,ln,lc,lk,lt,bA,bn,bc,sA,sn,sc,s,jA,jn,jc,ja,jk,jo,jf,jx,je,jd⟩) 4 (gI A) q i).n->qbL 5 ((Q3a (Qwa ⟨pa,un,lA,ln,lc,lk,lt,bA,bn,bc,sA,sn,sc,s,jA,jn,jc,ja,jk,jo,jf,jx,je,jd⟩) 4 (gI A) q i).el j)=true:=fun A=>Qm7 (Qmc _) (pI A)
 have hc9:∀A B,∀q i j,q<9->j<(Q3a (Q3a (Qwa ⟨pa,un,lA,ln,lc,lk,lt,bA,bn,bc,sA,sn,sc,s,jA,jn,jc,ja,jk,jo,jf,jx,je,jd⟩) 4 (gI A)) 5 (gF B) q i).n->qbL 9 ((Q3a (Q3a (Qwa ⟨pa,un,lA,ln,lc,lk,lt,bA,bn,bc,sA,sn,sc,s,jA,jn,jc,ja,jk,jo,jf,jx,je,jd⟩) 4 (gI A)) 5 (gF B) q i).el j)=true:=fun A B=>famW 4 (hc5 A) (pF B)
 have hc10:∀A B C,∀q i j,q<10->j<(Q3a (Q3a (Q3a (Qwa ⟨pa,un,lA,ln,lc,lk,lt,bA,bn,bc,sA,sn,sc,s,jA,jn,jc,ja,jk,jo,jf,jx,je,jd⟩) 4 (gI A)) 5 (gF B)) 9 (gU C) q i).n->qbL 10 ((Q3a (Q3a (Q3a (Qwa ⟨pa,un,lA,ln,lc,lk,lt,bA,bn,bc,sA,sn,sc,s,jA,jn,jc,ja,jk,jo,jf,jx,je,jd⟩) 4 (gI A)) 5 (gF B)) 9 (gU C) q i).el j)=true:=fun A B C=>Qm7 (hc9 A B) (pU C)
 repeat' (first
  | refine goa ?_|refine go2 (fun h=>?_) (fun h=>?_)
  | ((with_reducible apply Qua (hf:=Tryz.call25));(·(cbv;try rfl));(·intro wc hbc hxc;exact h1 wc hbc);intro z hz)
  | ((with_reducible apply Qua (hf:=Tryz.call26));(·(cbv;try rfl));(·intro wc hbc hxc;exact h2 wc hbc);intro z hz)
  | (((with_reducible apply Qhc 4 (hf:=Tryz.call53));(·intro S;cbv;try rfl);(·intro wc S hbc hxc hrc;exact h3 wc hbc);(·intro A;rfl);(·intro A;rfl);(·rfl);(·rfl);(·exact trivial);(·exact Qmc _);(·intro A;exact ⟨fun _ _=>rfl,trivial⟩);(·intro A p i j hj;exact pI A p i j hj);(intro A1 hnA1)))
  | (((with_reducible apply Qhc 5 (hf:=Tryz.call59));(·intro S;cbv;try rfl);(·intro wc S hbc hxc hrc;exact h4 wc hbc);(·intro A;rfl);(·intro A;rfl);(·rfl);(·rfl);(·exact ⟨fun _ _=>rfl,trivial⟩);(·exact hc5 A1);(·intro A;exact ⟨fun _ _=>rfl,trivial⟩);(·intro A p i j hj;exact pF A p i j hj);(intro A2 hnA2)))
  | (((with_reducible apply Qhc 9 (hf:=Tryz.call54));(·intro S;cbv;try rfl);(·intro wc S hbc hxc hrc;exact h5 wc hbc);(·intro A;rfl);(·intro A;rfl);(·rfl);(·rfl);(·exact ⟨fun _ _=>rfl,fun _ _=>rfl,trivial⟩);(·exact hc9 A1 A2);(·intro A;exact ⟨fun _ _=>rfl,trivial⟩);(·intro A p i j hj;exact pU A p i j hj);(intro A3 hnA3)))
  | (((with_reducible apply Qhc 10 (hf:=Tryz.call60));(·intro S;cbv;try rfl);(·intro wc S hbc hxc hrc;exact h6 wc hbc);(·intro A;rfl);(·intro A;rfl);(·rfl);(·rfl);(·exact ⟨fun _ _=>rfl,fun _ _=>rfl,fun _ _=>rfl,trivial⟩);(·exact hc10 A1 A2 A3);(·intro A;exact ⟨fun _ _=>rfl,trivial⟩);(·intro A p i j hj;exact pF A p i j hj);(intro A4 hnA4)))
  | ((with_reducible apply Qbp (hf:=Tryz.call61));(·intro S;cbv;try rfl);(·intro wc S hbc hxc hrc;exact (by first|with_reducible exact h7 wc _ A1 A2 _ _ _ _ hxc (hrc 0 _ rfl) (hrc 1 _ rfl)|with_reducible exact h8 wc _ A3 A4 _ _ hxc (hrc 2 _ rfl) (hrc 3 _ rfl))))
  | fail)
 all_goals first|rfl|(refine Qtb ?_;simp_all)|trace_state
end
end Go.Proofs.YtemnfncbgalljaaGreat
