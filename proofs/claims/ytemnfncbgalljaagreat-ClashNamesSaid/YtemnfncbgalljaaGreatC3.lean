/- Lemmas. No condition. -/
import Derived.Test.YtemnfncbgalljaaGreatScB
import Derived.Test.YtemnfncbgalljaaGreatScC
namespace Go.Proofs.YtemnfncbgalljaaGreat
open Go.RowKit
set_option linter.all false
set_option maxHeartbeats 64000000
section
set_option maxRecDepth 100000
noncomputable def wyF (F:GFun) (k:Nat):WyG:=⟨stN F.sn F.bn,lpN F k,Q0g F,fun m=>Qfl F (k+F.ln) m,fun n=>Qqf F k n,fun n=>decide ((stAt F (lpN F k)).r.bo=3)&&uB F (pbN F n) (piN F n) (lnL F (lpN F k)).toNat⟩
noncomputable def scI (F:GFun) (k j:Nat):Bool:=(wyF F k).inB j
noncomputable def scU (F:GFun) (k j:Nat):Bool:=(wyF F k).usB j
theorem RowIs.cong {c:R9z} {w:World} {n es:Nat} {f g:Nat->List SC} {v:Value} (h:RowIs c w ⟨n,es,f⟩ v) (e:∀j,j<n->f j=g j):RowIs c w ⟨n,es,g⟩ v:=by
 obtain ⟨xs,h1,h2,h3⟩:=h
 refine ⟨xs,h1,fun j hj=>?_,h3⟩
 show isL _ (g j) _
 rw[<-e j hj];exact h2 j hj
theorem Q1e {nn:N9z} {el:Nat->Nat->List SC} {i:Nat} {A:AdF} (hp:∀j k,Qob (el j k)=true) (p j k:Nat) (h:k<(nxG nn el i A p j).n):Qob ((nxG nn el i A p j).el k)=true:=by
 unfold nxG at h⊢
 split at h
 · rename_i g;rw[if_pos g];exact hp j k
 · exact absurd h (Nat.not_lt_zero _)
theorem Qnm {F:GFun} {A:OpA}:∀p j k,k<(Q92 F A p j).n->Qob ((Q92 F A p j).el k)=true
 | 0,j,k,h=>Qwc 0 j k h
 | 1,j,k,h=>Q1e (nn:=fun _=>stN F.sn F.bn) (el:=fun j k=>[.bool (Qqf F j k)]) (i:=lnC F) (A:=A.2.1) (fun _ _=>rfl) 0 j k h
 | p+2,j,k,h=>Q1e (nn:=nlN F) (el:=fun j k=>[.int .i64 (.ofNat (ndN F j k))]) (i:=stN F.sn F.bn) (A:=A.2.2) (fun _ _=>rfl) p j k h
theorem Qn9 {F:GFun} (hO:F.Ok) {k:Nat} (hk:k<lnC F) {ar:A9z} (har:ar=rAr) (h3:(stAt F (lpN F k)).r.bo=3) (n:Nat):decide (ar .and .u32 (ar .shr .u32 (.ofNat (umN F n)) (lnL F (lpN F k))) 1=1)=(wyF F k).tw n:=by
 obtain ⟨h1,h2⟩:=Qzn hO hk h3
 have hl:=hO.ln16
 have e:lnL F (lpN F k)=.ofNat (lnL F (lpN F k)).toNat:=(Int.toNat_of_nonneg h1).symm
 rw[e]
 unfold umN
 rw[Qd2 har o9 o9]
 show _=(decide ((stAt F (lpN F k)).r.bo=3)&&_)
 rw[decide_eq_true h3,Bool.true_and]
 cases uB F (pbN F n) (piN F n) (lnL F (lpN F k)).toNat<;>rfl
theorem Qj9 (F:GFun) (hO:F.Ok) (k:Nat) (hk:k<lnC F) (w:World) (c:R9z) (A:OpA) (v0 v1 v2 v3 v4:Value) (hx:XOk ⟨[],c,[]⟩ ⟨w,[]⟩) (hc:∀p i,p<3->c (4+p) i=Q92 F A p i)
 (R0:RowIs c w ⟨stN F.sn F.bn,1,fun j=>[.val (.slice (A.2.2 j).1 (nlN F j) (A.2.2 j).2)]⟩ v0) (R1:RowIs c w ⟨stN F.sn F.bn,1,fun j=>[.int .u32 (.ofNat (umN F j))]⟩ v1) (R2:RowIs c w (lnR F) v2) (R3:RowIs c w ⟨lnC F,1,fun j=>[.val (.slice (A.1 (j+F.ln)).1 (stN F.sn F.bn) (A.1 (j+F.ln)).2)]⟩ v3) (R4:RowIs c w ⟨lnC F,1,fun j=>[.val (.slice (A.2.1 j).1 (stN F.sn F.bn) (A.2.1 j).2)]⟩ v4):
 Calls Tryz.prog 88 #[.agg #[v0,v1,v2,v3,v4],.int .i64 (.ofNat k)] w (RetR w Qra (.tup [.one (.rs 0),.one (.rs 1)]) [⟨stN F.sn F.bn,1,fun j=>[.bool (scI F k j)]⟩,⟨stN F.sn F.bn,1,fun j=>[.bool (scU F k j)]⟩]):=by
 have hN9:=hO.pts
 obtain ⟨nx,hnx⟩:=x9 (fun i=>if i<stN F.sn F.bn then nlN F i else 0:N9z)
 have hn1:∀i,i<stN F.sn F.bn->nx i=nlN F i:=fun i hi=>by rw[hnx];simp only[if_pos hi]
 have hn2:∀i,stN F.sn F.bn<=i->nx i=0:=fun i hi=>by rw[hnx];simp only[if_neg (show ¬i<stN F.sn F.bn by omega)]
 have e1:∀j,j<lnC F->c 4 (j+F.ln)=⟨(A.1 (j+F.ln)).1,stN F.sn F.bn,(A.1 (j+F.ln)).2,1,fun k=>[.bool (Qfl F (j+F.ln) k)]⟩:=fun j hj=>by
  rw[hc 0 _ o9]
  show rrG A.1 (nnN (Q4g F) (stN F.sn F.bn)) (Qfl F) 0 (j+F.ln)=_
  unfold rrG
  rw[if_pos rfl,Qde (by unfold Q4g;unfold lnC at hj;omega)]
 have e2:∀j,j<lnC F->c 5 j=⟨(A.2.1 j).1,stN F.sn F.bn,(A.2.1 j).2,1,fun k=>[.bool (Qqf F j k)]⟩:=fun j hj=>by
  rw[hc 1 _ o9]
  exact (Qjm hj:nxG (fun _=>stN F.sn F.bn) (fun j k=>[.bool (Qqf F j k)]) (lnC F) A.2.1 0 j=_)
 have e3:∀j,j<stN F.sn F.bn->c 6 j=⟨(A.2.2 j).1,nx j,(A.2.2 j).2,1,fun k=>[.int .i64 (.ofNat (ndN F j k))]⟩:=fun j hj=>by
  rw[hc 2 _ o9,hn1 j hj]
  exact (Qjm hj:nxG (nlN F) (fun j k=>[.int .i64 (.ofNat (ndN F j k))]) (stN F.sn F.bn) A.2.2 0 j=_)
 obtain ⟨ad,rfl,rfl,rfl,rfl,rfl,hX⟩:=Ql4 (N:=stN F.sn F.bn) (P:=lnC F) (nx:=nx) (nq:=ndN F) (um:=umN F) (rg:=fun j m=>Qfl F (j+F.ln) m) (kl:=Qqf F) (A1:=fun j=>A.1 (j+F.ln)) (A2:=A.2.1) (A3:=A.2.2) (le:=(lnR F).el) hx (fun _=>rfl) hn2 (fun j hj=>⟨4,j+F.ln,e1 j hj⟩) (fun j hj=>⟨5,j,e2 j hj⟩) (fun j hj=>⟨6,j,e3 j hj⟩) (R0.cong (fun j hj=>by rw[hn1 j hj])) R1 R2 R3 R4
 refine Q7aa (stN F.sn F.bn) (lnC F) k (wyF F k) nx (ndN F) (umN F) (lpN F) (fun j=>(stAt F (lpN F j)).r.p.l) (fun j=>(stAt F (lpN F j)).r.p.d) (fun j=>(stAt F (lpN F j)).r.p.f) (fun j=>(stAt F (lpN F j)).r.bo) (fun j=>lnL F (lpN F j)) (fun j m=>Qfl F (j+F.ln) m) (Qqf F) (nnN (lnC F) (stN F.sn F.bn)) ad (fun j=>A.1 (j+F.ln)) A.2.1 A.2.2 w hk (Qde hk) hN9 rfl rfl (Qhm hk).1 (fun a ha=>⟨(hn1 a ha).symm,fun t ht=>rfl⟩) (fun a ha q hq=>Qgi hO ha q hq) (fun {a} ha=>?_) (fun m=>rfl) (fun n=>rfl) (fun h=>(Qzn hO hk h).1) (fun har h n _=>Qn9 hO hk har h n) (fun h n=>?_) hX
 · rw[hn1 a ha];unfold nlN;rw[Qgg];exact Q4h
 · show (decide ((stAt F (lpN F k)).r.bo=3)&&_)=false
   rw[decide_eq_false h,Bool.false_and]
theorem Q18 (F:GFun) (w:World) (hF:F.At w) (hO:F.Ok) (hD:F.Fd):
 Calls Tryz.prog 53 #[F.val] w (RetX w (fun _:AdF=>.tup [.one (.rs 0),.one (.int .i64 0)]) (fun A=>[⟨lnC F,1,fun j=>[.val (.slice (A j).1 (stN F.sn F.bn) (A j).2)]⟩]) (fun A=>nxG (fun _=>stN F.sn F.bn) (fun j k=>[.bool (scI F j k)]) (lnC F) A)):=by
 have h10 wc (hk:KB ⟨w,[]⟩ wc):=Qm8 F wc (hF.later hk) hO hD
 have h20:=fun (wc:World) (c c':R9z) (k:Nat) (hk:k<lnC F) A v0 v1 v2 v3 v4 hx hc R0 R1 R2 R3 R4=>Calls.to (c':=c') (r:=[⟨stN F.sn F.bn,1,fun j=>[.bool (scI F k j)]⟩,⟨stN F.sn F.bn,1,fun j=>[.bool (scU F k j)]⟩]) ⟨fun _ _=>rfl,fun _ _=>rfl,trivial⟩ rfl (Qj9 F hO k hk wc c A v0 v1 v2 v3 v4 hx hc R0 R1 R2 R3 R4)
 have hN9:=hO.pts
 have hP9:lnC F<=600:=Nat.le_trans (Qxb F _) hN9
 obtain ⟨N,hN⟩:=x9 (stN F.sn F.bn)
 obtain ⟨P,hP⟩:=x9 (lnC F)
 obtain ⟨lp,hlp⟩:=x9 (lpN F:N9z)
 obtain ⟨el,hel⟩:=x9 (fun j=>(stAt F (lpN F j)).r.p.l:I9z)
 obtain ⟨ed,hed⟩:=x9 (fun j=>(stAt F (lpN F j)).r.p.d:B9z)
 obtain ⟨ef,hef⟩:=x9 (fun j=>(stAt F (lpN F j)).r.p.f:I9z)
 obtain ⟨eb,heb⟩:=x9 (fun j=>(stAt F (lpN F j)).r.bo:I9z)
 obtain ⟨lo,hlo⟩:=x9 (fun j=>lnL F (lpN F j):I9z)
 obtain ⟨um,hum⟩:=x9 (umN F:N9z)
 obtain ⟨nl,hnl⟩:=x9 (nlN F:N9z)
 obtain ⟨sI,hsI⟩:=x9 (scI F:B9y)
 obtain ⟨sU,hsU⟩:=x9 (scU F:B9y)
 obtain ⟨gA,hgA⟩:=x9 (Q92 F:OpA->Nat->Nat->Row)
 obtain ⟨tk,tkh,tku,htk,tk0,tkp,tkz,tk3,tk4,tkup,tk1,tk2,tkN,tkA⟩:=Qkd (fun _=>N) (fun j k=>[.bool (sI j k)]) (fun _ _=>rfl)
 have gp:∀A p j k,k<(gA A p j).n->Qob ((gA A p j).el k)=true:=fun A p j k h=>by
  rw[hgA] at h⊢
  exact Qnm p j k h
 have h1 wc (hk:KB ⟨w,[]⟩ wc):Calls Tryz.prog 87 #[F.val] wc (RetX wc (fun _:OpA=>.tup [.agg [.rs 0,.rs 1,.rs 2,.rs 3,.rs 4],.one (.int .i64 0)]) (fun x=>[⟨N,1,fun j=>[.val (.slice (x.2.2 j).1 (nl j) (x.2.2 j).2)]⟩,⟨N,1,fun j=>[.int .u32 (.ofNat (um j))]⟩,⟨P,6,fun j=>[.int .i64 (.ofNat (lp j)),.int .i64 (el j),.bool (ed j),.int .u8 (ef j),.int .u8 (eb j),.int .i64 (lo j)]⟩,⟨P,1,fun j=>[.val (.slice (x.1 (j+F.ln)).1 N (x.1 (j+F.ln)).2)]⟩,⟨P,1,fun j=>[.val (.slice (x.2.1 j).1 N (x.2.1 j).2)]⟩]) gA):=by
  have e:Qq5 F=fun x=>[⟨N,1,fun j=>[.val (.slice (x.2.2 j).1 (nl j) (x.2.2 j).2)]⟩,⟨N,1,fun j=>[.int .u32 (.ofNat (um j))]⟩,⟨P,6,fun j=>[.int .i64 (.ofNat (lp j)),.int .i64 (el j),.bool (ed j),.int .u8 (ef j),.int .u8 (eb j),.int .i64 (lo j)]⟩,⟨P,1,fun j=>[.val (.slice (x.1 (j+F.ln)).1 N (x.1 (j+F.ln)).2)]⟩,⟨P,1,fun j=>[.val (.slice (x.2.1 j).1 N (x.2.1 j).2)]⟩]:=by funext x;rw[Qq5,lnR,hN,hnl,hum,hP,hlp,hel,hed,hef,heb,hlo]
  rw[<-e,hgA];exact h10 wc hk
 have h2:=fun (wc:World) {c':R9z} (k:Nat) (hk:k<P) (A:OpA) (B:AdF) (S:Nat->Value) (hx:XOk ⟨[],Q3a (Q3a (Qwa F) 4 (gA A)) 7 (tk k B),[]⟩ ⟨wc,[]⟩)
  (R0:RowIs (Q3a (Q3a (Qwa F) 4 (gA A)) 7 (tk k B)) wc ⟨N,1,fun j=>[.val (.slice (A.2.2 j).1 (nl j) (A.2.2 j).2)]⟩ (S 0)) (R1:RowIs (Q3a (Q3a (Qwa F) 4 (gA A)) 7 (tk k B)) wc ⟨N,1,fun j=>[.int .u32 (.ofNat (um j))]⟩ (S 1))
  (R2:RowIs (Q3a (Q3a (Qwa F) 4 (gA A)) 7 (tk k B)) wc ⟨P,6,fun j=>[.int .i64 (.ofNat (lp j)),.int .i64 (el j),.bool (ed j),.int .u8 (ef j),.int .u8 (eb j),.int .i64 (lo j)]⟩ (S 2))
  (R3:RowIs (Q3a (Q3a (Qwa F) 4 (gA A)) 7 (tk k B)) wc ⟨P,1,fun j=>[.val (.slice (A.1 (j+F.ln)).1 N (A.1 (j+F.ln)).2)]⟩ (S 3)) (R4:RowIs (Q3a (Q3a (Qwa F) 4 (gA A)) 7 (tk k B)) wc ⟨P,1,fun j=>[.val (.slice (A.2.1 j).1 N (A.2.1 j).2)]⟩ (S 4))=>
  (show Calls Tryz.prog 88 #[.agg #[S 0,S 1,S 2,S 3,S 4],.int .i64 (.ofNat k)] wc (RetR wc c' (.tup [.one (.rs 0),.one (.rs 1)]) [⟨N,1,fun j=>[.bool (sI k j)]⟩,⟨N,1,fun j=>[.bool (sU k j)]⟩]) from by
    rw[hN] at R0 R1 R3 R4⊢
    rw[hP] at R2 R3 R4 hk
    rw[hnl] at R0
    rw[hum] at R1
    rw[hlp,hel,hed,hef,heb,hlo] at R2
    rw[hsI,hsU]
    refine h20 wc _ c' k hk A _ _ _ _ _ hx (fun p i hp=>?_) R0 R1 R2 R3 R4
    rw[Q4a o9,Q2a o9,Nat.add_sub_cancel_left,hgA])
 have eG:(fun A=>nxG (fun _=>stN F.sn F.bn) (fun j k=>[.bool (scI F j k)]) (lnC F) A)=fun A=>tk P A:=by rw[htk,<-hN,<-hP,<-hsI]
 rw[eG,<-hN,<-hP]
 rw[<-hN] at hN9
 rw[<-hP] at hP9
 clear h10 h20 eG hN hP hlp hel hed hef heb hlo hum hnl hsI hsU hgA htk hO hD
 obtain ⟨pa,un,lA,ln,lc,lk,lt,bA,bn,bc,sA,sn,sc,s,jA,jn,jc,ja,jk,jo,jf,jx,je,jd⟩:=F
 obtain ⟨hX,hl,hb,hs,hj⟩:=hF
 simp only at hl hb hs hj
 try simp only at h1 h2
 refine Qaa (args:=[.pt (.agg (GFun.dat _))]) (c:=(Qwa _)) Tryz.func53 rfl hX rfl rfl ?_
 obtain ⟨_,_,_,hnt,_,har,_,hcm,_,_,_,_,ar01,ar12,zpl,hzpl,zjn,hzjn,_,_,_,_,_,_,hT⟩:=Qca
 have hc4:∀q i j,q<4->j<(Qwa ⟨pa,un,lA,ln,lc,lk,lt,bA,bn,bc,sA,sn,sc,s,jA,jn,jc,ja,jk,jo,jf,jx,je,jd⟩ q i).n->qbL 4 ((Qwa ⟨pa,un,lA,ln,lc,lk,lt,bA,bn,bc,sA,sn,sc,s,jA,jn,jc,ja,jk,jo,jf,jx,je,jd⟩ q i).el j)=true:=fun q i j hq hj=>by
  match q,hq with
  | 0,_=>rfl
  | 1,_=>rfl
  | 2,_=>rfl
  | 3,_=>rfl
 have hc7:∀A q i j,q<7->j<(Q3a (Qwa ⟨pa,un,lA,ln,lc,lk,lt,bA,bn,bc,sA,sn,sc,s,jA,jn,jc,ja,jk,jo,jf,jx,je,jd⟩) 4 (gA A) q i).n->qbL 7 ((Q3a (Qwa ⟨pa,un,lA,ln,lc,lk,lt,bA,bn,bc,sA,sn,sc,s,jA,jn,jc,ja,jk,jo,jf,jx,je,jd⟩) 4 (gA A) q i).el j)=true:=fun A q i j hq hj=>by
  by_cases g:q<4
  · rw[Q4a g] at hj⊢
    exact Qvc _ (Qvc _ (Qvc _ (hc4 q i j g hj)))
  · rw[Q2a o9] at hj⊢
    exact Q9c (gp A _ _ _ hj)
 have hsk:∀k (A:AdF) (a:Option Addr) (cap:Nat),RowLe ⟨zpl k 1,1,zjn k (fun j=>[.val (.slice (A j).1 N (A j).2)]) (fun j=>Qte [.val (.slice a N cap)] (0+j * 1) 1)⟩ ⟨k+1,1,fun j=>[.val (.slice (tku A k (a,cap) j).1 N (tku A k (a,cap) j).2)]⟩:=fun k A a cap=>by
  refine Q7a hzpl hzjn rfl (fun j hj=>?_) ?_
  · rw[tk1 A _ _ j hj];exact Qpa _
  · rw[tk2];exact Qpa _
 have hA0:∀j:Nat,Q3d w ((fun _=>((none:Option Addr),0):AdF) j).1:=fun j b p h=>by cases h
 repeat' (first
  | refine goa ?_|refine go3 (fun hlt=>?_) (fun hge=>?_)|refine go2 (fun h=>?_) (fun h=>?_)|exact go0|refine god ?_|refine gof ?_|refine Qvha ?_ ?_
  | refine gob ?_
  | ((with_reducible refine Q4c ?_ ?_);(·first|((rw[hzpl];show k+1<=1073741824;omega))))
  | (((with_reducible apply Qhc 4 (hf:=Tryz.call87));(·intro S;cbv;try rfl);(·intro wc S hbc hxc hrc;exact h1 wc hbc);(·intro A;rfl);(·intro A;rfl);(·rfl);(·rfl);(·trivial);(·exact hc4);(·intro A;exact ⟨fun _ _=>rfl,fun _ _=>rfl,fun _ _=>rfl,fun _ _=>rfl,fun _ _=>rfl,trivial⟩);(·intro A p i j hj;exact gp A p i j hj);(intro A1 hnew1;refine Q0i 7 (G:=tk 0 (fun _=>(none,0))) (tk0 _) rfl rfl ⟨fun _ _=>rfl,fun _ _=>rfl,fun _ _=>rfl,fun _ _=>rfl,fun _ _=>rfl,trivial⟩ (hc7 A1) ?_)))
  | ((with_reducible apply Qud 6 1);(·(cbv;try rfl)))
  | (((with_reducible refine Qne (σ:={x:Nat×AdF // x.1<=P/\∀j,Q3d w (x.2 j).1}) (fun x=>Q3a (Q3a (Qwa ⟨pa,un,lA,ln,lc,lk,lt,bA,bn,bc,sA,sn,sc,s,jA,jn,jc,ja,jk,jo,jf,jx,je,jd⟩) 4 (gA A1)) 7 (tk x.1.1 x.1.2)) [7,8,9,22,23,24,25,26,27,28,29,30,31,32,33,34] (fun x=>[(21,.pt (.one (.int .i64 (.ofNat x.1.1))))]) (fun x=>[]) (fun x=>[(5,⟨x.1.1,1,fun j=>[.val (.slice (x.1.2 j).1 N (x.1.2 j).2)]⟩)]) (fun x=>P - x.1.1) ⟨(0,fun _=>(none,0)),Nat.zero_le _,hA0⟩ rfl rfl ?_ ?_ ?_ ?_);(·(refine Q8c ?_ ?_ ?_ ?_<;>(cbv;(try simp only[true_and,and_true]);(try ((repeat' apply And.intro)<;>(first|trivial|rfl|exact RowLe.rfl' _|exact Q0a rfl (fun j hj=>absurd hj (Nat.not_lt_zero _))|(rw[Qda har _ o9];done)|exact hsk _ _ _ _))))));(·(cbv;try rfl));(·simp);(rintro ⟨⟨k,A2⟩,hk0,hA2⟩ mm hmm);(have hk:k<=P:=hk0)))
  | (((with_reducible apply Qoa (hf:=Tryz.call88));(·intro S;cbv;try rfl);(·intro wc S hbc hxc hrc;exact h2 wc k y9 A1 A2 S hxc (hrc 0 _ rfl) (hrc 1 _ rfl) (hrc 2 _ rfl) (hrc 3 _ rfl) (hrc 4 _ rfl));(·rfl);(refine Qnc 6 0 k (fun a cap=>tkh k A2 (a,cap)) (R:=⟨N,1,fun x=>[.bool (sI k x)]⟩) rfl (RowLe.rfl' _) rfl (fun v=>rfl) ⟨fun _ _=>rfl,fun _ _=>rfl,fun _ _=>rfl,fun _ _=>rfl,fun _ _=>rfl,fun _ _=>rfl,fun _ _=>rfl,trivial⟩ (fun j hj=>rfl) (hc7 A1) (fun p j x h=>tkp k A2 p j x h) (tkz k A2) (fun a cap p' i' h=>tk3 k A2 a cap p' i' h) (fun a cap=>tk4 k A2 a cap) (fun a1 c1 hn1=>?_))))
  | (((with_reducible refine Qqe (⟨(k+1,tku A2 k (a1,c1)),Nat.succ_le_of_lt y9,tkN hA2 hn1⟩:{x:Nat×AdF // x.1<=P/\∀j,Q3d w (x.2 j).1}) (by (show _=Q3a _ 7 (tk (k+1) (tku A2 k (a1,c1))));rw[tkup]) ?_ ?_ ?_ ?_);(·exact Nat.lt_of_lt_of_eq (show P - (k+1)<P - k by omega) (Eq.symm y9));(·(refine Q8c ?_ ?_ ?_ ?_<;>(cbv;(try simp only[true_and,and_true]);(try ((repeat' apply And.intro)<;>(first|trivial|rfl|exact RowLe.rfl' _|exact Q0a rfl (fun j hj=>absurd hj (Nat.not_lt_zero _))|(rw[Qda har _ o9];done)|exact hsk _ _ _ _))))));(·(cbv;try rfl));(·simp)))
  | (((have ek:k=P:=Nat.le_antisymm hk y9);(subst ek);(with_reducible apply Qcc hT A2 (K:=7) (c0:=Q3a (Qwa ⟨pa,un,lA,ln,lc,lk,lt,bA,bn,bc,sA,sn,sc,s,jA,jn,jc,ja,jk,jo,jf,jx,je,jd⟩) 4 (gA A1)));(·(cbv;try rfl));(·(cbv;try rfl));(·(cbv;(try simp only[true_and,and_true]);(try ((repeat' apply And.intro)<;>(first|trivial|rfl|decide)))));(·(cbv;(try simp only[true_and,and_true]);(try ((repeat' apply And.intro)<;>(first|trivial|rfl|exact RowLe.rfl' _)))));(·rfl);(·exact fun p j x h=>tkp _ A2 p j x h);(·exact fun p j h=>tkA hA2 p j);(·exact ⟨fun _ _=>rfl,trivial⟩);(·rfl)))
  | (fail)
  | fail)
theorem Q6aa (F:GFun) (w:World) (hF:F.At w) (hO:F.Ok) (hD:F.Fd):
 Calls Tryz.prog 54 #[F.val] w (RetX w (fun _:AdF=>.tup [.one (.rs 0),.one (.int .i64 0)]) (fun A=>[⟨lnC F,1,fun j=>[.val (.slice (A j).1 (stN F.sn F.bn) (A j).2)]⟩]) (fun A=>nxG (fun _=>stN F.sn F.bn) (fun j k=>[.bool (scU F j k)]) (lnC F) A)):=by
 have h10 wc (hk:KB ⟨w,[]⟩ wc):=Qm8 F wc (hF.later hk) hO hD
 have h20:=fun (wc:World) (c c':R9z) (k:Nat) (hk:k<lnC F) A v0 v1 v2 v3 v4 hx hc R0 R1 R2 R3 R4=>Calls.to (c':=c') (r:=[⟨stN F.sn F.bn,1,fun j=>[.bool (scI F k j)]⟩,⟨stN F.sn F.bn,1,fun j=>[.bool (scU F k j)]⟩]) ⟨fun _ _=>rfl,fun _ _=>rfl,trivial⟩ rfl (Qj9 F hO k hk wc c A v0 v1 v2 v3 v4 hx hc R0 R1 R2 R3 R4)
 have hN9:=hO.pts
 have hP9:lnC F<=600:=Nat.le_trans (Qxb F _) hN9
 obtain ⟨N,hN⟩:=x9 (stN F.sn F.bn)
 obtain ⟨P,hP⟩:=x9 (lnC F)
 obtain ⟨lp,hlp⟩:=x9 (lpN F:N9z)
 obtain ⟨el,hel⟩:=x9 (fun j=>(stAt F (lpN F j)).r.p.l:I9z)
 obtain ⟨ed,hed⟩:=x9 (fun j=>(stAt F (lpN F j)).r.p.d:B9z)
 obtain ⟨ef,hef⟩:=x9 (fun j=>(stAt F (lpN F j)).r.p.f:I9z)
 obtain ⟨eb,heb⟩:=x9 (fun j=>(stAt F (lpN F j)).r.bo:I9z)
 obtain ⟨lo,hlo⟩:=x9 (fun j=>lnL F (lpN F j):I9z)
 obtain ⟨um,hum⟩:=x9 (umN F:N9z)
 obtain ⟨nl,hnl⟩:=x9 (nlN F:N9z)
 obtain ⟨sI,hsI⟩:=x9 (scI F:B9y)
 obtain ⟨sU,hsU⟩:=x9 (scU F:B9y)
 obtain ⟨gA,hgA⟩:=x9 (Q92 F:OpA->Nat->Nat->Row)
 obtain ⟨tk,tkh,tku,htk,tk0,tkp,tkz,tk3,tk4,tkup,tk1,tk2,tkN,tkA⟩:=Qkd (fun _=>N) (fun j k=>[.bool (sU j k)]) (fun _ _=>rfl)
 have gp:∀A p j k,k<(gA A p j).n->Qob ((gA A p j).el k)=true:=fun A p j k h=>by
  rw[hgA] at h⊢
  exact Qnm p j k h
 have h1 wc (hk:KB ⟨w,[]⟩ wc):Calls Tryz.prog 87 #[F.val] wc (RetX wc (fun _:OpA=>.tup [.agg [.rs 0,.rs 1,.rs 2,.rs 3,.rs 4],.one (.int .i64 0)]) (fun x=>[⟨N,1,fun j=>[.val (.slice (x.2.2 j).1 (nl j) (x.2.2 j).2)]⟩,⟨N,1,fun j=>[.int .u32 (.ofNat (um j))]⟩,⟨P,6,fun j=>[.int .i64 (.ofNat (lp j)),.int .i64 (el j),.bool (ed j),.int .u8 (ef j),.int .u8 (eb j),.int .i64 (lo j)]⟩,⟨P,1,fun j=>[.val (.slice (x.1 (j+F.ln)).1 N (x.1 (j+F.ln)).2)]⟩,⟨P,1,fun j=>[.val (.slice (x.2.1 j).1 N (x.2.1 j).2)]⟩]) gA):=by
  have e:Qq5 F=fun x=>[⟨N,1,fun j=>[.val (.slice (x.2.2 j).1 (nl j) (x.2.2 j).2)]⟩,⟨N,1,fun j=>[.int .u32 (.ofNat (um j))]⟩,⟨P,6,fun j=>[.int .i64 (.ofNat (lp j)),.int .i64 (el j),.bool (ed j),.int .u8 (ef j),.int .u8 (eb j),.int .i64 (lo j)]⟩,⟨P,1,fun j=>[.val (.slice (x.1 (j+F.ln)).1 N (x.1 (j+F.ln)).2)]⟩,⟨P,1,fun j=>[.val (.slice (x.2.1 j).1 N (x.2.1 j).2)]⟩]:=by funext x;rw[Qq5,lnR,hN,hnl,hum,hP,hlp,hel,hed,hef,heb,hlo]
  rw[<-e,hgA];exact h10 wc hk
 have h2:=fun (wc:World) {c':R9z} (k:Nat) (hk:k<P) (A:OpA) (B:AdF) (S:Nat->Value) (hx:XOk ⟨[],Q3a (Q3a (Qwa F) 4 (gA A)) 7 (tk k B),[]⟩ ⟨wc,[]⟩)
  (R0:RowIs (Q3a (Q3a (Qwa F) 4 (gA A)) 7 (tk k B)) wc ⟨N,1,fun j=>[.val (.slice (A.2.2 j).1 (nl j) (A.2.2 j).2)]⟩ (S 0)) (R1:RowIs (Q3a (Q3a (Qwa F) 4 (gA A)) 7 (tk k B)) wc ⟨N,1,fun j=>[.int .u32 (.ofNat (um j))]⟩ (S 1))
  (R2:RowIs (Q3a (Q3a (Qwa F) 4 (gA A)) 7 (tk k B)) wc ⟨P,6,fun j=>[.int .i64 (.ofNat (lp j)),.int .i64 (el j),.bool (ed j),.int .u8 (ef j),.int .u8 (eb j),.int .i64 (lo j)]⟩ (S 2))
  (R3:RowIs (Q3a (Q3a (Qwa F) 4 (gA A)) 7 (tk k B)) wc ⟨P,1,fun j=>[.val (.slice (A.1 (j+F.ln)).1 N (A.1 (j+F.ln)).2)]⟩ (S 3)) (R4:RowIs (Q3a (Q3a (Qwa F) 4 (gA A)) 7 (tk k B)) wc ⟨P,1,fun j=>[.val (.slice (A.2.1 j).1 N (A.2.1 j).2)]⟩ (S 4))=>
  (show Calls Tryz.prog 88 #[.agg #[S 0,S 1,S 2,S 3,S 4],.int .i64 (.ofNat k)] wc (RetR wc c' (.tup [.one (.rs 0),.one (.rs 1)]) [⟨N,1,fun j=>[.bool (sI k j)]⟩,⟨N,1,fun j=>[.bool (sU k j)]⟩]) from by
    rw[hN] at R0 R1 R3 R4⊢
    rw[hP] at R2 R3 R4 hk
    rw[hnl] at R0
    rw[hum] at R1
    rw[hlp,hel,hed,hef,heb,hlo] at R2
    rw[hsI,hsU]
    refine h20 wc _ c' k hk A _ _ _ _ _ hx (fun p i hp=>?_) R0 R1 R2 R3 R4
    rw[Q4a o9,Q2a o9,Nat.add_sub_cancel_left,hgA])
 have eG:(fun A=>nxG (fun _=>stN F.sn F.bn) (fun j k=>[.bool (scU F j k)]) (lnC F) A)=fun A=>tk P A:=by rw[htk,<-hN,<-hP,<-hsU]
 rw[eG,<-hN,<-hP]
 rw[<-hN] at hN9
 rw[<-hP] at hP9
 clear h10 h20 eG hN hP hlp hel hed hef heb hlo hum hnl hsI hsU hgA htk hO hD
 obtain ⟨pa,un,lA,ln,lc,lk,lt,bA,bn,bc,sA,sn,sc,s,jA,jn,jc,ja,jk,jo,jf,jx,je,jd⟩:=F
 obtain ⟨hX,hl,hb,hs,hj⟩:=hF
 simp only at hl hb hs hj
 try simp only at h1 h2
 refine Qaa (args:=[.pt (.agg (GFun.dat _))]) (c:=(Qwa _)) Tryz.func54 rfl hX rfl rfl ?_
 obtain ⟨_,_,_,hnt,_,har,_,hcm,_,_,_,_,ar01,ar12,zpl,hzpl,zjn,hzjn,_,_,_,_,_,_,hT⟩:=Qca
 have hc4:∀q i j,q<4->j<(Qwa ⟨pa,un,lA,ln,lc,lk,lt,bA,bn,bc,sA,sn,sc,s,jA,jn,jc,ja,jk,jo,jf,jx,je,jd⟩ q i).n->qbL 4 ((Qwa ⟨pa,un,lA,ln,lc,lk,lt,bA,bn,bc,sA,sn,sc,s,jA,jn,jc,ja,jk,jo,jf,jx,je,jd⟩ q i).el j)=true:=fun q i j hq hj=>by
  match q,hq with
  | 0,_=>rfl
  | 1,_=>rfl
  | 2,_=>rfl
  | 3,_=>rfl
 have hc7:∀A q i j,q<7->j<(Q3a (Qwa ⟨pa,un,lA,ln,lc,lk,lt,bA,bn,bc,sA,sn,sc,s,jA,jn,jc,ja,jk,jo,jf,jx,je,jd⟩) 4 (gA A) q i).n->qbL 7 ((Q3a (Qwa ⟨pa,un,lA,ln,lc,lk,lt,bA,bn,bc,sA,sn,sc,s,jA,jn,jc,ja,jk,jo,jf,jx,je,jd⟩) 4 (gA A) q i).el j)=true:=fun A q i j hq hj=>by
  by_cases g:q<4
  · rw[Q4a g] at hj⊢
    exact Qvc _ (Qvc _ (Qvc _ (hc4 q i j g hj)))
  · rw[Q2a o9] at hj⊢
    exact Q9c (gp A _ _ _ hj)
 have hsk:∀k (A:AdF) (a:Option Addr) (cap:Nat),RowLe ⟨zpl k 1,1,zjn k (fun j=>[.val (.slice (A j).1 N (A j).2)]) (fun j=>Qte [.val (.slice a N cap)] (0+j * 1) 1)⟩ ⟨k+1,1,fun j=>[.val (.slice (tku A k (a,cap) j).1 N (tku A k (a,cap) j).2)]⟩:=fun k A a cap=>by
  refine Q7a hzpl hzjn rfl (fun j hj=>?_) ?_
  · rw[tk1 A _ _ j hj];exact Qpa _
  · rw[tk2];exact Qpa _
 have hA0:∀j:Nat,Q3d w ((fun _=>((none:Option Addr),0):AdF) j).1:=fun j b p h=>by cases h
 repeat' (first
  | refine goa ?_|refine go3 (fun hlt=>?_) (fun hge=>?_)|refine go2 (fun h=>?_) (fun h=>?_)|exact go0|refine god ?_|refine gof ?_|refine Qvha ?_ ?_
  | refine gob ?_
  | ((with_reducible refine Q4c ?_ ?_);(·first|((rw[hzpl];show k+1<=1073741824;omega))))
  | (((with_reducible apply Qhc 4 (hf:=Tryz.call87));(·intro S;cbv;try rfl);(·intro wc S hbc hxc hrc;exact h1 wc hbc);(·intro A;rfl);(·intro A;rfl);(·rfl);(·rfl);(·trivial);(·exact hc4);(·intro A;exact ⟨fun _ _=>rfl,fun _ _=>rfl,fun _ _=>rfl,fun _ _=>rfl,fun _ _=>rfl,trivial⟩);(·intro A p i j hj;exact gp A p i j hj);(intro A1 hnew1;refine Q0i 7 (G:=tk 0 (fun _=>(none,0))) (tk0 _) rfl rfl ⟨fun _ _=>rfl,fun _ _=>rfl,fun _ _=>rfl,fun _ _=>rfl,fun _ _=>rfl,trivial⟩ (hc7 A1) ?_)))
  | ((with_reducible apply Qud 6 1);(·(cbv;try rfl)))
  | (((with_reducible refine Qne (σ:={x:Nat×AdF // x.1<=P/\∀j,Q3d w (x.2 j).1}) (fun x=>Q3a (Q3a (Qwa ⟨pa,un,lA,ln,lc,lk,lt,bA,bn,bc,sA,sn,sc,s,jA,jn,jc,ja,jk,jo,jf,jx,je,jd⟩) 4 (gA A1)) 7 (tk x.1.1 x.1.2)) [7,8,9,22,23,24,25,26,27,28,29,30,31,32,33,34] (fun x=>[(21,.pt (.one (.int .i64 (.ofNat x.1.1))))]) (fun x=>[]) (fun x=>[(5,⟨x.1.1,1,fun j=>[.val (.slice (x.1.2 j).1 N (x.1.2 j).2)]⟩)]) (fun x=>P - x.1.1) ⟨(0,fun _=>(none,0)),Nat.zero_le _,hA0⟩ rfl rfl ?_ ?_ ?_ ?_);(·(refine Q8c ?_ ?_ ?_ ?_<;>(cbv;(try simp only[true_and,and_true]);(try ((repeat' apply And.intro)<;>(first|trivial|rfl|exact RowLe.rfl' _|exact Q0a rfl (fun j hj=>absurd hj (Nat.not_lt_zero _))|(rw[Qda har _ o9];done)|exact hsk _ _ _ _))))));(·(cbv;try rfl));(·simp);(rintro ⟨⟨k,A2⟩,hk0,hA2⟩ mm hmm);(have hk:k<=P:=hk0)))
  | (((with_reducible apply Qoa (hf:=Tryz.call88));(·intro S;cbv;try rfl);(·intro wc S hbc hxc hrc;exact h2 wc k y9 A1 A2 S hxc (hrc 0 _ rfl) (hrc 1 _ rfl) (hrc 2 _ rfl) (hrc 3 _ rfl) (hrc 4 _ rfl));(·rfl);(refine Qnc 7 0 k (fun a cap=>tkh k A2 (a,cap)) (R:=⟨N,1,fun x=>[.bool (sU k x)]⟩) rfl (RowLe.rfl' _) rfl (fun v=>rfl) ⟨fun _ _=>rfl,fun _ _=>rfl,fun _ _=>rfl,fun _ _=>rfl,fun _ _=>rfl,fun _ _=>rfl,fun _ _=>rfl,trivial⟩ (fun j hj=>rfl) (hc7 A1) (fun p j x h=>tkp k A2 p j x h) (tkz k A2) (fun a cap p' i' h=>tk3 k A2 a cap p' i' h) (fun a cap=>tk4 k A2 a cap) (fun a1 c1 hn1=>?_))))
  | (((with_reducible refine Qqe (⟨(k+1,tku A2 k (a1,c1)),Nat.succ_le_of_lt y9,tkN hA2 hn1⟩:{x:Nat×AdF // x.1<=P/\∀j,Q3d w (x.2 j).1}) (by (show _=Q3a _ 7 (tk (k+1) (tku A2 k (a1,c1))));rw[tkup]) ?_ ?_ ?_ ?_);(·exact Nat.lt_of_lt_of_eq (show P - (k+1)<P - k by omega) (Eq.symm y9));(·(refine Q8c ?_ ?_ ?_ ?_<;>(cbv;(try simp only[true_and,and_true]);(try ((repeat' apply And.intro)<;>(first|trivial|rfl|exact RowLe.rfl' _|exact Q0a rfl (fun j hj=>absurd hj (Nat.not_lt_zero _))|(rw[Qda har _ o9];done)|exact hsk _ _ _ _))))));(·(cbv;try rfl));(·simp)))
  | (((have ek:k=P:=Nat.le_antisymm hk y9);(subst ek);(with_reducible apply Qcc hT A2 (K:=7) (c0:=Q3a (Qwa ⟨pa,un,lA,ln,lc,lk,lt,bA,bn,bc,sA,sn,sc,s,jA,jn,jc,ja,jk,jo,jf,jx,je,jd⟩) 4 (gA A1)));(·(cbv;try rfl));(·(cbv;try rfl));(·(cbv;(try simp only[true_and,and_true]);(try ((repeat' apply And.intro)<;>(first|trivial|rfl|decide)))));(·(cbv;(try simp only[true_and,and_true]);(try ((repeat' apply And.intro)<;>(first|trivial|rfl|exact RowLe.rfl' _)))));(·rfl);(·exact fun p j x h=>tkp _ A2 p j x h);(·exact fun p j h=>tkA hA2 p j);(·exact ⟨fun _ _=>rfl,trivial⟩);(·rfl)))
  | (fail)
  | fail)
end
namespace WyG
def eB (G:WyG) (n m:Nat):Bool:=(G.sc n).contains m&&G.rg m&&!G.kl n
theorem eB_iff {G:WyG} {n m:Nat}:G.eB n m=true↔G.R n m:=by
 unfold eB R
 simp only[Bool.and_eq_true,List.contains_eq_mem,decide_eq_true_eq,Bool.not_eq_true']
 exact ⟨fun h=>⟨h.2,h.1.1,h.1.2⟩,fun h=>⟨⟨h.2.1,h.2.2⟩,h.1⟩⟩
def inT (G:WyG):Nat->Nat->Bool
 | 0,_=>false
 | s+1,m=>inT G s m||(List.range G.N).any fun n=>G.eB n m&&(decide (n=G.p)||inT G s n)
def usT (G:WyG) (t:Nat):Nat->Nat->Bool
 | 0,_=>false
 | s+1,m=>usT G t s m||(List.range G.N).any fun n=>G.eB n m&&(usT G t s n||(G.inT t n&&G.tw n))
def shut (G:WyG) (s:Nat):Bool:=decide (G.p<G.N)&&Qed G.N fun n=>Qed G.N fun m=>!G.eB n m||((!(decide (n=G.p)||G.inT s n)||G.inT s m)&&(!(G.usT s s n||(G.inT s n&&G.tw n))||G.usT s s m))
theorem inT_snd {G:WyG}:∀s m,G.inT s m=true->G.inB m=true
 | 0,m,h=>by cases h
 | s+1,m,h=>by
   simp only[inT,Bool.or_eq_true,List.any_eq_true,List.mem_range,Bool.and_eq_true,decide_eq_true_eq] at h
   rcases h with h|⟨n,_,h1,h2⟩
   · exact inT_snd s m h
   · rcases h2 with h2|h2
     · rw[h2] at h1;exact in0 (eB_iff.1 h1)
     · exact in1 (inT_snd s n h2) (eB_iff.1 h1)
theorem usT_snd {G:WyG} (t:Nat):∀s m,G.usT t s m=true->G.usB m=true
 | 0,m,h=>by cases h
 | s+1,m,h=>by
   simp only[usT,Bool.or_eq_true,List.any_eq_true,List.mem_range,Bool.and_eq_true] at h
   rcases h with h|⟨n,_,h1,h2⟩
   · exact usT_snd t s m h
   · rcases h2 with h2|h2
     · exact us1 (usT_snd t s n h2) (eB_iff.1 h1)
     · exact us0 (inT_snd t n h2.1) h2.2 (eB_iff.1 h1)
theorem lit {G:WyG} (hl:∀m,m<G.N->∀q∈G.sc m,q<G.N) {s:Nat} (h:G.shut s=true) (m:Nat):G.inB m=G.inT s m/\G.usB m=G.usT s s m:=by
 simp only[shut,Bool.and_eq_true,decide_eq_true_eq] at h
 obtain ⟨hp,h⟩:=h
 have key:∀n m,n<G.N->G.R n m->m<G.N/\((n=G.p\/G.inT s n=true)->G.inT s m=true)/\((G.usT s s n=true\/(G.inT s n=true/\G.tw n=true))->G.usT s s m=true):=fun n m hn hR=>by
  have hm:=hl n hn m hR.2.1
  have:=Qla.1 (Qla.1 h n hn) m hm
  rw[eB_iff.2 hR] at this
  simp only[Bool.not_true,Bool.false_or,Bool.and_eq_true,Bool.or_eq_true,Bool.not_eq_true',Bool.or_eq_false_iff,decide_eq_false_iff_not] at this
  refine ⟨hm,fun g=>?_,fun g=>?_⟩
  · rcases this.1 with k|k
    · rcases g with g|g
      · exact absurd g k.1
      · rw[k.2] at g;cases g
    · exact k
  · rcases this.2 with k|k
    · rcases g with g|g
      · rw[k.1] at g;cases g
      · have:=k.2
        rw[g.1,g.2] at this;cases this
    · exact k
 have k1:∀m,G.inB m=true->m<G.N/\G.inT s m=true:=fun m g=>by
  replace g:=Qmb.1 g
  induction g with
  | zero g=>have:=key _ _ hp g;exact ⟨this.1,this.2.1 (.inl rfl)⟩
  | step _ g ih=>have:=key _ _ ih.1 g;exact ⟨this.1,this.2.1 (.inr ih.2)⟩
 have k2:∀m,G.usB m=true->m<G.N/\G.usT s s m=true:=fun m g=>by
  replace g:=Qmb.1 g
  induction g with
  | zero g=>
    obtain ⟨n,g1,g2,g3⟩:=g
    have h1:=k1 n g1
    have:=key _ _ h1.1 g3
    exact ⟨this.1,this.2.2 (.inr ⟨h1.2,g2⟩)⟩
  | step _ g ih=>have:=key _ _ ih.1 g;exact ⟨this.1,this.2.2 (.inl ih.2)⟩
 refine ⟨?_,?_⟩
 · rw[Bool.eq_iff_iff];exact ⟨fun g=>(k1 m g).2,inT_snd s m⟩
 · rw[Bool.eq_iff_iff];exact ⟨fun g=>(k2 m g).2,usT_snd s s m⟩
end WyG
end Go.Proofs.YtemnfncbgalljaaGreat
