/- Lemmas. No condition. -/
import Derived.Test.YtemnfncbgalljaaGreatK3
namespace Go.Proofs.YtemnfncbgalljaaGreat
open Go.RowKit
set_option linter.all false
set_option maxRecDepth 100000
set_option maxHeartbeats 64000000
theorem Qtea {P N:Nat} {f:B9y} {A:AdF} (p i j:Nat) (hj:j<(rrG A (nnN P N) f p i).n):nxG (fun _=>N) (fun j k=>[.bool (f j k)]) P A p i=rrG A (nnN P N) f p i:=by
 unfold rrG at hj⊢
 unfold nxG
 by_cases h:p=0
 · rw[if_pos h] at hj⊢
   by_cases hi:i<P
   · rw[if_pos ⟨h,hi⟩,Qde hi]
   · simp only[nnN,if_neg hi] at hj
     exact absurd hj (Nat.not_lt_zero _)
 · rw[if_neg h] at hj
   exact absurd hj (Nat.not_lt_zero _)
theorem Qwda {p:Prop} (h:p:=by (first|((try with_reducible refine Q8c ?_ ?_ ?_ ?_);all_goals (cbv;(try simp only[true_and,and_true]);(try ((repeat' apply And.intro)<;>(first|trivial|rfl|exact RowLe.rfl' _|decide|(rw[Qda har _ o9];done)|((exact RZ))|((exact RQ (b10 _)))|((exact RQ (b20 _ _ _)))|((exact RQ (b40 _ _ _)))|((exact RQ (b2P _ n i k y9 hk)))|((exact RQ (b1T _ n i y9 hi)))|((exact RQ (b4P _ n m j y9 hj (of_decide_eq_true (p:=eb m=3) y9) y9 (t6 y9 y9 y9))))|((exact RQ (b3s _ n m (t3 y9))))|((exact RQ (b3s _ n m (t4 y9))))|((exact RQ (b3s _ n m (t5 y9 y9 y9))))|((exact RQ (b3P n m y9 hm)))|((exact RQ (b2f _ n i k (.inl y9))))|((exact RQ (b2f _ n i k (.inr y9))))|((exact RQ (b4f _ n m j (.inl y9))))|((exact RQ (b4f _ n m j (.inr (.inl y9)))))|((exact RQ (b4f _ n m j (.inr (.inr y9)))))|((exact S2 _ n i k y9 y9))|((exact S4 _ n m j y9 y9 y9))|((have e9:n=N:=Nat.le_antisymm hn y9;rw[e9];exact RowLe.rfl' _))|((rw[Qda har i (by have h9:=hT9 n y9;have h8:i<tn n:=y9;omega)];done))|((rw[Qda har _ o9];done))|fail))));done)|fail)):Pf p:=⟨h⟩
theorem Qzga (F:GFun) (w:World) (hF:F.At w) (hO:F.Ok) (hE:F.Fe):
 Calls Tryz.prog 20 #[F.val] w (RetR w Qra (.tup [.one (.rs 0),.one (.int .i64 0)]) [claR (claL F)]):=by
 have hD:=hE.fd
 have h10 wc (hk:KB ⟨w,[]⟩ wc) {c:R9z}:=Calls.to (c':=c) (r:=[lnR F]) ⟨fun _ _=>rfl,trivial⟩ rfl (Q7s F wc (hF.later hk) hO)
 have h20 wc (hk:KB ⟨w,[]⟩ wc):=(Q18 F wc (hF.later hk) hO hD).mono fun _ _ h=>h.fam (G':=fun A=>rrG A (nnN (lnC F) (stN F.sn F.bn)) (scI F)) fun A p i j hj=>Qtea p i j hj
 have h30 wc (hk:KB ⟨w,[]⟩ wc):=(Q6aa F wc (hF.later hk) hO hD).mono fun _ _ h=>h.fam (G':=fun A=>rrG A (nnN (lnC F) (stN F.sn F.bn)) (scU F)) fun A p i j hj=>Qtea p i j hj
 have h40 wc (hk:KB ⟨w,[]⟩ wc) {c:R9z}:=Calls.to (c':=c) (r:=[ptR (Qgb F.sn F.bn)]) ⟨fun _ _=>rfl,trivial⟩ rfl (Q7h F wc (hF.later hk) hO)
 have h50 wc (hk:KB ⟨w,[]⟩ wc) {c:R9z} (n:Nat) (hn:n<stN F.sn F.bn):=Calls.to (c':=c) (Qdea _) rfl (Qxfa F wc (hF.later hk) hO (pbN F n) (piN F n) (Qoc hn).1)
 have h60 wc (hk:KB ⟨w,[]⟩ wc) (n:Nat) (hn:n<stN F.sn F.bn):=Qy2 F wc (hF.later hk) hO hD n hn
 have hlk0:∀k,k<lnC F->(stAt F (lpN F k)).r.bo=3->0<=lnL F (lpN F k):=fun k hk h=>(Qzn hO hk h).1
 have hbit0:∀k n,k<lnC F->(stAt F (lpN F k)).r.bo=3->decide (rAr .and .u32 (rAr .shr .u32 (.ofNat (umN F n)) (lnL F (lpN F k))) 1=1)=(wyF F k).tw n:=fun k n hk h=>Qn9 hO hk rfl h n
 have hto0:∀n,n<stN F.sn F.bn->∀i,i<(ptT F (pbN F n) (piN F n)).length->((ptT F (pbN F n) (piN F n)).getD i .zero).Ok:=fun n hn i hi=>Q0fa hO hE (Qoc hn).1 _ (by rw[List.getD_eq_getElem?_getD,List.getElem?_eq_getElem hi];exact List.getElem_mem hi)
 have hln0:∀k,k<lnC F->(lnG F k).p.ok=true/\0<=(lnG F k).p.f/\1<=(lnG F k).bo/\(lnG F k).bo<=3:=fun k hk=>Qzfa hO hE hk
 have hN9:=hO.pts
 have hP9:lnC F<=600:=Nat.le_trans (Qxb F _) hN9
 have hl16:=hO.ln16
 have hT90:∀n,n<stN F.sn F.bn->(ptT F (pbN F n) (piN F n)).length<=9:=fun n hn=>Qcea hO (Qoc hn).1
 obtain ⟨N,hN⟩:=x9 (stN F.sn F.bn)
 obtain ⟨P,hP⟩:=x9 (lnC F)
 obtain ⟨lp,hlp⟩:=x9 (lpN F:N9z)
 obtain ⟨el,hel⟩:=x9 (fun j=>(stAt F (lpN F j)).r.p.l:I9z)
 obtain ⟨ed,hed⟩:=x9 (fun j=>(stAt F (lpN F j)).r.p.d:B9z)
 obtain ⟨ef,hef⟩:=x9 (fun j=>(stAt F (lpN F j)).r.p.f:I9z)
 obtain ⟨eb,heb⟩:=x9 (fun j=>(stAt F (lpN F j)).r.bo:I9z)
 obtain ⟨lo,hlo⟩:=x9 (fun j=>lnL F (lpN F j):I9z)
 obtain ⟨sI,hsI⟩:=x9 (scI F:B9y)
 obtain ⟨sU,hsU⟩:=x9 (scU F:B9y)
 obtain ⟨tw,htw⟩:=x9 (fun k n=>(wyF F k).tw n:B9y)
 obtain ⟨nn,hnn⟩:=x9 (nnN (lnC F) (stN F.sn F.bn):N9z)
 obtain ⟨tq,htq⟩:=x9 (fun n i=>(ptT F (pbN F n) (piN F n)).getD i .zero:Nat->Nat->GTouch)
 obtain ⟨tn,htn⟩:=x9 (fun n=>(ptT F (pbN F n) (piN F n)).length:N9z)
 obtain ⟨xl,hxl⟩:=x9 (fun n i=>(tq n i).p.l:Nat->Nat->Int)
 obtain ⟨xd,hxd⟩:=x9 (fun n i=>(tq n i).p.d:B9y)
 obtain ⟨xf,hxf⟩:=x9 (fun n i=>(tq n i).p.f:Nat->Nat->Int)
 obtain ⟨xw,hxw⟩:=x9 (fun n i=>(tq n i).w:B9y)
 obtain ⟨xz,hxz⟩:=x9 (fun n i=>(tq n i).d:B9y)
 obtain ⟨cf,hcf⟩:=x9 (fun n i k=>conB (tq n i) (lnG F k) (scU F k n):Nat->Nat->Nat->Bool)
 obtain ⟨cg,hcg⟩:=x9 (fun n m j=>conB ⟨(lnG F m).p,true,true⟩ (lnG F j) (scU F j n):Nat->Nat->Nat->Bool)
 obtain ⟨um,hum⟩:=x9 (umN F:N9z)
 obtain ⟨sm,hsm⟩:=x9 (smN F:I9z)
 obtain ⟨pb,hpb⟩:=x9 (pbN F:N9z)
 obtain ⟨pi,hpi⟩:=x9 (piN F:N9z)
 have h1 wc (hk:KB ⟨w,[]⟩ wc) {c:R9z}:Calls Tryz.prog 52 #[F.val] wc (RetR wc c (.tup [.one (.rs 0),.one (.int .i64 0)]) [⟨P,6,fun j=>[.int .i64 (.ofNat (lp j)),.int .i64 (el j),.bool (ed j),.int .u8 (ef j),.int .u8 (eb j),.int .i64 (lo j)]⟩]):=by
  have:=@h10 wc hk c
  rw[lnR] at this
  rw[hP,hlp,hel,hed,hef,heb,hlo];exact this
 have h2 wc (hk:KB ⟨w,[]⟩ wc):Calls Tryz.prog 53 #[F.val] wc (RetX wc (fun _:AdF=>.tup [.one (.rs 0),.one (.int .i64 0)]) (fun A=>[⟨P,1,fun j=>[.val (.slice (A j).1 N (A j).2)]⟩]) (fun A=>rrG A nn sI)):=by rw[hP,hN,hnn,hsI];exact h20 wc hk
 have h3 wc (hk:KB ⟨w,[]⟩ wc):Calls Tryz.prog 54 #[F.val] wc (RetX wc (fun _:AdF=>.tup [.one (.rs 0),.one (.int .i64 0)]) (fun A=>[⟨P,1,fun j=>[.val (.slice (A j).1 N (A j).2)]⟩]) (fun A=>rrG A nn sU)):=by rw[hP,hN,hnn,hsU];exact h30 wc hk
 have h4 wc (hk:KB ⟨w,[]⟩ wc) {c:R9z}:Calls Tryz.prog 67 #[F.val] wc (RetR wc c (.tup [.one (.rs 0),.one (.int .i64 0)]) [⟨N,2,fun j=>[.int .i64 (.ofNat (pb j)),.int .i64 (.ofNat (pi j))]⟩]):=by
  have:=@h40 wc hk c
  rw[ptR,Q6b] at this
  rw[hN,hpb,hpi];exact this
 have h5 wc (hk:KB ⟨w,[]⟩ wc) {c:R9z} (n:Nat) (hn:n<N):Calls Tryz.prog 70 #[F.val,.agg #[.int .i64 (.ofNat (pb n)),.int .i64 (.ofNat (pi n))]] wc (RetR wc c (.pt (.one (.rs 0))) [⟨tn n,5,fun j=>[.int .i64 (xl n j),.bool (xd n j),.int .u8 (xf n j),.bool (xw n j),.bool (xz n j)]⟩]):=by
  have:=@h50 wc hk c n (hN▸hn)
  rw[hpb,hpi,htn,hxl,hxd,hxf,hxw,hxz,htq];exact this
 have h6 wc (hk:KB ⟨w,[]⟩ wc) (n:Nat) (hn:n<N):Calls Tryz.prog 57 #[F.val,.int .i64 (.ofNat n)] wc (Ret wc (.tuple #[.int .u32 (.ofNat (um n)),.int .i64 (sm n),.int .i64 0])):=by rw[hum,hsm];exact h60 wc hk n (hN▸hn)
 have hlk:∀k,k<P->eb k=3->0<=lo k:=by rw[hP,heb,hlo];exact hlk0
 have hbit:∀k n,k<P->eb k=3->decide (rAr .and .u32 (rAr .shr .u32 (.ofNat (um n)) (lo k)) 1=1)=tw k n:=by rw[hP,heb,hum,hlo,htw];exact hbit0
 have h7 (wc:World) (n i k:Nat) (hn:n<N) (hi:i<tn n) (hk:k<P):Calls Tryz.prog 69 #[.agg #[.int .i64 (xl n i),.bool (xd n i),.int .u8 (xf n i),.bool (xw n i),.bool (xz n i)],.agg #[.int .i64 (.ofNat (lp k)),.int .i64 (el k),.bool (ed k),.int .u8 (ef k),.int .u8 (eb k),.int .i64 (lo k)],.bool (sU k n)] wc (Ret wc (.bool (cf n i k))):=by
  have ht:(tq n i).Ok:=by rw[htn] at hi;rw[htq];exact hto0 n (hN▸hn) i hi
  have hl:=hln0 k (hP▸hk)
  have:=Qxea (tq n i) (lnG F k) (scU F k n) ht.1 hl.1 ht.2 hl.2.1 wc
  rw[hxl,hxd,hxf,hxw,hxz,hlp,hel,hed,hef,heb,hlo,hsU,hcf];exact this
 have h8 (wc:World) (n m j:Nat) (hm:m<P) (hj:j<P):Calls Tryz.prog 69 #[.agg #[.int .i64 (el m),.bool (ed m),.int .u8 (ef m),.bool true,.bool true],.agg #[.int .i64 (.ofNat (lp j)),.int .i64 (el j),.bool (ed j),.int .u8 (ef j),.int .u8 (eb j),.int .i64 (lo j)],.bool (sU j n)] wc (Ret wc (.bool (cg n m j))):=by
  have hl1:=hln0 m (hP▸hm)
  have hl2:=hln0 j (hP▸hj)
  have:=Qxea ⟨(lnG F m).p,true,true⟩ (lnG F j) (scU F j n) hl1.1 hl2.1 hl1.2.1 hl2.2.1 wc
  rw[hlp,hel,hed,hef,heb,hlo,hsU,hcg];exact this
 have hnk:∀k,k<P->nn k=N:=fun k hk=>by rw[hnn,hN];exact Qde (hP▸hk)
 have hT9:∀n,n<N->tn n<=9:=fun n hn=>by rw[htn];exact hT90 n (hN▸hn)
 obtain ⟨⟨l0,e0,l1,e1,l2,e2,l3,e3,l4,e4,b0,b10,b1z,b20,b2P,b1T,b40,b4P,b3s,b3P,b2f,b4f,s2,s4,s0,hb2,hb4,hb0,eR,hp0,hp3⟩,-⟩:=Qdha F hO hN hP hel hed hef heb hsI htw htq htn hxl hxd hxf hxw hxz hcf hcg
 rw[eR]
 rw[<-hN] at hN9
 rw[<-hP] at hP9
 clear h10 h20 h30 h40 h50 h60 hlk0 hbit0 hum hsm hpb hpi hto0 hln0 hT90 eR hN hP hlp hel hed hef heb hlo hsI hsU htw hnn htq htn hxl hxd hxf hxw hxz hcf hcg hO hE hD
 obtain ⟨pa,un,lA,ln,lc,lk,lt,bA,bn,bc,sA,sn,sc,s,jA,jn,jc,ja,jk,jo,jf,jx,je,jd⟩:=F
 obtain ⟨hX,hl,hb,hs,hj⟩:=hF
 simp only at hl hb hs hj
 try simp only at h1 h2 h3 h4 h5 h6 hl16
 refine Qaa (args:=[.pt (.agg (GFun.dat _))]) (c:=(Qwa _)) Tryz.func20 rfl hX rfl rfl ?_
 obtain ⟨_,_,_,hnt,ar,har,_,hcm,_,_,_,_,ar01,ar12,zpl,hzpl,zjn,hzjn,_,_,_,_,_,_,hT⟩:=Qca
 have hc5:∀A,∀q i j,q<5->j<(Q3a (Qwa ⟨pa,un,lA,ln,lc,lk,lt,bA,bn,bc,sA,sn,sc,s,jA,jn,jc,ja,jk,jo,jf,jx,je,jd⟩) 4 (rrG A nn sI) q i).n->qbL 5 ((Q3a (Qwa ⟨pa,un,lA,ln,lc,lk,lt,bA,bn,bc,sA,sn,sc,s,jA,jn,jc,ja,jk,jo,jf,jx,je,jd⟩) 4 (rrG A nn sI) q i).el j)=true:=fun A=>Qiia (Qmc _) (fun p i j h=>Q9c (Qwc p i j h))
 have hpl:Qic [⟨l0 N,7,e0 N⟩]:=⟨fun j _=>hp0 N j,trivial⟩
 have RQ:∀{n n':Nat} {e e':Nat->List SC},n=n'/\e=e'->RowLe ⟨n,7,e⟩ ⟨n',7,e'⟩:=by rintro _ _ _ _ ⟨rfl,rfl⟩;exact RowLe.rfl' _
 have RZ:∀{e:Nat->List SC},RowLe ⟨0,7,e⟩ ⟨l0 0,7,e0 0⟩:=by rw[b0];exact Q0a rfl (fun j hj=>absurd hj (Nat.not_lt_zero _))
 have S2:=s2 zpl zjn hzpl hzjn
 have S4:=s4 zpl zjn hzpl hzjn
 have hnq:∀X:Int,0<=X->X<X.toNat+1:=fun X h=>by omega
 have t3:∀{n m},decide (eb m=3)=false->(decide (eb m=3)&&(sI m n&&tw m n))=false:=fun h=>by rw[h];rfl
 have t4:∀{n m},sI m n=false->(decide (eb m=3)&&(sI m n&&tw m n))=false:=fun h=>by rw[h,Bool.false_and,Bool.and_false]
 have hw:∀m n,m<P->eb m=3->decide (ar .and .u32 (ar .shr .u32 (.ofNat (um n)) (lo m)) 1=1)=tw m n:=fun m n g1 g2=>by rw[har];exact hbit m n g1 g2
 have t5:∀{n m},m<P->decide (eb m=3)=true->decide (ar .and .u32 (ar .shr .u32 (.ofNat (um n)) (lo m)) 1=1)=false->(decide (eb m=3)&&(sI m n&&tw m n))=false:=fun {n m} g1 g2 h=>by rw[<-hw m n g1 (of_decide_eq_true g2),h,Bool.and_false,Bool.and_false]
 have t6:∀{n m},m<P->decide (eb m=3)=true->decide (ar .and .u32 (ar .shr .u32 (.ofNat (um n)) (lo m)) 1=1)=true->tw m n=true:=fun {n m} g1 g2 h=>by rw[<-hw m n g1 (of_decide_eq_true g2)];exact h
 repeat' (first
  | refine goa ?_|refine go3 (fun hlt=>?_) (fun hge=>?_)|refine go2 (fun h=>?_) (fun h=>?_)|exact go0|refine goz ?_|refine Qvha ?_ ?_
  | ((first|with_reducible apply Qhb hT|with_reducible apply Qna hT);(·(cbv;try rfl));(·(cbv;try rfl));(·exact Qwda);(·exact Qwda);(·rfl))
  | ((first|with_reducible apply Qcn hT|with_reducible apply Qgn hT);(·(cbv;try rfl));(·(cbv;try rfl));(·exact Qwda);(·exact Qwda);(·rfl);(·first|assumption|exact ⟨fun _ _=>rfl,trivial⟩);(·rfl))
  | ((with_reducible apply Qoa (hf:=Tryz.call52));(·intro S;cbv;try rfl);(·intro wc S hbc hxc hrc;exact h1 wc hbc);(·rfl))
  | (((with_reducible apply Qhc 4 (hf:=Tryz.call53));(·intro S;cbv;try rfl);(·intro wc S hbc hxc hrc;exact h2 wc hbc);(·intro A;rfl);(·intro A;rfl);(·rfl);(·rfl);(·exact ⟨fun _ _=>rfl,trivial⟩);(·exact Qmc _);(·intro A;exact ⟨fun j hj=>rfl,trivial⟩);(·intro A p i j hj;exact Qwc p i j hj);(intro A1 hnA1;refine Qsca 1 (fun j=>[.xs 4 j]) rfl (fun j hj vs hv=>Q8da ⟨rfl,hnk j hj,rfl⟩ vs hv) ?_)))
  | (((with_reducible apply Qhc 5 (hf:=Tryz.call54));(·intro S;cbv;try rfl);(·intro wc S hbc hxc hrc;exact h3 wc hbc);(·intro A;rfl);(·intro A;rfl);(·rfl);(·rfl);(·exact ⟨fun _ _=>rfl,fun _ _=>rfl,trivial⟩);(·exact hc5 A1);(·intro A;exact ⟨fun j hj=>rfl,trivial⟩);(·intro A p i j hj;exact Qwc p i j hj);(intro A2 hnA2;refine Qsca 2 (fun j=>[.xs 5 j]) rfl (fun j hj vs hv=>Q8da ⟨rfl,hnk j hj,rfl⟩ vs hv) ?_)))
  | ((with_reducible apply Qoa (hf:=Tryz.call67));(·intro S;cbv;try rfl);(·intro wc S hbc hxc hrc;exact h4 wc hbc);(·rfl))
  | (((with_reducible apply Q9q 4 0 7);(·(cbv;try rfl))))
  | ((with_reducible refine Qgha (σ:={n:Nat // n<=N}) (zs9 [10,3,14,6,55,62]) (fun x=>[zc9 54 x.1]) (fun x=>[]) (fun x=>[(4,⟨l0 x.1,7,e0 x.1⟩)]) (fun x=>N - x.1) ⟨0,Nat.zero_le _⟩ ?_ ?_);(·exact pfp Qwda);(rintro ⟨n,hn⟩ mm hmm))
  | ((with_reducible apply Qoa (hf:=Tryz.call70));(·intro S;cbv;try rfl);(·intro wc S hbc hxc hrc;exact h5 wc hbc n y9);(·rfl))
  | fail)
 all_goals try rfl
 all_goals as_aux_lemma=>
  repeat' (first
   | refine goa ?_|refine go3 (fun hlt=>?_) (fun hge=>?_)|refine go2 (fun h=>?_) (fun h=>?_)|exact go0|refine god ?_|refine gof ?_|refine Qvha ?_ ?_
   | ((first|with_reducible apply Qhb hT|with_reducible apply Qna hT);(·(cbv;try rfl));(·(cbv;try rfl));(·exact Qwda);(·exact Qwda);(·rfl))
   | ((first|with_reducible apply Qcn hT|with_reducible apply Qgn hT);(·(cbv;try rfl));(·(cbv;try rfl));(·exact Qwda);(·exact Qwda);(·rfl);(·first|assumption|exact ⟨fun _ _=>rfl,trivial⟩);(·rfl))
   | refine gob ?_
   | ((with_reducible refine Q4c ?_ ?_);(·first|((rw[hzpl];exact hb4 _ n m j y9 y9 y9))|((rw[hzpl];exact hb2 _ n i k y9 y9 y9))))
   | ((with_reducible apply Qoa (hf:=Tryz.call52));(·intro S;cbv;try rfl);(·intro wc S hbc hxc hrc;exact h1 wc hbc);(·rfl))
   | (((with_reducible apply Qhc 4 (hf:=Tryz.call53));(·intro S;cbv;try rfl);(·intro wc S hbc hxc hrc;exact h2 wc hbc);(·intro A;rfl);(·intro A;rfl);(·rfl);(·rfl);(·exact ⟨fun _ _=>rfl,trivial⟩);(·exact Qmc _);(·intro A;exact ⟨fun j hj=>rfl,trivial⟩);(·intro A p i j hj;exact Qwc p i j hj);(intro A1 hnA1;refine Qsca 1 (fun j=>[.xs 4 j]) rfl (fun j hj vs hv=>Q8da ⟨rfl,hnk j hj,rfl⟩ vs hv) ?_)))
   | (((with_reducible apply Qhc 5 (hf:=Tryz.call54));(·intro S;cbv;try rfl);(·intro wc S hbc hxc hrc;exact h3 wc hbc);(·intro A;rfl);(·intro A;rfl);(·rfl);(·rfl);(·exact ⟨fun _ _=>rfl,fun _ _=>rfl,trivial⟩);(·exact hc5 A1);(·intro A;exact ⟨fun j hj=>rfl,trivial⟩);(·intro A p i j hj;exact Qwc p i j hj);(intro A2 hnA2;refine Qsca 2 (fun j=>[.xs 5 j]) rfl (fun j hj vs hv=>Q8da ⟨rfl,hnk j hj,rfl⟩ vs hv) ?_)))
   | ((with_reducible apply Qoa (hf:=Tryz.call67));(·intro S;cbv;try rfl);(·intro wc S hbc hxc hrc;exact h4 wc hbc);(·rfl))
   | (((with_reducible apply Q9q 4 0 7);(·(cbv;try rfl))))
   | ((with_reducible refine Qgha (σ:={n:Nat // n<=N}) (zs9 [10,3,14,6,55,62]) (fun x=>[zc9 54 x.1]) (fun x=>[]) (fun x=>[(4,⟨l0 x.1,7,e0 x.1⟩)]) (fun x=>N - x.1) ⟨0,Nat.zero_le _⟩ ?_ ?_);(·exact pfp Qwda);(rintro ⟨n,hn⟩ mm hmm))
   | ((with_reducible refine Qgha (σ:={j:Nat // j<=P}) (zs9 [9,1,13,37]) (fun x=>[zc9 12 x.1]) (fun x=>[]) (fun x=>[(4,⟨l4 true n m x.1,7,e4 true n m x.1⟩)]) (fun x=>P - x.1) ⟨0,Nat.zero_le _⟩ ?_ ?_);(·exact pfp Qwda);(rintro ⟨j,hj⟩ mm hmm))
   | ((with_reducible refine Qgha (σ:={m:Nat // m<=P}) (zs9 [18,2,85,31]) (fun x=>[zc9 84 x.1]) (fun x=>[]) (fun x=>[(4,⟨l3 true n x.1,7,e3 true n x.1⟩)]) (fun x=>P - x.1) ⟨0,Nat.zero_le _⟩ ?_ ?_);(·exact pfp Qwda);(rintro ⟨m,hm⟩ mm hmm))
   | ((with_reducible refine Qgha (σ:={k:Nat // k<=P}) (zs9 [9,1,13,37]) (fun x=>[zc9 12 x.1]) (fun x=>[]) (fun x=>[(4,⟨l2 true n i x.1,7,e2 true n i x.1⟩)]) (fun x=>P - x.1) ⟨0,Nat.zero_le _⟩ ?_ ?_);(·exact pfp Qwda);(rintro ⟨k,hk⟩ mm hmm))
   | ((with_reducible refine Qgha (σ:={i:Nat // i<=tn n}) (zs9 [14,1,65,7]) (fun x=>[zc9 64 x.1]) (fun x=>[]) (fun x=>[(4,⟨l1 true n x.1,7,e1 true n x.1⟩)]) (fun x=>tn n - x.1) ⟨0,Nat.zero_le _⟩ ?_ ?_);(·exact pfp Qwda);(rintro ⟨i,hi⟩ mm hmm))
   | ((with_reducible apply Qoa (hf:=Tryz.call70));(·intro S;cbv;try rfl);(·intro wc S hbc hxc hrc;exact h5 wc hbc n y9);(·rfl))
   | (refine' Qiha Tryz.call57 ?_ ?_;rotate_left;(·intro wc hbc hxc;exact h6 wc hbc n y9))
   | (refine' Qiha Tryz.call69 ?_ ?_;rotate_left;(·intro wc hbc hxc;exact h8 wc n m j y9 y9))
   | (refine' Qiha Tryz.call69 ?_ ?_;rotate_left;(·intro wc hbc hxc;exact h7 wc n i k y9 y9 y9))
   | refine Qhha Tryz.func68 Tryz.results68 Tryz.call68 ?_
   | (((with_reducible apply Qxa);(·exact hlk m y9 (of_decide_eq_true (p:=eb m=3) y9));(·exact hnq _ (hlk m y9 (of_decide_eq_true (p:=eb m=3) y9)))))
   | (((with_reducible apply Qxa);(·exact Int.natCast_nonneg _);(·first|exact Int.ofNat_lt.2 y9|(rw[hnk _ y9];exact Int.ofNat_lt.2 y9))))
   | ((with_reducible refine Qfha (⟨j+1,Nat.succ_le_of_lt y9⟩:{j:Nat // j<=P}) ?_ ?_);(·exact msr y9 y9);(·exact pfp Qwda))
   | ((with_reducible refine Qfha (⟨k+1,Nat.succ_le_of_lt y9⟩:{k:Nat // k<=P}) ?_ ?_);(·exact msr y9 y9);(·exact pfp Qwda))
   | ((with_reducible refine Qfha (⟨m+1,Nat.succ_le_of_lt y9⟩:{m:Nat // m<=P}) ?_ ?_);(·exact msr y9 y9);(·exact pfp Qwda))
   | ((with_reducible refine Qfha (⟨i+1,Nat.succ_le_of_lt y9⟩:{i:Nat // i<=tn n}) ?_ ?_);(·exact msr y9 y9);(·exact pfp Qwda))
   | ((with_reducible refine Qfha (⟨n+1,Nat.succ_le_of_lt y9⟩:{n:Nat // n<=N}) ?_ ?_);(·exact msr y9 y9);(·exact pfp Qwda))
   | fail)
  all_goals first
   | rfl
end Go.Proofs.YtemnfncbgalljaaGreat
