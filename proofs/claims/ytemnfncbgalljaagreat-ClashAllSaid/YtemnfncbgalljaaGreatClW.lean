/- Lemmas. No condition. -/
import Derived.Test.YtemnfncbgalljaaGreatK6
import Derived.Test.YtemnfncbgalljaaGreatE1
import Derived.Test.YtemnfncbgalljaaGreatClQ
namespace Go.Proofs.YtemnfncbgalljaaGreat
open Go.RowKit
set_option linter.all false
set_option maxHeartbeats 64000000
set_option maxRecDepth 100000
theorem Qcia {F:GFun} (hO:F.Ok) (hE:F.Fe) {n:Nat} (hn:n<stN F.sn F.bn):∀m,m<=lnC F->∀t∈(clG F).te n m,t.Ok
 | 0,_,t,h=>Q0fa hO hE (Qoc hn).1 t h
 | m+1,hm,t,h=>by
   rcases List.mem_append.1 h with h|h
   · exact Qcia hO hE hn m o9 t h
   · split at h
     · obtain rfl:=List.mem_singleton.1 h
       have:=Qzfa hO hE (show m<lnC F by omega)
       exact ⟨this.1,this.2.1⟩
     · simp at h
theorem Qhia {ar:A9z} (har:ar=rAr) {x:Int} (h0:0<=x) (h1:x<1000):ar .quo .u64 x 0=x:=by
 subst har
 simp only[rAr,IntKind.wrap,IntKind.bits,IntKind.signed]
 simp
 omega
theorem Q9ha (t:GTouch) (x:GLoan) (u:Bool) (ht:t.Ok) (hx:x.p.ok=true/\0<=x.p.f/\1<=x.bo/\x.bo<=3) (w:World):
 Calls Tryz.prog 50 #[t.val,x.val,.bool u] w (Ret w (.tuple #[.bool (conB t x u),.int .i64 0])):=by
 have h:=Q4ha t x u ht.2 hx.2.1 w
 rw[show Qdia t x=true by unfold Qdia;rw[ht.1,hx.1,decide_eq_true hx.2.2.1,decide_eq_true hx.2.2.2];rfl] at h
 exact h
theorem Q6ha (t:GTouch) (x:GLoan) (u:Bool) (ht:t.Ok) (hx:x.p.ok=true/\0<=x.p.f/\1<=x.bo/\x.bo<=3) (w:World):
 Calls Tryz.prog 58 #[t.val,x.val,.bool u] w (Ret w (.bool (conB t x u))):=by
 have h1 (wc:World):=Q9ha t x u ht hx wc
 generalize conB t x u=z at h1⊢
 clear ht hx
 obtain ⟨⟨tl,td,tf⟩,tw,tz⟩:=t
 obtain ⟨xa,⟨xl,xd,xf⟩,xb,xc⟩:=x
 simp only[GTouch.val,GLoan.val] at h1⊢
 refine Qaa (args:=[.pt (.agg [.int .i64 tl,.bool td,.int .u8 tf,.bool tw,.bool tz]),.pt (.agg [.int .i64 xa,.int .i64 xl,.bool xd,.int .u8 xf,.int .u8 xb,.int .i64 xc]),.pt (.one (.bool u))]) (c:=Qra) Tryz.func58 rfl (Qga _) rfl rfl ?_
 obtain ⟨_,_,_,hnt,_,har,_,hcm,_,_,_,_,ar01,ar12,_,hzpl,_,_,_,_,_,_,_,_,hT⟩:=Qca
 repeat' (first
  | refine goa ?_|refine go3 (fun hlt=>?_) (fun hge=>?_)|refine go2 (fun h=>?_) (fun h=>?_)|exact go0|refine goz ?_|refine Qvha ?_ ?_
  | (refine' Qiha Tryz.call50 ?_ ?_;rotate_left;(·intro wc hbc hxc;exact h1 wc))
  | fail)
 all_goals rfl
theorem Qwha {p:Prop} (h:p:=by (first|((try with_reducible refine Q8c ?_ ?_ ?_ ?_);all_goals (cbv;(try simp only[true_and,and_true]);(try ((repeat' apply And.intro)<;>(first|trivial|rfl|exact RowLe.rfl' _|decide|(rw[Qda har _ o9];done)|((exact m0 _))|((have e9:a=tn n:=Nat.le_antisymm ha y9;rw[e9];exact m1 _))|((exact RQ (mf n m (t3 y9)).1 (mf n m (t3 y9)).2.1))|((exact RQ (mf n m (t3 y9)).1 (mf n m (t3 y9)).2.2))|((exact RQ (mf n m (t4 y9)).1 (mf n m (t4 y9)).2.1))|((exact RQ (mf n m (t4 y9)).1 (mf n m (t4 y9)).2.2))|((exact RQ (mf n m (t5 y9 y9 y9)).1 (mf n m (t5 y9 y9 y9)).2.1))|((exact RQ (mf n m (t5 y9 y9 y9)).1 (mf n m (t5 y9 y9 y9)).2.2))|((exact MT n m (of_decide_eq_true (p:=eb m=3) y9) y9 (t6 y9 y9 y9)))|((exact MB n m (of_decide_eq_true (p:=eb m=3) y9) y9 (t6 y9 y9 y9)))|((exact mP n m y9 hm))|((exact mQ n m y9 hm))|((exact RB y9))|((exact Q0a rfl (fun j hj=>absurd hj (Nat.not_lt_zero _))))|((exact (t7 y9 y9 y9).elim))|((rw[n0];rfl))|((exact congrArg Int.ofNat (n1 _)))|((exact congrArg Int.ofNat (n2 _ _)))|((exact congrArg Int.ofNat (n3 n t k y9 hk)))|((exact congrArg Int.ofNat (n4 n t y9 ht)))|((exact congrArg Int.ofNat (nf n t k (.inl y9))))|((exact congrArg Int.ofNat (nf n t k (.inr (.inl y9)))))|((exact congrArg Int.ofNat (nf n t k (.inr (.inr y9)))))|((rw[Qda har (x2 n t k) (by have:=(nt_ n t k y9 y9 y9 y9 y9 y9).2.1;omega)];exact congrArg Int.ofNat (nt_ n t k y9 y9 y9 y9 y9 y9).1))|((rw[Qda har t (by have h9:=hTT n y9;have h8:t<tT n:=y9;omega)];done))|((rw[Qda har a (by have h9:=hT9 n y9;have h8:a<tn n:=y9;omega)];done))|((rw[Qda har _ o9];done))|fail))));done)|fail)):Pf p:=⟨h⟩
theorem Qfia (F:GFun) (w:World) (hF:F.At w) (hK:F.Ty8) (hE:F.Fe):
 Calls Tryz.prog 12 #[F.val] w (Ret w (.bool true)):=by
 have g0 (wc:World):=Q7ha wc
 have g1 wc (hk:KB ⟨w,[]⟩ wc):=Qv7 F wc (hF.later hk)
 have g2 wc (hk:KB ⟨w,[]⟩ wc):=gfC F wc (hF.later hk)
 have g3 wc (hk:KB ⟨w,[]⟩ wc):=Q2p F wc (hF.later hk) hK
 generalize greatB F=q1 at g1
 generalize gfB F=q2 at g2
 rw[Qdj] at g3
 by_cases hO:fchkV F=0
 case neg=>
  have hq:decide (fchkV F=0)=false:=decide_eq_false hO
  generalize fchkV F=z at g3 hq
  clear hK hE hO
  obtain ⟨pa,un,lA,ln,lc,lk,lt,bA,bn,bc,sA,sn,sc,s,jA,jn,jc,ja,jk,jo,jf,jx,je,jd⟩:=F
  obtain ⟨hX,hl,hb,hs,hj⟩:=hF
  simp only at hl hb hs hj
  refine Qaa (args:=[.pt (.agg (GFun.dat _))]) (c:=(Qwa _)) Tryz.func12 rfl hX rfl rfl ?_
  obtain ⟨_,hnd,_,hnt,ar,har,cm,hcm,_,_,_,_,ar01,ar12,zpl,hzpl,zjn,hzjn,_,_,_,_,_,_,hT⟩:=Qca
  repeat' (first
   | refine goa ?_|refine go3 (fun hlt=>?_) (fun hge=>?_)|refine go2 (fun h=>?_) (fun h=>?_)|exact go0|refine goz ?_|refine Qvha ?_ ?_
   | (refine' Qiha Tryz.call51 ?_ ?_;rotate_left;(·intro wc hbc hxc;exact g0 wc))
   | ((with_reducible apply Qua (hf:=Tryz.call25));(·(cbv;try rfl));(·intro wc hbc hxc;exact g1 wc hbc);intro z hz)
   | ((with_reducible apply Qeb (hf:=Tryz.call25));(·(cbv;try rfl));(·intro wc hbc hxc;exact g1 wc hbc);intro z hz)
   | ((with_reducible apply Qua (hf:=Tryz.call26));(·(cbv;try rfl));(·intro wc hbc hxc;exact g2 wc hbc);intro z hz)
   | ((with_reducible apply Qeb (hf:=Tryz.call26));(·(cbv;try rfl));(·intro wc hbc hxc;exact g2 wc hbc);intro z hz)
   | (refine' Qiha Tryz.call35 ?_ ?_;rotate_left;(·intro wc hbc hxc;exact g3 wc hbc))
   | fail)
  all_goals rfl
 rw[hO] at g3
 have hO:F.Ok:=hO
 have hD:=hE.fd
 have h00 wc (hk:KB ⟨w,[]⟩ wc) {c:R9z}:=Calls.to (c':=c) (Qsea _) rfl (Qzga F wc (hF.later hk) hO hE)
 have h10 wc (hk:KB ⟨w,[]⟩ wc) {c:R9z}:=Calls.to (c':=c) (r:=[lnR F]) ⟨fun _ _=>rfl,trivial⟩ rfl (Q7s F wc (hF.later hk) hO)
 have h20 wc (hk:KB ⟨w,[]⟩ wc):=(Q18 F wc (hF.later hk) hO hD).mono fun _ _ h=>h.fam (G':=fun A=>rrG A (nnN (lnC F) (stN F.sn F.bn)) (scI F)) fun A p i j hj=>Qtea p i j hj
 have h30 wc (hk:KB ⟨w,[]⟩ wc):=(Q6aa F wc (hF.later hk) hO hD).mono fun _ _ h=>h.fam (G':=fun A=>rrG A (nnN (lnC F) (stN F.sn F.bn)) (scU F)) fun A p i j hj=>Qtea p i j hj
 obtain ⟨f0,hf0⟩:=x9 (fun A=>rrG A.1 (nnN (Q4g F) (stN F.sn F.bn)) (Qfl F):XFo->Nat->Nat->Row)
 obtain ⟨f1,hf1⟩:=x9 (fun A=>Q5j (Q4g F) 1 (fun j=>[.val (.slice (A.1 j).1 (stN F.sn F.bn) (A.1 j).2)]) A.2.1:XFo->Nat->Nat->Row)
 have h40 wc (hk:KB ⟨w,[]⟩ wc):=(Q3p F wc (hF.later hk) hK hO).mono fun _ _ h=>h.fam (G':=Qvga f0 f1 (nnN (lnC F) (stN F.sn F.bn)) (scI F) (scU F)) fun A p i j hj=>by
  rw[hf0,hf1] at hj⊢
  exact Qiea (fun _ _ _ _=>rfl) (Qiea (fun _ _ _ _=>rfl) (Qiea (fun p i j hj=>Qtea p i j hj) (fun p i j hj=>Qtea p i j hj))) p i j hj
 have gq0:∀A p i j,j<(Qvga f0 f1 (nnN (lnC F) (stN F.sn F.bn)) (scI F) (scU F) A p i).n->Qob ((Qvga f0 f1 (nnN (lnC F) (stN F.sn F.bn)) (scI F) (scU F) A p i).el j)=true:=fun A p i j h=>by
  rw[hf0,hf1] at h⊢
  exact Q1c (fun p i j h=>Qwc p i j h) (Q1c (fun p i j h=>Qog (fun _=>rfl) p i j h) (Q1c (fun p i j h=>Qwc p i j h) (fun p i j h=>Qwc p i j h))) p i j h
 have h50 wc (hk:KB ⟨w,[]⟩ wc) {c:R9z} (n:Nat) (hn:n<stN F.sn F.bn):=Calls.to (c':=c) (Qdea _) rfl (Q3ha F wc (hF.later hk) hO n hn)
 have h60 wc (hk:KB ⟨w,[]⟩ wc) (n:Nat) (hn:n<stN F.sn F.bn):=Qy2 F wc (hF.later hk) hO hD n hn
 have h70 wc (hk:KB ⟨w,[]⟩ wc):=Qez F wc (hF.later hk) hO.small
 have hlk0:∀k,k<lnC F->(stAt F (lpN F k)).r.bo=3->0<=lnL F (lpN F k):=fun k hk h=>(Qzn hO hk h).1
 have hlk20:∀k,k<lnC F->(stAt F (lpN F k)).r.bo=3->lnL F (lpN F k)<16:=fun k hk h=>by have h1:=Qzn hO hk h;have h2:=hO.ln16;omega
 have hbit0:∀k n,k<lnC F->(stAt F (lpN F k)).r.bo=3->decide (rAr .and .u32 (rAr .shr .u32 (.ofNat (umN F n)) (lnL F (lpN F k))) 1=1)=(wyF F k).tw n:=fun k n hk h=>Qn9 hO hk rfl h n
 have hte0:∀n,n<stN F.sn F.bn->∀i,i<((clG F).te n (clG F).P).length->(((clG F).te n (clG F).P).getD i .zero).Ok:=fun n hn i hi=>Qcia hO hE hn _ (Nat.le_refl _) _ (by rw[List.getD_eq_getElem?_getD,List.getElem?_eq_getElem hi];exact List.getElem_mem hi)
 have hln0:∀k,k<lnC F->(lnG F k).p.ok=true/\0<=(lnG F k).p.f/\1<=(lnG F k).bo/\(lnG F k).bo<=3:=fun k hk=>Qzfa hO hE hk
 have hN9:=hO.pts
 have hP9:lnC F<=600:=Nat.le_trans (Qxb F _) hN9
 have hl16:=hO.ln16
 have hT90:∀n,n<stN F.sn F.bn->(ptT F (pbN F n) (piN F n)).length<=9:=fun n hn=>Qcea hO (Qoc hn).1
 obtain ⟨N,hN⟩:=x9 (stN F.sn F.bn)
 obtain ⟨P,hP⟩:=x9 (lnC F)
 obtain ⟨lp,hlp⟩:=x9 (lpN F:N9z)
 obtain ⟨el,hel⟩:=x9 (fun j=>(stAt F (lpN F j)).r.p.l:I9z)
 obtain ⟨ed,hed⟩:=x9 (fun j=>(stAt F (lpN F j)).r.p.d:B9z)
 obtain ⟨ef,hef⟩:=x9 (fun j=>(stAt F (lpN F j)).r.p.f:I9z)
 obtain ⟨eb,heb⟩:=x9 (fun j=>(stAt F (lpN F j)).r.bo:I9z)
 obtain ⟨lo,hlo⟩:=x9 (fun j=>lnL F (lpN F j):I9z)
 obtain ⟨sI,hsI⟩:=x9 (scI F:B9y)
 obtain ⟨sU,hsU⟩:=x9 (scU F:B9y)
 obtain ⟨tw,htw⟩:=x9 (fun k n=>(wyF F k).tw n:B9y)
 obtain ⟨nn,hnn⟩:=x9 (nnN (lnC F) (stN F.sn F.bn):N9z)
 obtain ⟨um,hum⟩:=x9 (umN F:N9z)
 obtain ⟨sm,hsm⟩:=x9 (smN F:I9z)
 obtain ⟨tq,htq⟩:=x9 (fun n i=>(ptT F (pbN F n) (piN F n)).getD i .zero:Nat->Nat->GTouch)
 obtain ⟨tn,htn⟩:=x9 (fun n=>(ptT F (pbN F n) (piN F n)).length:N9z)
 obtain ⟨ty,hty⟩:=x9 (fun n i=>((clG F).te n (clG F).P).getD i .zero:Nat->Nat->GTouch)
 obtain ⟨tT,htT⟩:=x9 (fun n=>((clG F).te n (clG F).P).length:N9z)
 obtain ⟨xl,hxl⟩:=x9 (fun n i=>(tq n i).p.l:Nat->Nat->Int)
 obtain ⟨xd,hxd⟩:=x9 (fun n i=>(tq n i).p.d:B9y)
 obtain ⟨xf,hxf⟩:=x9 (fun n i=>(tq n i).p.f:Nat->Nat->Int)
 obtain ⟨xw,hxw⟩:=x9 (fun n i=>(tq n i).w:B9y)
 obtain ⟨xz,hxz⟩:=x9 (fun n i=>(tq n i).d:B9y)
 obtain ⟨yl,hyl⟩:=x9 (fun n i=>(ty n i).p.l:Nat->Nat->Int)
 obtain ⟨yd,hyd⟩:=x9 (fun n i=>(ty n i).p.d:B9y)
 obtain ⟨yf,hyf⟩:=x9 (fun n i=>(ty n i).p.f:Nat->Nat->Int)
 obtain ⟨yw,hyw⟩:=x9 (fun n i=>(ty n i).w:B9y)
 obtain ⟨yz,hyz⟩:=x9 (fun n i=>(ty n i).d:B9y)
 obtain ⟨za,hza⟩:=x9 (fun j=>.ofNat ((claL F).getD j .zero).at_:I9z)
 obtain ⟨zk,hzk⟩:=x9 (fun j=>.ofNat ((claL F).getD j .zero).loan:I9z)
 obtain ⟨zl,hzl⟩:=x9 (fun j=>((claL F).getD j .zero).t.p.l:I9z)
 obtain ⟨zd,hzd⟩:=x9 (fun j=>((claL F).getD j .zero).t.p.d:B9z)
 obtain ⟨zf,hzf⟩:=x9 (fun j=>((claL F).getD j .zero).t.p.f:I9z)
 obtain ⟨zw,hzw⟩:=x9 (fun j=>((claL F).getD j .zero).t.w:B9z)
 obtain ⟨zz,hzz⟩:=x9 (fun j=>((claL F).getD j .zero).t.d:B9z)
 obtain ⟨yb,hyb⟩:=x9 (fun n i=>((clG F).bu n (clG F).P).getD i 0:Nat->Nat->Int)
 obtain ⟨cq,hcq⟩:=x9 (fun n i k=>conB (ty n i) (lnG F k) (scU F k n):Nat->Nat->Nat->Bool)
 obtain ⟨L,hL⟩:=x9 ((claL F).length)
 have h0 wc (hk:KB ⟨w,[]⟩ wc) {c:R9z}:Calls Tryz.prog 20 #[F.val] wc (RetR wc c (.tup [.one (.rs 0),.one (.int .i64 0)]) [⟨L,7,fun j=>[.int .i64 (za j),.int .i64 (zk j),.int .i64 (zl j),.bool (zd j),.int .u8 (zf j),.bool (zw j),.bool (zz j)]⟩]):=by
  have:=@h00 wc hk c
  rw[claR] at this
  rw[hL,hza,hzk,hzl,hzd,hzf,hzw,hzz];exact this
 have h1 wc (hk:KB ⟨w,[]⟩ wc) {c:R9z}:Calls Tryz.prog 52 #[F.val] wc (RetR wc c (.tup [.one (.rs 0),.one (.int .i64 0)]) [⟨P,6,fun j=>[.int .i64 (.ofNat (lp j)),.int .i64 (el j),.bool (ed j),.int .u8 (ef j),.int .u8 (eb j),.int .i64 (lo j)]⟩]):=by
  have:=@h10 wc hk c
  rw[lnR] at this
  rw[hP,hlp,hel,hed,hef,heb,hlo];exact this
 have h2 wc (hk:KB ⟨w,[]⟩ wc):Calls Tryz.prog 53 #[F.val] wc (RetX wc (fun _:AdF=>.tup [.one (.rs 0),.one (.int .i64 0)]) (fun A=>[⟨P,1,fun j=>[.val (.slice (A j).1 N (A j).2)]⟩]) (fun A=>rrG A nn sI)):=by rw[hP,hN,hnn,hsI];exact h20 wc hk
 have h3 wc (hk:KB ⟨w,[]⟩ wc):Calls Tryz.prog 54 #[F.val] wc (RetX wc (fun _:AdF=>.tup [.one (.rs 0),.one (.int .i64 0)]) (fun A=>[⟨P,1,fun j=>[.val (.slice (A j).1 N (A j).2)]⟩]) (fun A=>rrG A nn sU)):=by rw[hP,hN,hnn,hsU];exact h30 wc hk
 have h4 wc (hk:KB ⟨w,[]⟩ wc):Calls Tryz.prog 55 #[F.val] wc (RetX wc (fun _:XFo=>.tup [.one (.rs 0),.one (.rs 1)]) (fun A=>[⟨P,1,fun j=>[.val (.slice (A.2.2.1 j).1 N (A.2.2.1 j).2)]⟩,⟨P,1,fun j=>[.val (.slice (A.2.2.2 j).1 N (A.2.2.2 j).2)]⟩]) (Qvga f0 f1 nn sI sU)):=by rw[hP,hN,hnn,hsI,hsU];exact h40 wc hk
 have gq:∀A p i j,j<(Qvga f0 f1 nn sI sU A p i).n->Qob ((Qvga f0 f1 nn sI sU A p i).el j)=true:=by rw[hnn,hsI,hsU];exact gq0
 have h5 wc (hk:KB ⟨w,[]⟩ wc) {c:R9z} (n:Nat) (hn:n<N):Calls Tryz.prog 49 #[F.val,.int .i64 (.ofNat n)] wc (RetR wc c (.tup [.one (.rs 0),.one (.int .i64 0)]) [⟨tn n,5,fun j=>[.int .i64 (xl n j),.bool (xd n j),.int .u8 (xf n j),.bool (xw n j),.bool (xz n j)]⟩]):=by
  have:=@h50 wc hk c n (hN▸hn)
  rw[Q4da] at this
  rw[htn,hxl,hxd,hxf,hxw,hxz,htq];exact this
 have h6 wc (hk:KB ⟨w,[]⟩ wc) (n:Nat) (hn:n<N):Calls Tryz.prog 57 #[F.val,.int .i64 (.ofNat n)] wc (Ret wc (.tuple #[.int .u32 (.ofNat (um n)),.int .i64 (sm n),.int .i64 0])):=by rw[hum,hsm];exact h60 wc hk n (hN▸hn)
 have h7 wc (hk:KB ⟨w,[]⟩ wc):Calls Tryz.prog 56 #[F.val] wc (Ret wc (.int .i64 (.ofNat N))):=by rw[hN];exact h70 wc hk
 have h8 (wc:World) (n i k:Nat) (hn:n<N) (hi:i<tT n) (hk:k<P):Calls Tryz.prog 58 #[.agg #[.int .i64 (yl n i),.bool (yd n i),.int .u8 (yf n i),.bool (yw n i),.bool (yz n i)],.agg #[.int .i64 (.ofNat (lp k)),.int .i64 (el k),.bool (ed k),.int .u8 (ef k),.int .u8 (eb k),.int .i64 (lo k)],.bool (sU k n)] wc (Ret wc (.bool (cq n i k))):=by
  have ht:(ty n i).Ok:=by rw[htT] at hi;rw[hty];exact hte0 n (hN▸hn) i hi
  have:=Q6ha (ty n i) (lnG F k) (scU F k n) ht (hln0 k (hP▸hk)) wc
  rw[hyl,hyd,hyf,hyw,hyz,hlp,hel,hed,hef,heb,hlo,hsU,hcq];exact this
 have hlk:∀k,k<P->eb k=3->0<=lo k:=by rw[hP,heb,hlo];exact hlk0
 have hlk2:∀k,k<P->eb k=3->lo k<16:=by rw[hP,heb,hlo];exact hlk20
 have hbit:∀k n,k<P->eb k=3->decide (rAr .and .u32 (rAr .shr .u32 (.ofNat (um n)) (lo k)) 1=1)=tw k n:=by rw[hP,heb,hum,hlo,htw];exact hbit0
 have hnk:∀k,k<P->nn k=N:=fun k hk=>by rw[hnn,hN];exact Qde (hP▸hk)
 have hT9:∀n,n<N->tn n<=9:=fun n hn=>by rw[htn];exact hT90 n (hN▸hn)
 obtain ⟨⟨tm,em,bm,x0,x1,x2,m0,m1,mf,mt,mb,mP,mQ,hm_,hTT,hLL,n0,n1,n2,n3,n4,nf,nt_,nL⟩,-⟩:=claW F hO hN hP hel hed hef heb hsI htw htq htn hxl hxd hxf hxw hxz hty htT hyl hyd hyf hyw hyz hyb hcq hL hza hzk hzl hzd hzf hzw hzz
 rw[<-hN] at hN9
 rw[<-hP] at hP9
 clear h00 h10 h20 h30 h40 h50 h60 h70 hlk0 hlk20 hbit0 hte0 hln0 hT90 hf0 hf1 gq0 hK hN hP hlp hel hed hef heb hlo hsI hsU htw hnn hum hsm htq htn hty htT hxl hxd hxf hxw hxz hyl hyd hyf hyw hyz hza hzk hzl hzd hzf hzw hzz hyb hcq hL hO hE hD
 obtain ⟨pa,un,lA,ln,lc,lk,lt,bA,bn,bc,sA,sn,sc,s,jA,jn,jc,ja,jk,jo,jf,jx,je,jd⟩:=F
 obtain ⟨hX,hl,hb,hs,hj⟩:=hF
 simp only at hl hb hs hj
 try simp only at g1 g2 g3 h0 h1 h2 h3 h4 h5 h6 h7 hl16
 refine Qaa (args:=[.pt (.agg (GFun.dat _))]) (c:=(Qwa _)) Tryz.func12 rfl hX rfl rfl ?_
 obtain ⟨_,hnd,_,hnt,ar,har,cm,hcm,_,_,_,_,ar01,ar12,zpl,hzpl,zjn,hzjn,_,_,_,_,_,_,hT⟩:=Qca
 have hc5:∀A,∀q i j,q<5->j<(Q3a (Qwa ⟨pa,un,lA,ln,lc,lk,lt,bA,bn,bc,sA,sn,sc,s,jA,jn,jc,ja,jk,jo,jf,jx,je,jd⟩) 4 (rrG A nn sI) q i).n->qbL 5 ((Q3a (Qwa ⟨pa,un,lA,ln,lc,lk,lt,bA,bn,bc,sA,sn,sc,s,jA,jn,jc,ja,jk,jo,jf,jx,je,jd⟩) 4 (rrG A nn sI) q i).el j)=true:=fun A=>Qiia (Qmc _) (fun p i j h=>Q9c (Qwc p i j h))
 have hc6:∀A A',∀q i j,q<6->j<(Q3a (Q3a (Qwa ⟨pa,un,lA,ln,lc,lk,lt,bA,bn,bc,sA,sn,sc,s,jA,jn,jc,ja,jk,jo,jf,jx,je,jd⟩) 4 (rrG A nn sI)) 5 (rrG A' nn sU) q i).n->qbL 6 ((Q3a (Q3a (Qwa ⟨pa,un,lA,ln,lc,lk,lt,bA,bn,bc,sA,sn,sc,s,jA,jn,jc,ja,jk,jo,jf,jx,je,jd⟩) 4 (rrG A nn sI)) 5 (rrG A' nn sU) q i).el j)=true:=fun A A'=>Qiia (hc5 A) (fun p i j h=>Q9c (Qwc p i j h))
 have RQ:∀{a b es:Nat} {e e':Nat->List SC},a=b->e=e'->RowLe ⟨a,es,e⟩ ⟨b,es,e'⟩:=by rintro _ _ _ _ _ rfl rfl;exact RowLe.rfl' _
 have MT:=mt zpl zjn hzpl hzjn
 have MB:=mb zpl zjn hzpl hzjn
 have hnq:∀X:Int,0<=X->X<X.toNat+1:=fun X h=>by omega
 have t3:∀{n m},decide (eb m=3)=false->(decide (eb m=3)&&(sI m n&&tw m n))=false:=fun h=>by rw[h];rfl
 have t4:∀{n m},sI m n=false->(decide (eb m=3)&&(sI m n&&tw m n))=false:=fun h=>by rw[h,Bool.false_and,Bool.and_false]
 have hqu:∀m,m<P->eb m=3->ar .quo .u64 (lo m) 0=lo m:=fun m g1 g2=>Qhia har (hlk m g1 g2) (by have:=hlk2 m g1 g2;omega)
 have hw:∀m n,m<P->eb m=3->decide (ar .and .u32 (ar .shr .u32 (.ofNat (um n)) (ar .quo .u64 (lo m) 0)) 1=1)=tw m n:=fun m n g1 g2=>by rw[hqu m g1 g2,har];exact hbit m n g1 g2
 have t5:∀{n m},m<P->decide (eb m=3)=true->decide (ar .and .u32 (ar .shr .u32 (.ofNat (um n)) (ar .quo .u64 (lo m) 0)) 1=1)=false->(decide (eb m=3)&&(sI m n&&tw m n))=false:=fun {n m} g1 g2 h=>by rw[<-hw m n g1 (of_decide_eq_true g2),h,Bool.and_false,Bool.and_false]
 have t6:∀{n m},m<P->decide (eb m=3)=true->decide (ar .and .u32 (ar .shr .u32 (.ofNat (um n)) (ar .quo .u64 (lo m) 0)) 1=1)=true->tw m n=true:=fun {n m} g1 g2 h=>by rw[<-hw m n g1 (of_decide_eq_true g2)];exact h
 have t7:∀{m},m<P->decide (eb m=3)=true->cm .geq (lo m) 0=false->False:=fun {m} g1 g2 h=>by
  have h1:=hlk m g1 (of_decide_eq_true g2)
  rw[hcm] at h
  exact absurd h1 (of_decide_eq_false (show decide ((0:Int)<=lo m)=false from h))
 have RB:∀{i n:Nat},i<tn n->RowLe ⟨zpl i 1,1,zjn i (fun _=>[.int .i64 (-1)]) (fun j=>Qte [.int .i64 (-1)] (0+j * 1) 1)⟩ ⟨i+1,1,fun _=>[.int .i64 (-1)]⟩:=fun {i n} h=>Q7a hzpl hzjn rfl (fun j hj=>Qpa _) (Qpa _)
 repeat' (first
  | refine goa ?_|refine go3 (fun hlt=>?_) (fun hge=>?_)|refine go2 (fun h=>?_) (fun h=>?_)|exact go0|refine god ?_|refine gof ?_|refine Qvha ?_ ?_
  | ((first|with_reducible apply Qhb hT|with_reducible apply Qna hT);(·(cbv;try rfl));(·(cbv;try rfl));(·exact Qwha);(·exact Qwha);(·rfl))
  | refine gob ?_
  | ((with_reducible refine Q4c ?_ ?_);(·first|((rw[hzpl];exact hm_ n m y9 y9))|((rw[hzpl];have h9:=hT9 n y9;have h8:a<tn n:=y9;show a+1<=1073741824;omega))))
  | (refine' Qiha Tryz.call51 ?_ ?_;rotate_left;(·intro wc hbc hxc;exact g0 wc))
  | ((with_reducible apply Qua (hf:=Tryz.call25));(·(cbv;try rfl));(·intro wc hbc hxc;exact g1 wc hbc);intro z hz)
  | ((with_reducible apply Qeb (hf:=Tryz.call25));(·(cbv;try rfl));(·intro wc hbc hxc;exact g1 wc hbc);intro z hz)
  | ((with_reducible apply Qua (hf:=Tryz.call26));(·(cbv;try rfl));(·intro wc hbc hxc;exact g2 wc hbc);intro z hz)
  | ((with_reducible apply Qeb (hf:=Tryz.call26));(·(cbv;try rfl));(·intro wc hbc hxc;exact g2 wc hbc);intro z hz)
  | (refine' Qiha Tryz.call35 ?_ ?_;rotate_left;(·intro wc hbc hxc;exact g3 wc hbc))
  | ((with_reducible apply Qoa (hf:=Tryz.call20));(·intro S;cbv;try rfl);(·intro wc S hbc hxc hrc;exact h0 wc hbc);(·rfl))
  | ((with_reducible apply Qoa (hf:=Tryz.call52));(·intro S;cbv;try rfl);(·intro wc S hbc hxc hrc;exact h1 wc hbc);(·rfl))
  | (((with_reducible apply Qhc 4 (hf:=Tryz.call53));(·intro S;cbv;try rfl);(·intro wc S hbc hxc hrc;exact h2 wc hbc);(·intro A;rfl);(·intro A;rfl);(·rfl);(·rfl);(·exact ⟨fun _ _=>rfl,fun _ _=>rfl,trivial⟩);(·exact Qmc _);(·intro A;exact ⟨fun j hj=>rfl,trivial⟩);(·intro A p i j hj;exact Qwc p i j hj);(intro A1 hnA1;refine Qsca 2 (fun j=>[.xs 4 j]) rfl (fun j hj vs hv=>Q8da ⟨rfl,hnk j hj,rfl⟩ vs hv) ?_)))
  | (((with_reducible apply Qhc 5 (hf:=Tryz.call54));(·intro S;cbv;try rfl);(·intro wc S hbc hxc hrc;exact h3 wc hbc);(·intro A;rfl);(·intro A;rfl);(·rfl);(·rfl);(·exact ⟨fun _ _=>rfl,fun _ _=>rfl,fun _ _=>rfl,trivial⟩);(·exact hc5 A1);(·intro A;exact ⟨fun j hj=>rfl,trivial⟩);(·intro A p i j hj;exact Qwc p i j hj);(intro A2 hnA2;refine Qsca 3 (fun j=>[.xs 5 j]) rfl (fun j hj vs hv=>Q8da ⟨rfl,hnk j hj,rfl⟩ vs hv) ?_)))
  | (((with_reducible apply Qhc 6 (hf:=Tryz.call55));(·intro S;cbv;try rfl);(·intro wc S hbc hxc hrc;exact h4 wc hbc);(·intro A;rfl);(·intro A;rfl);(·rfl);(·rfl);(·exact ⟨fun _ _=>rfl,fun _ _=>rfl,fun _ _=>rfl,fun _ _=>rfl,trivial⟩);(·exact hc6 A1 A2);(·intro A;exact ⟨fun _ _=>rfl,fun _ _=>rfl,trivial⟩);(·intro A p i j hj;exact gq A p i j hj);(intro A3 hnA3;refine Qsca 4 (fun j=>[.xs 8 j]) rfl (fun j hj vs hv=>Q8da ⟨rfl,hnk j hj,rfl⟩ vs hv) ?_;refine Qsca 5 (fun j=>[.xs 9 j]) rfl (fun j hj vs hv=>Q8da ⟨rfl,hnk j hj,rfl⟩ vs hv) ?_)))
  | (refine' Qiha Tryz.call56 ?_ ?_;rotate_left;(·intro wc hbc hxc;exact h7 wc hbc))
  | ((with_reducible apply Qud 22 1);(·(cbv;try rfl)))
  | ((with_reducible refine Qgha (σ:={i:Nat // i<=P}) (zs9 [111,24]) (fun x=>[zc9 14 x.1]) (fun x=>[]) (fun x=>[]) (fun x=>P - x.1) ⟨0,Nat.zero_le _⟩ ?_ ?_);(·exact pfp Qwha);(rintro ⟨i,hi⟩ mm hmm))
  | ((with_reducible refine Qgha (σ:={a:Nat // a<=tn n}) (zs9 [160,9]) (fun x=>[zc9 23 x.1]) (fun x=>[]) (fun x=>[(7,⟨x.1,1,fun _=>[.int .i64 (-1)]⟩)]) (fun x=>tn n - x.1) ⟨0,Nat.zero_le _⟩ ?_ ?_);(·exact pfp Qwha);(rintro ⟨a,ha⟩ mm hmm))
  | ((with_reducible refine Qgha (σ:={n:Nat // n<=N}) (zs9 [17,10,135,155]) (fun x=>[zc9 16 x.1,(15,.pt (.one (.int .i64 (.ofNat (x0 x.1)))))]) (fun x=>[]) (fun x=>[]) (fun x=>N - x.1) ⟨0,Nat.zero_le _⟩ ?_ ?_);(·exact pfp Qwha);(rintro ⟨n,hn⟩ mm hmm))
  | ((with_reducible apply Qoa (hf:=Tryz.call49));(·intro S;cbv;try rfl);(·intro wc S hbc hxc hrc;exact h5 wc hbc n y9);(·rfl))
  | (refine' Qiha Tryz.call57 ?_ ?_;rotate_left;(·intro wc hbc hxc;exact h6 wc hbc n y9))
  | (((with_reducible apply Qxa);(·(rw[hqu m y9 (of_decide_eq_true (p:=eb m=3) y9)];exact hlk m y9 (of_decide_eq_true (p:=eb m=3) y9)));(·exact hnq _ (by rw[hqu m y9 (of_decide_eq_true (p:=eb m=3) y9)];exact hlk m y9 (of_decide_eq_true (p:=eb m=3) y9)))))
  | (((with_reducible apply Qxa);(·exact Int.natCast_nonneg _);(·exact Int.ofNat_lt.2 (nt_ n t k y9 y9 y9 y9 y9 y9).2.1)))
  | (((with_reducible apply Qxa);(·exact Int.natCast_nonneg _);(·first|exact Int.ofNat_lt.2 y9|(rw[hnk _ y9];exact Int.ofNat_lt.2 y9))))
  | ((with_reducible refine Qfha (⟨i+1,Nat.succ_le_of_lt y9⟩:{i:Nat // i<=P}) ?_ ?_);(·exact msr y9 y9);(·exact pfp Qwha))
  | ((with_reducible refine Qfha (⟨a+1,Nat.succ_le_of_lt y9⟩:{a:Nat // a<=tn n}) ?_ ?_);(·exact msr y9 y9);(·exact pfp Qwha))
  | fail)
 all_goals try first
  | rfl
  | (exfalso;rw[hnk i y9] at h;simp at h;done)
 all_goals as_aux_lemma=>
  repeat' (first
   | refine goa ?_|refine go3 (fun hlt=>?_) (fun hge=>?_)|refine go2 (fun h=>?_) (fun h=>?_)|exact go0|refine god ?_|refine gof ?_|refine Qvha ?_ ?_
   | ((first|with_reducible apply Qhb hT|with_reducible apply Qna hT);(·(cbv;try rfl));(·(cbv;try rfl));(·exact Qwha);(·exact Qwha);(·rfl))
   | refine gob ?_
   | ((with_reducible refine Q4c ?_ ?_);(·first|((rw[hzpl];exact hm_ n m y9 y9))|((rw[hzpl];have h9:=hT9 n y9;have h8:a<tn n:=y9;show a+1<=1073741824;omega))))
   | (refine' Qiha Tryz.call51 ?_ ?_;rotate_left;(·intro wc hbc hxc;exact g0 wc))
   | ((with_reducible apply Qua (hf:=Tryz.call25));(·(cbv;try rfl));(·intro wc hbc hxc;exact g1 wc hbc);intro z hz)
   | ((with_reducible apply Qeb (hf:=Tryz.call25));(·(cbv;try rfl));(·intro wc hbc hxc;exact g1 wc hbc);intro z hz)
   | ((with_reducible apply Qua (hf:=Tryz.call26));(·(cbv;try rfl));(·intro wc hbc hxc;exact g2 wc hbc);intro z hz)
   | ((with_reducible apply Qeb (hf:=Tryz.call26));(·(cbv;try rfl));(·intro wc hbc hxc;exact g2 wc hbc);intro z hz)
   | (refine' Qiha Tryz.call35 ?_ ?_;rotate_left;(·intro wc hbc hxc;exact g3 wc hbc))
   | ((with_reducible apply Qoa (hf:=Tryz.call20));(·intro S;cbv;try rfl);(·intro wc S hbc hxc hrc;exact h0 wc hbc);(·rfl))
   | ((with_reducible apply Qoa (hf:=Tryz.call52));(·intro S;cbv;try rfl);(·intro wc S hbc hxc hrc;exact h1 wc hbc);(·rfl))
   | (((with_reducible apply Qhc 4 (hf:=Tryz.call53));(·intro S;cbv;try rfl);(·intro wc S hbc hxc hrc;exact h2 wc hbc);(·intro A;rfl);(·intro A;rfl);(·rfl);(·rfl);(·exact ⟨fun _ _=>rfl,fun _ _=>rfl,trivial⟩);(·exact Qmc _);(·intro A;exact ⟨fun j hj=>rfl,trivial⟩);(·intro A p i j hj;exact Qwc p i j hj);(intro A1 hnA1;refine Qsca 2 (fun j=>[.xs 4 j]) rfl (fun j hj vs hv=>Q8da ⟨rfl,hnk j hj,rfl⟩ vs hv) ?_)))
   | (((with_reducible apply Qhc 5 (hf:=Tryz.call54));(·intro S;cbv;try rfl);(·intro wc S hbc hxc hrc;exact h3 wc hbc);(·intro A;rfl);(·intro A;rfl);(·rfl);(·rfl);(·exact ⟨fun _ _=>rfl,fun _ _=>rfl,fun _ _=>rfl,trivial⟩);(·exact hc5 A1);(·intro A;exact ⟨fun j hj=>rfl,trivial⟩);(·intro A p i j hj;exact Qwc p i j hj);(intro A2 hnA2;refine Qsca 3 (fun j=>[.xs 5 j]) rfl (fun j hj vs hv=>Q8da ⟨rfl,hnk j hj,rfl⟩ vs hv) ?_)))
   | (((with_reducible apply Qhc 6 (hf:=Tryz.call55));(·intro S;cbv;try rfl);(·intro wc S hbc hxc hrc;exact h4 wc hbc);(·intro A;rfl);(·intro A;rfl);(·rfl);(·rfl);(·exact ⟨fun _ _=>rfl,fun _ _=>rfl,fun _ _=>rfl,fun _ _=>rfl,trivial⟩);(·exact hc6 A1 A2);(·intro A;exact ⟨fun _ _=>rfl,fun _ _=>rfl,trivial⟩);(·intro A p i j hj;exact gq A p i j hj);(intro A3 hnA3;refine Qsca 4 (fun j=>[.xs 8 j]) rfl (fun j hj vs hv=>Q8da ⟨rfl,hnk j hj,rfl⟩ vs hv) ?_;refine Qsca 5 (fun j=>[.xs 9 j]) rfl (fun j hj vs hv=>Q8da ⟨rfl,hnk j hj,rfl⟩ vs hv) ?_)))
   | (refine' Qiha Tryz.call56 ?_ ?_;rotate_left;(·intro wc hbc hxc;exact h7 wc hbc))
   | ((with_reducible apply Qud 22 1);(·(cbv;try rfl)))
   | ((with_reducible refine Qgha (σ:={i:Nat // i<=P}) (zs9 [111,24]) (fun x=>[zc9 14 x.1]) (fun x=>[]) (fun x=>[]) (fun x=>P - x.1) ⟨0,Nat.zero_le _⟩ ?_ ?_);(·exact pfp Qwha);(rintro ⟨i,hi⟩ mm hmm))
   | ((with_reducible refine Qgha (σ:={k:Nat // k<=P}) (zs9 [229,61]) (fun x=>[zc9 26 x.1,(15,.pt (.one (.int .i64 (.ofNat (x2 n t x.1)))))]) (fun x=>[]) (fun x=>[]) (fun x=>P - x.1) ⟨0,Nat.zero_le _⟩ ?_ ?_);(·exact pfp Qwha);(rintro ⟨k,hk⟩ mm hmm))
   | ((with_reducible refine Qgha (σ:={t:Nat // t<=tT n}) (zs9 [26,1,223,67]) (fun x=>[zc9 25 x.1,(15,.pt (.one (.int .i64 (.ofNat (x1 n x.1)))))]) (fun x=>[]) (fun x=>[(6,⟨tT n,5,fun j=>[.int .i64 (yl n j),.bool (yd n j),.int .u8 (yf n j),.bool (yw n j),.bool (yz n j)]⟩),(7,⟨tT n,1,fun j=>[.int .i64 (yb n j)]⟩)]) (fun x=>tT n - x.1) ⟨0,Nat.zero_le _⟩ ?_ ?_);(·exact pfp Qwha);(rintro ⟨t,ht⟩ mm hmm))
   | ((with_reducible refine Qgha (σ:={m:Nat // m<=P}) (zs9 [141,1,144,2,160,63]) (fun x=>[zc9 24 x.1]) (fun x=>[]) (fun x=>[(6,⟨tm n x.1,5,em n x.1⟩),(7,⟨tm n x.1,1,bm n x.1⟩)]) (fun x=>P - x.1) ⟨0,Nat.zero_le _⟩ ?_ ?_);(·exact pfp Qwha);(rintro ⟨m,hm⟩ mm hmm))
   | ((with_reducible refine Qgha (σ:={a:Nat // a<=tn n}) (zs9 [160,9]) (fun x=>[zc9 23 x.1]) (fun x=>[]) (fun x=>[(7,⟨x.1,1,fun _=>[.int .i64 (-1)]⟩)]) (fun x=>tn n - x.1) ⟨0,Nat.zero_le _⟩ ?_ ?_);(·exact pfp Qwha);(rintro ⟨a,ha⟩ mm hmm))
   | ((with_reducible refine Qgha (σ:={n:Nat // n<=N}) (zs9 [17,10,135,155]) (fun x=>[zc9 16 x.1,(15,.pt (.one (.int .i64 (.ofNat (x0 x.1)))))]) (fun x=>[]) (fun x=>[]) (fun x=>N - x.1) ⟨0,Nat.zero_le _⟩ ?_ ?_);(·exact pfp Qwha);(rintro ⟨n,hn⟩ mm hmm))
   | ((with_reducible apply Qoa (hf:=Tryz.call49));(·intro S;cbv;try rfl);(·intro wc S hbc hxc hrc;exact h5 wc hbc n y9);(·rfl))
   | (refine' Qiha Tryz.call57 ?_ ?_;rotate_left;(·intro wc hbc hxc;exact h6 wc hbc n y9))
   | (refine' Qiha Tryz.call58 ?_ ?_;rotate_left;(·intro wc hbc hxc;exact h8 wc n t k y9 y9 y9))
   | (((with_reducible apply Qxa);(·(rw[hqu m y9 (of_decide_eq_true (p:=eb m=3) y9)];exact hlk m y9 (of_decide_eq_true (p:=eb m=3) y9)));(·exact hnq _ (by rw[hqu m y9 (of_decide_eq_true (p:=eb m=3) y9)];exact hlk m y9 (of_decide_eq_true (p:=eb m=3) y9)))))
   | (((with_reducible apply Qxa);(·exact Int.natCast_nonneg _);(·exact Int.ofNat_lt.2 (nt_ n t k y9 y9 y9 y9 y9 y9).2.1)))
   | (((with_reducible apply Qxa);(·exact Int.natCast_nonneg _);(·first|exact Int.ofNat_lt.2 y9|(rw[hnk _ y9];exact Int.ofNat_lt.2 y9))))
   | ((with_reducible refine Qfha (⟨i+1,Nat.succ_le_of_lt y9⟩:{i:Nat // i<=P}) ?_ ?_);(·exact msr y9 y9);(·exact pfp Qwha))
   | ((with_reducible refine Qfha (⟨k+1,Nat.succ_le_of_lt y9⟩:{k:Nat // k<=P}) ?_ ?_);(·exact msr y9 y9);(·exact pfp Qwha))
   | ((with_reducible refine Qfha (⟨m+1,Nat.succ_le_of_lt y9⟩:{m:Nat // m<=P}) ?_ ?_);(·exact msr y9 y9);(·exact pfp Qwha))
   | ((with_reducible refine Qfha (⟨t+1,Nat.succ_le_of_lt y9⟩:{t:Nat // t<=tT n}) ?_ ?_);(·exact msr y9 y9);(·exact pfp Qwha))
   | ((with_reducible refine Qfha (⟨a+1,Nat.succ_le_of_lt y9⟩:{a:Nat // a<=tn n}) ?_ ?_);(·exact msr y9 y9);(·exact pfp Qwha))
   | ((with_reducible refine Qfha (⟨n+1,Nat.succ_le_of_lt y9⟩:{n:Nat // n<=N}) ?_ ?_);(·exact msr y9 y9);(·exact pfp Qwha))
   | fail)
  all_goals first
   | rfl
   | (exfalso;rw[hnk i y9] at h;simp at h;done)
   | (exfalso;have h9:=(nt_ n t k y9 y9 y9 y9 y9 y9);rw[hcm] at h;exact absurd (of_decide_eq_true (p:=(Int.ofNat L<=Int.ofNat (x2 n t k))) h) (by have:=h9.2.1;simp only[Int.ofNat_eq_natCast];omega))
   | (exfalso;obtain ⟨-,-,e1,e2,e3,e4,e5,e6,e7⟩:=(nt_ n t k y9 y9 y9 y9 y9 y9);subst hnd hnt;simp[e1,e2,e3,e4,e5,e6,e7] at h;done)
   | (have e9:n=N:=Nat.le_antisymm hn y9;subst e9;exact congrArg Value.bool (decide_eq_true (congrArg Int.ofNat nL)))
end Go.Proofs.YtemnfncbgalljaaGreat
