/- Lemmas. No condition. -/
import Derived.Test.YtemnfncbgalljaaGreatClO
import Derived.Test.YtemnfncbgalljaaGreatE1
import Derived.Test.YtemnfncbgalljaaGreatK2
namespace Go.Proofs.YtemnfncbgalljaaGreat
open Go.RowKit
set_option linter.all false
set_option maxRecDepth 100000
set_option maxHeartbeats 64000000
section
variable {P:Program} {Q:E9z} {c:R9z} {w0:Base} {k:List Item} {st:St}
theorem Qrfa (d:Nat) {kd:IntKind} {x y:Int} (hd:nth st.t d=some (.pt (.one (.int kd x)))) (hx:x=y) (h:Goes P Q c w0 k { st with t:=Q0b st.t d (.pt (.one (.int kd y))) }):Goes P Q c w0 k st:=by
 subst hx
 rw[show Q0b st.t d (.pt (.one (.int kd x)))=st.t from Qlfa hd] at h
 exact h
variable {T:Tb} {all:Array Oper} {o:Oper} {rest:List Oper}
theorem Qbfa {j d:Nat} {want:Bool} (hg:o.guard=some (j,want)) (hd:(all[j]?).bind (·.dst)=some d) (hb:nth st.t d=some (.pt (.one (.lit want)))) (h:Goes P Q c w0 (.qops all ({ o with guard:=none }::rest)::k) st):Goes P Q c w0 (.qops all (o::rest)::k) st:=⟨fun e s a w hc F=>by
 show wpQuiet P all (fun w'=>Below w.heap.size w w') _ (o::rest) a
 rw[Qva] at hb
 have hy:=Q6d F hd hb
 have hwant:Region.wanted o (yielded all a.tmps)=true:=by
  simp only[Region.wanted,hg,hy]
  cases want<;>rfl
 refine Q0l (by rw[hwant]) ?_
 exact h.run e s a w hc F⟩
theorem Qcfa (hT:TOk P T) {x:SV} (hg:o.guard=none) (hx:opE T c st o.op=.v x) (hd:x.det=true) (h:Goes P Q c w0 (.qops all rest::k) (st.put o.dst x)):Goes P Q c w0 (.qops all (o::rest)::k) st:=⟨fun e s a w hc F=>by
 show wpQuiet P all (fun w'=>Below w.heap.size w w') _ (o::rest) a
 have hop:=Q9f hT F o
 rw[hc,hx] at hop
 obtain ⟨v,h1,h2⟩:=hop
 refine Q6s hg ⟨v,fun w' hw'=>?_,?_⟩
 · have hop':=Q9f hT (F.later hw') o
   rw[hc,hx] at hop'
   obtain ⟨v',h1',h2'⟩:=hop'
   unfold Oper.quietAt
   rw[h2']
   exact ⟨rfl,SV.one_of hd h1' h1⟩
 · exact h.run e s _ w hc (F.put h1)⟩
end
theorem Qvda {p:Prop} (h:p:=by (first|((try with_reducible refine Q8c ?_ ?_ ?_ ?_);all_goals (cbv;(try simp only[true_and,and_true]);(try ((repeat' apply And.intro)<;>(first|trivial|rfl|exact RowLe.rfl' _|decide|(rw[Qda har _ o9];done)|((exact RZ))|((exact RQ (b10 _)))|((exact RQ (b20 _ _ _)))|((exact RQ (b40 _ _ _)))|((exact RQ (b2P _ n i k y9 hk)))|((exact RQ (b1T _ n i y9 hi)))|((exact RQ (b4P _ n m j y9 hj (of_decide_eq_true (p:=eb m=3) y9) y9 (t6 y9 y9 y9 y9))))|((exact RQ (b3s _ n m (t3 y9))))|((exact RQ (b3s _ n m (t4 y9))))|((exact RQ (b3s _ n m (t5 y9 y9 y9 y9))))|((exact RQ (b3P n m y9 hm)))|((exact RQ (b2f _ n i k (.inl y9))))|((exact RQ (b2f _ n i k (.inr y9))))|((exact RQ (b4f _ n m j (.inl y9))))|((exact RQ (b4f _ n m j (.inr (.inl y9)))))|((exact RQ (b4f _ n m j (.inr (.inr y9)))))|((exact S2 _ n i k y9 y9))|((exact S4 _ n m j y9 y9 y9))|((have e9:n=N:=Nat.le_antisymm hn y9;rw[e9];exact RowLe.rfl' _))|((rw[Qda har i (by have h9:=hT9 n y9;have h8:i<tn n:=y9;omega)];done))|((rw[Qda har _ o9];done))|((exact S0 n m y9 hm))|((exact RW (b1z _)))|fail))));done)|fail)):Pf p:=⟨h⟩
theorem Qifa (F:GFun) (w:World) (hF:F.At w) (hK:F.Ty8) (hO:F.Ok) (hE:F.Fe):
 Calls Tryz.prog 76 #[F.val] w (RetR w Qra (.pt (.one (.rs 0))) [claR (claL F)]):=by
 have hD:=hE.fd
 have h10 wc (hk:KB ⟨w,[]⟩ wc) {c:R9z}:=Calls.to (c':=c) (r:=[lnR F]) ⟨fun _ _=>rfl,trivial⟩ rfl (Q6y F wc (hF.later hk) hO)
 obtain ⟨g0,hg0⟩:=x9 (fun A=>rrG A.1 (nnN (Q4g F) (stN F.sn F.bn)) (Qfl F):XFo->Nat->Nat->Row)
 obtain ⟨g1,hg1⟩:=x9 (fun A=>Q5j (Q4g F) 1 (fun j=>[.val (.slice (A.1 j).1 (stN F.sn F.bn) (A.1 j).2)]) A.2.1:XFo->Nat->Nat->Row)
 have h20 wc (hk:KB ⟨w,[]⟩ wc):=(Q3p F wc (hF.later hk) hK hO).mono fun _ _ h=>h.fam (G':=Qvga g0 g1 (nnN (lnC F) (stN F.sn F.bn)) (scI F) (scU F)) fun A p i j hj=>by
  rw[hg0,hg1] at hj⊢
  exact Qiea (fun _ _ _ _=>rfl) (Qiea (fun _ _ _ _=>rfl) (Qiea (fun p i j hj=>Qtea p i j hj) (fun p i j hj=>Qtea p i j hj))) p i j hj
 have gq0:∀A p i j,j<(Qvga g0 g1 (nnN (lnC F) (stN F.sn F.bn)) (scI F) (scU F) A p i).n->Qob ((Qvga g0 g1 (nnN (lnC F) (stN F.sn F.bn)) (scI F) (scU F) A p i).el j)=true:=fun A p i j h=>by
  rw[hg0,hg1] at h⊢
  exact Q1c (fun p i j h=>Qwc p i j h) (Q1c (fun p i j h=>Qog (fun _=>rfl) p i j h) (Q1c (fun p i j h=>Qwc p i j h) (fun p i j h=>Qwc p i j h))) p i j h
 have h40 wc (hk:KB ⟨w,[]⟩ wc):=Qez F wc (hF.later hk) hO.small
 have h50 wc (hk:KB ⟨w,[]⟩ wc) {c:R9z} (n:Nat) (hn:n<stN F.sn F.bn):=Calls.to (c':=c) (Qdea _) rfl (Qrga F wc (hF.later hk) hO n hn)
 have h60 wc (hk:KB ⟨w,[]⟩ wc) (n:Nat) (hn:n<stN F.sn F.bn):=Qyt F wc (hF.later hk) hO n hn
 have hlm0:∀k,k<lnC F->(stAt F (lpN F k)).r.bo=3->lnL F (lpN F k)=Int.ofNat (lnL F (lpN F k)).toNat/\(lnL F (lpN F k)).toNat<16:=fun k hk h=>by have h1:=Qzn hO hk h;have h2:=hO.ln16;exact ⟨(Int.toNat_of_nonneg h1.1).symm,by omega⟩
 have hub0:∀k n,k<lnC F->n<stN F.sn F.bn->(stAt F (lpN F k)).r.bo=3->(wyF F k).tw n=uB F (pbN F n) (piN F n) (lnL F (lpN F k)).toNat:=fun k n hk hn h=>by show (decide ((stAt F (lpN F k)).r.bo=3)&&_)=_;rw[decide_eq_true h];rfl
 have hto0:∀n,n<stN F.sn F.bn->∀i,i<(ptT F (pbN F n) (piN F n)).length->((ptT F (pbN F n) (piN F n)).getD i .zero).Ok:=fun n hn i hi=>Q0fa hO hE (Qoc hn).1 _ (by rw[List.getD_eq_getElem?_getD,List.getElem?_eq_getElem hi];exact List.getElem_mem hi)
 have hln0:∀k,k<lnC F->(lnG F k).p.ok=true/\0<=(lnG F k).p.f/\1<=(lnG F k).bo/\(lnG F k).bo<=3:=fun k hk=>Qzfa hO hE hk
 have hN9:=hO.pts
 have hP9:lnC F<=600:=Nat.le_trans (Qxb F _) hN9
 have hl16:=hO.ln16
 have hT90:∀n,n<stN F.sn F.bn->(ptT F (pbN F n) (piN F n)).length<=9:=fun n hn=>Qcea hO (Qoc hn).1
 obtain ⟨N,hN⟩:=x9 (stN F.sn F.bn)
 obtain ⟨P,hP⟩:=x9 (lnC F)
 obtain ⟨lp,hlp⟩:=x9 (lpN F:N9z)
 obtain ⟨el,hel⟩:=x9 (fun j=>(stAt F (lpN F j)).r.p.l:I9z)
 obtain ⟨ed,hed⟩:=x9 (fun j=>(stAt F (lpN F j)).r.p.d:B9z)
 obtain ⟨ef,hef⟩:=x9 (fun j=>(stAt F (lpN F j)).r.p.f:I9z)
 obtain ⟨eb,heb⟩:=x9 (fun j=>(stAt F (lpN F j)).r.bo:I9z)
 obtain ⟨lo,hlo⟩:=x9 (fun j=>lnL F (lpN F j):I9z)
 obtain ⟨sI,hsI⟩:=x9 (scI F:B9y)
 obtain ⟨sU,hsU⟩:=x9 (scU F:B9y)
 obtain ⟨tw,htw⟩:=x9 (fun k n=>(wyF F k).tw n:B9y)
 obtain ⟨nn,hnn⟩:=x9 (nnN (lnC F) (stN F.sn F.bn):N9z)
 obtain ⟨tq,htq⟩:=x9 (fun n i=>(ptT F (pbN F n) (piN F n)).getD i .zero:Nat->Nat->GTouch)
 obtain ⟨tn,htn⟩:=x9 (fun n=>(ptT F (pbN F n) (piN F n)).length:N9z)
 obtain ⟨xl,hxl⟩:=x9 (fun n i=>(tq n i).p.l:Nat->Nat->Int)
 obtain ⟨xd,hxd⟩:=x9 (fun n i=>(tq n i).p.d:B9y)
 obtain ⟨xf,hxf⟩:=x9 (fun n i=>(tq n i).p.f:Nat->Nat->Int)
 obtain ⟨xw,hxw⟩:=x9 (fun n i=>(tq n i).w:B9y)
 obtain ⟨xz,hxz⟩:=x9 (fun n i=>(tq n i).d:B9y)
 obtain ⟨cf,hcf⟩:=x9 (fun n i k=>conB (tq n i) (lnG F k) (scU F k n):Nat->Nat->Nat->Bool)
 obtain ⟨cg,hcg⟩:=x9 (fun n m j=>conB ⟨(lnG F m).p,true,true⟩ (lnG F j) (scU F j n):Nat->Nat->Nat->Bool)
 obtain ⟨lm,hlm⟩:=x9 (fun k=>(lnL F (lpN F k)).toNat:N9z)
 obtain ⟨ub,hub⟩:=x9 (fun n l=>uB F (pbN F n) (piN F n) l:B9y)
 have h1 wc (hk:KB ⟨w,[]⟩ wc) {c:R9z}:Calls Tryz.prog 89 #[F.val] wc (RetR wc c (.pt (.one (.rs 0))) [⟨P,6,fun j=>[.int .i64 (.ofNat (lp j)),.int .i64 (el j),.bool (ed j),.int .u8 (ef j),.int .u8 (eb j),.int .i64 (lo j)]⟩]):=by
  have:=@h10 wc hk c
  rw[lnR] at this
  rw[hP,hlp,hel,hed,hef,heb,hlo];exact this
 have h2 wc (hk:KB ⟨w,[]⟩ wc):Calls Tryz.prog 55 #[F.val] wc (RetX wc (fun _:XFo=>.tup [.one (.rs 0),.one (.rs 1)]) (fun A=>[⟨P,1,fun j=>[.val (.slice (A.2.2.1 j).1 N (A.2.2.1 j).2)]⟩,⟨P,1,fun j=>[.val (.slice (A.2.2.2 j).1 N (A.2.2.2 j).2)]⟩]) (Qvga g0 g1 nn sI sU)):=by rw[hP,hN,hnn,hsI,hsU];exact h20 wc hk
 have gq:∀A p i j,j<(Qvga g0 g1 nn sI sU A p i).n->Qob ((Qvga g0 g1 nn sI sU A p i).el j)=true:=by rw[hnn,hsI,hsU];exact gq0
 have h4 wc (hk:KB ⟨w,[]⟩ wc):Calls Tryz.prog 56 #[F.val] wc (Ret wc (.int .i64 (.ofNat N))):=by rw[hN];exact h40 wc hk
 have h5 wc (hk:KB ⟨w,[]⟩ wc) {c:R9z} (n:Nat) (hn:n<N):Calls Tryz.prog 178 #[F.val,.int .i64 (.ofNat n)] wc (RetR wc c (.pt (.one (.rs 0))) [⟨tn n,5,fun j=>[.int .i64 (xl n j),.bool (xd n j),.int .u8 (xf n j),.bool (xw n j),.bool (xz n j)]⟩]):=by
  have:=@h50 wc hk c n (hN▸hn)
  rw[htn,hxl,hxd,hxf,hxw,hxz,htq];exact this
 have h6 wc (hk:KB ⟨w,[]⟩ wc) (n:Nat) (hn:n<N):Calls Tryz.prog 180 #[F.val,.int .i64 (.ofNat n)] wc (Ret wc (Qsl (ub n))):=by rw[hub];exact h60 wc hk n (hN▸hn)
 have hlq:∀k,k<P->eb k=3->lo k=Int.ofNat (lm k)/\lm k<16:=by rw[hP,heb,hlo,hlm];exact hlm0
 have hbit:∀k n,k<P->n<N->eb k=3->tw k n=ub n (lm k):=by rw[hP,hN,heb,hub,hlm,htw];exact hub0
 have h7 (wc:World) (n i k:Nat) (hn:n<N) (hi:i<tn n) (hk:k<P):Calls Tryz.prog 179 #[.agg #[.int .i64 (xl n i),.bool (xd n i),.int .u8 (xf n i),.bool (xw n i),.bool (xz n i)],.agg #[.int .i64 (.ofNat (lp k)),.int .i64 (el k),.bool (ed k),.int .u8 (ef k),.int .u8 (eb k),.int .i64 (lo k)],.bool (sU k n)] wc (Ret wc (.bool (cf n i k))):=by
  have ht:(tq n i).Ok:=by rw[htn] at hi;rw[htq];exact hto0 n (hN▸hn) i hi
  have hl:=hln0 k (hP▸hk)
  have:=Qyea (tq n i) (lnG F k) (scU F k n) ht.1 hl.1 ht.2 hl.2.1 hl.2.2 wc
  rw[hxl,hxd,hxf,hxw,hxz,hlp,hel,hed,hef,heb,hlo,hsU,hcf];exact this
 have h8 (wc:World) (n m j:Nat) (hm:m<P) (hj:j<P):Calls Tryz.prog 179 #[.agg #[.int .i64 (el m),.bool (ed m),.int .u8 (ef m),.bool true,.bool true],.agg #[.int .i64 (.ofNat (lp j)),.int .i64 (el j),.bool (ed j),.int .u8 (ef j),.int .u8 (eb j),.int .i64 (lo j)],.bool (sU j n)] wc (Ret wc (.bool (cg n m j))):=by
  have hl1:=hln0 m (hP▸hm)
  have hl2:=hln0 j (hP▸hj)
  have:=Qyea ⟨(lnG F m).p,true,true⟩ (lnG F j) (scU F j n) hl1.1 hl2.1 hl1.2.1 hl2.2.1 hl2.2.2 wc
  rw[hlp,hel,hed,hef,heb,hlo,hsU,hcg];exact this
 have hnk:∀k,k<P->nn k=N:=fun k hk=>by rw[hnn,hN];exact Qde (hP▸hk)
 have hT9:∀n,n<N->tn n<=9:=fun n hn=>by rw[htn];exact hT90 n (hN▸hn)
 obtain ⟨⟨l0,e0,l1,e1,l2,e2,l3,e3,l4,e4,b0,b10,b1z,b20,b2P,b1T,b40,b4P,b3s,b3P,b2f,b4f,s2,s4,s0,hb2,hb4,hb0,eR,hp0,hp3⟩,-⟩:=Qdha F hO hN hP hel hed hef heb hsI htw htq htn hxl hxd hxf hxw hxz hcf hcg
 rw[eR]
 rw[<-hN] at hN9
 rw[<-hP] at hP9
 clear h10 h20 h40 h50 h60 hlm0 hub0 hlm hub hg0 hg1 gq0 hK hto0 hln0 hT90 eR hN hP hlp hel hed hef heb hlo hsI hsU htw hnn htq htn hxl hxd hxf hxw hxz hcf hcg hO hE hD
 obtain ⟨pa,un,lA,ln,lc,lk,lt,bA,bn,bc,sA,sn,sc,s,jA,jn,jc,ja,jk,jo,jf,jx,je,jd⟩:=F
 obtain ⟨hX,hl,hb,hs,hj⟩:=hF
 simp only at hl hb hs hj
 try simp only at h1 h2 h4 h5 h6 hl16
 refine Qaa (args:=[.pt (.agg (GFun.dat _))]) (c:=(Qwa _)) Tryz.func76 rfl hX rfl rfl ?_
 obtain ⟨_,_,_,hnt,_,har,_,hcm,_,_,_,_,ar01,ar12,zpl,hzpl,zjn,hzjn,_,_,_,_,_,_,hT⟩:=Qca
 have hc5:∀a,∀q i j,q<5->j<(Q3a (Qwa ⟨pa,un,lA,ln,lc,lk,lt,bA,bn,bc,sA,sn,sc,s,jA,jn,jc,ja,jk,jo,jf,jx,je,jd⟩) 4 (Q5j P 6 (fun j=>[.int .i64 (.ofNat (lp j)),.int .i64 (el j),.bool (ed j),.int .u8 (ef j),.int .u8 (eb j),.int .i64 (lo j)]) a) q i).n->qbL 5 ((Q3a (Qwa ⟨pa,un,lA,ln,lc,lk,lt,bA,bn,bc,sA,sn,sc,s,jA,jn,jc,ja,jk,jo,jf,jx,je,jd⟩) 4 (Q5j P 6 (fun j=>[.int .i64 (.ofNat (lp j)),.int .i64 (el j),.bool (ed j),.int .u8 (ef j),.int .u8 (eb j),.int .i64 (lo j)]) a) q i).el j)=true:=fun a=>Qm7 (Qmc _) (Qog (fun _=>rfl))
 have hpl:Qic [⟨l0 N,7,e0 N⟩]:=⟨fun j _=>hp0 N j,trivial⟩
 have RQ:∀{n n':Nat} {e e':Nat->List SC},n=n'/\e=e'->RowLe ⟨n,7,e⟩ ⟨n',7,e'⟩:=by rintro _ _ _ _ ⟨rfl,rfl⟩;exact RowLe.rfl' _
 have RZ:∀{e:Nat->List SC},RowLe ⟨0,7,e⟩ ⟨l0 0,7,e0 0⟩:=by rw[b0];exact Q0a rfl (fun j hj=>absurd hj (Nat.not_lt_zero _))
 have S2:=s2 zpl zjn hzpl hzjn
 have S4:=s4 zpl zjn hzpl hzjn
 have hnq:∀X:Int,0<=X->X<X.toNat+1:=fun X h=>by omega
 have t3:∀{n m},decide (eb m=3)=false->(decide (eb m=3)&&(sI m n&&tw m n))=false:=fun h=>by rw[h];rfl
 have t4:∀{n m},sI m n=false->(decide (eb m=3)&&(sI m n&&tw m n))=false:=fun h=>by rw[h,Bool.false_and,Bool.and_false]
 have S0:=s0 zpl zjn hzpl hzjn
 have RW:∀{n:Nat} {e:Nat->List SC},l1 false n 0=0->RowLe ⟨0,7,e⟩ ⟨l1 false n 0,7,e1 false n 0⟩:=fun {n e} h=>by rw[h];exact Q0a rfl (fun j hj=>absurd hj (Nat.not_lt_zero _))
 have t5:∀{n m},m<P->n<N->decide (eb m=3)=true->ub n (lm m)=false->(decide (eb m=3)&&(sI m n&&tw m n))=false:=fun {n m} g1 g0 g2 h=>by rw[hbit m n g1 g0 (of_decide_eq_true g2),h,Bool.and_false,Bool.and_false]
 have t6:∀{n m},m<P->n<N->decide (eb m=3)=true->ub n (lm m)=true->tw m n=true:=fun {n m} g1 g0 g2 h=>by rw[hbit m n g1 g0 (of_decide_eq_true g2)];exact h
 repeat' (first
  | refine goa ?_|refine go3 (fun hlt=>?_) (fun hge=>?_)|refine go2 (fun h=>?_) (fun h=>?_)|exact go0|refine god ?_|refine gof ?_|refine Qvha ?_ ?_
  | ((first|with_reducible apply Qhb hT|with_reducible apply Qna hT);(·(cbv;try rfl));(·(cbv;try rfl));(·exact Qvda);(·exact Qvda);(·rfl))
  | ((first|with_reducible apply Qcn hT|with_reducible apply Qgn hT);(·(cbv;try rfl));(·(cbv;try rfl));(·exact Qvda);(·exact Qvda);(·rfl);(·first|assumption|exact ⟨fun _ _=>rfl,trivial⟩);(·rfl))
  | refine gob ?_
  | ((with_reducible refine Q4c ?_ ?_);(·first|((rw[hzpl];exact hb4 _ n m j y9 y9 y9))|((rw[hzpl];exact hb2 _ n i k y9 y9 y9))|((rw[hzpl];exact hb0 n m y9 y9 hm))))
  | (((with_reducible apply Qoa (hf:=Tryz.call89));(·intro S;cbv;try rfl);(·intro wc S hbc hxc hrc;exact h1 wc hbc);(·rfl);(refine Qcm 4 rfl rfl ⟨fun _ _=>rfl,trivial⟩ (Qmc _) ?_);(refine Qnc 0 0 0 (fun a cap=>Q5j P 6 (fun j=>[.int .i64 (.ofNat (lp j)),.int .i64 (el j),.bool (ed j),.int .u8 (ef j),.int .u8 (eb j),.int .i64 (lo j)]) (a,cap)) (R:=⟨P,6,fun j=>[.int .i64 (.ofNat (lp j)),.int .i64 (el j),.bool (ed j),.int .u8 (ef j),.int .u8 (eb j),.int .i64 (lo j)]⟩) rfl (RowLe.rfl' _) rfl (fun v=>rfl) trivial (fun j hj=>rfl) (Qmc _) (fun p i j hj=>absurd hj (Nat.not_lt_zero _)) rfl (fun a cap p' i' h=>Qlt h) (fun a cap=>rfl) (fun aL cL hnL=>?_));(refine Qrs 9 4 0 rfl rfl ?_)))
  | (((with_reducible apply Qhc 5 (hf:=Tryz.call55));(·intro S;cbv;try rfl);(·intro wc S hbc hxc hrc;exact h2 wc hbc);(·intro A;rfl);(·intro A;rfl);(·rfl);(·rfl);(·trivial);(·exact hc5 _);(·intro A;exact ⟨fun _ _=>rfl,fun _ _=>rfl,trivial⟩);(·intro A p i j hj;exact gq A p i j hj);(intro A2 hnew2;refine Qsca 1 (fun j=>[.xs 7 j]) rfl (fun j hj vs hv=>Q8da ⟨rfl,hnk j hj,rfl⟩ vs hv) ?_;refine Qsca 2 (fun j=>[.xs 8 j]) rfl (fun j hj vs hv=>Q8da ⟨rfl,hnk j hj,rfl⟩ vs hv) ?_)))
  | (refine' Qiha Tryz.call56 ?_ ?_;rotate_left;(·intro wc hbc hxc;exact h4 wc hbc))
  | ((with_reducible apply Qud 6 7);(·(cbv;try rfl)))
  | ((with_reducible apply Qud 11 7);(·(cbv;try rfl)))
  | refine Qhha Tryz.func122 Tryz.results122 Tryz.call122 ?_
  | ((with_reducible apply Qoa (hf:=Tryz.call178));(·intro S;cbv;try rfl);(·intro wc S hbc hxc hrc;exact h5 wc hbc n y9);(·rfl))
  | ((with_reducible refine Qgha (σ:={j:Nat // j<=P}) (zs9 [108,40]) (fun x=>[zc9 17 x.1]) (fun x=>[]) (fun x=>[(5,⟨l4 false n m x.1,7,e4 false n m x.1⟩)]) (fun x=>P - x.1) ⟨0,Nat.zero_le _⟩ ?_ ?_);(·exact pfp Qvda);(rintro ⟨j,hj⟩ mm hmm))
  | ((with_reducible refine Qgha (σ:={m:Nat // m<=P}) (zs9 [16,2,68,80]) (fun x=>[zc9 15 x.1]) (fun x=>[]) (fun x=>[(5,⟨l3 false n x.1,7,e3 false n x.1⟩)]) (fun x=>P - x.1) ⟨0,Nat.zero_le _⟩ ?_ ?_);(·exact pfp Qvda);(rintro ⟨m,hm⟩ mm hmm))
  | ((with_reducible refine Qgha (σ:={k:Nat // k<=P}) (zs9 [27,41]) (fun x=>[zc9 14 x.1]) (fun x=>[]) (fun x=>[(5,⟨l2 false n i x.1,7,e2 false n i x.1⟩)]) (fun x=>P - x.1) ⟨0,Nat.zero_le _⟩ ?_ ?_);(·exact pfp Qvda);(rintro ⟨k,hk⟩ mm hmm))
  | ((with_reducible refine Qgha (σ:={i:Nat // i<=tn n}) (zs9 [14,1,21,47]) (fun x=>[zc9 13 x.1]) (fun x=>[]) (fun x=>[(5,⟨l1 false n x.1,7,e1 false n x.1⟩)]) (fun x=>tn n - x.1) ⟨0,Nat.zero_le _⟩ ?_ ?_);(·exact pfp Qvda);(rintro ⟨i,hi⟩ mm hmm))
  | ((with_reducible refine Qgha (σ:={n:Nat // n<=N}) (zs9 [15,14]) (fun x=>[zc9 7 x.1]) (fun x=>[]) (fun x=>[(3,⟨l0 x.1,7,e0 x.1⟩)]) (fun x=>N - x.1) ⟨0,Nat.zero_le _⟩ ?_ ?_);(·exact pfp Qvda);(rintro ⟨n,hn⟩ mm hmm))
  | (((with_reducible apply Qxa);(·exact Int.natCast_nonneg _);(·first|exact Int.ofNat_lt.2 y9|(rw[hnk _ y9];exact Int.ofNat_lt.2 y9))))
  | (refine' Qiha Tryz.call179 ?_ ?_;rotate_left;(·intro wc hbc hxc;exact h7 wc n i k y9 y9 y9))
  | (refine' Qiha Tryz.call179 ?_ ?_;rotate_left;(·intro wc hbc hxc;exact h8 wc n m j y9 y9))
  | (refine' Qiha Tryz.call180 ?_ ?_;rotate_left;(·intro wc hbc hxc;exact h6 wc hbc n y9))
  | (((with_reducible apply Qbfa);(·rfl);(·rfl);(·rfl);(with_reducible apply Qcfa hT);(·rfl);(·(cbv;try rfl));(·rfl);(with_reducible apply Qbfa);(·rfl);(·rfl);(·rfl);(with_reducible apply Qcfa hT);(·rfl);(·(cbv;try rfl));(·rfl);(with_reducible apply Qrfa 98);(·rfl);(·exact (hlq m y9 (of_decide_eq_true (p:=eb m=3) y9)).1)))
  | (((with_reducible apply Q3f (.bool (ub n (lm m))));(·exact Qvh _ (hlq m y9 (of_decide_eq_true (p:=eb m=3) y9)).2);(·rfl)))
  | ((with_reducible refine Qfha (⟨j+1,Nat.succ_le_of_lt y9⟩:{j:Nat // j<=P}) ?_ ?_);(·exact msr y9 y9);(·exact pfp Qvda))
  | ((with_reducible refine Qfha (⟨k+1,Nat.succ_le_of_lt y9⟩:{k:Nat // k<=P}) ?_ ?_);(·exact msr y9 y9);(·exact pfp Qvda))
  | ((with_reducible refine Qfha (⟨m+1,Nat.succ_le_of_lt y9⟩:{m:Nat // m<=P}) ?_ ?_);(·exact msr y9 y9);(·exact pfp Qvda))
  | ((with_reducible refine Qfha (⟨i+1,Nat.succ_le_of_lt y9⟩:{i:Nat // i<=tn n}) ?_ ?_);(·exact msr y9 y9);(·exact pfp Qvda))
  | ((with_reducible refine Qfha (⟨n+1,Nat.succ_le_of_lt y9⟩:{n:Nat // n<=N}) ?_ ?_);(·exact msr y9 y9);(·exact pfp Qvda))
  | fail)
 all_goals try rfl
end Go.Proofs.YtemnfncbgalljaaGreat
