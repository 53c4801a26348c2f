/- Lemmas. No condition. -/
import Derived.Test.YtemnfncbgalljaaGreatN4
namespace Go.Proofs.YtemnfncbgalljaaGreat
open Go.RowKit
set_option linter.all false
set_option maxHeartbeats 64000000
section
set_option maxRecDepth 100000
structure KCon where
 fr:Int
 to:Int
 at_:Int
 why:Int
def KCon.zero:KCon:=⟨0,0,0,0⟩
def KCon.sc (k:KCon):List SC:=[.int .i64 k.fr,.int .i64 k.to,.int .i64 k.at_,.int .u8 k.why]
def Q4z (L:List KCon):ORow:=⟨L.length,4,fun j=>(L.getD j .zero).sc⟩
def Qzd (k:Int):Bool:=k==3||k==4
def GPlace.whole (p:GPlace):Bool:= !p.d&&p.f==0
def ofL (lk:I9z) (s:GStmt) (at_ loan:Int):List KCon:=
 if s.p.whole then
  if s.r.k==4 then ⟨loan,s.p.l,at_,2⟩::(if s.r.p.d&&Qzd (lk s.r.p.l.toNat) then [⟨s.r.p.l,s.p.l,at_,3⟩] else [])
  else if s.r.k==1&&s.r.a.k !=1&&s.r.a.p.whole&&Qzd (lk s.r.a.p.l.toNat)&&Qzd (lk s.p.l.toNat) then [⟨s.r.a.p.l,s.p.l,at_,1⟩]
  else []
 else []
theorem Q43 (l f:Int) (d:Bool) (w:World):
 Calls Tryz.prog 277 #[.agg #[.int .i64 l,.bool d,.int .u8 f]] w (Ret w (.bool (GPlace.mk l d f).whole)):=by
 refine Qaa (args:=[.pt (.agg [.int .i64 l,.bool d,.int .u8 f])]) (c:=Qra) Tryz.func277 rfl (Qga _) rfl rfl ?_
 obtain ⟨_,hnd,_,hnt,_,har,_,hcm,_,_,_,_,ar01,ar12,_,hzpl,_,hzjn,_,_,_,_,_,_,hT⟩:=Qca
 repeat' (first
  | refine goa ?_|refine go3 (fun hlt=>?_) (fun hge=>?_)|refine go2 (fun h=>?_) (fun h=>?_)|exact go0|refine goz ?_|refine Qvha ?_ ?_
  | fail)
 all_goals
  subst hnd hnt hcm
  refine Qtb ?_
  grind [GPlace.whole]
theorem Qvaa (F:GFun) (l:Int) (w:World) (hF:F.At w) (h0:0<=l) (h1:l<F.ln):
 Calls Tryz.prog 247 #[F.val,.int .i64 l] w (Ret w (.bool (Qzd (F.lk l.toNat)))):=by
 obtain ⟨n,rfl⟩:∃n:Nat,l=.ofNat n:=⟨l.toNat,by simp only[Int.ofNat_eq_natCast];omega⟩
 have h1:n<F.ln:=by simp only[Int.ofNat_eq_natCast] at h1;omega
 show Calls Tryz.prog 247 #[F.val,.int .i64 (.ofNat n)] w (Ret w (.bool (Qzd (F.lk n))))
 clear h0
 obtain ⟨_,_,_,_,_,_,_,_,bn,_,_,sn,_,_,_,_,_,_,_,_,_,_,_,_⟩:=F
 obtain ⟨hX,hl,hb,hs,hj⟩:=hF
 simp only at hl hb hs hj
 simp only at h1
 refine Qaa (args:=[.pt (.agg (GFun.dat _)),.pt (.one (.int .i64 (.ofNat n)))]) (c:=(Qwa _)) Tryz.func247 rfl hX rfl rfl ?_
 obtain ⟨_,hnd,_,hnt,_,har,_,hcm,_,_,_,_,ar01,ar12,_,hzpl,_,hzjn,_,_,_,_,_,_,hT⟩:=Qca
 repeat' (first
  | refine goa ?_|refine go3 (fun hlt=>?_) (fun hge=>?_)|refine go2 (fun h=>?_) (fun h=>?_)|exact go0|refine goz ?_|refine Qvha ?_ ?_
  | fail)
 all_goals
  clear hX hT
  subst hnd hnt hcm
  refine Qtb ?_
  grind [Qzd]
theorem Q33 {p:Prop} (h:p:=by (first|((try with_reducible refine Q8c ?_ ?_ ?_ ?_);all_goals (cbv;(try simp only[true_and,and_true]);(try ((repeat' apply And.intro)<;>(first|trivial|rfl|exact RowLe.rfl' _|decide|(rw[Qda har _ o9])|((clear hX hT hAt;exact ⟨by rw[hln,hL];subst hnd hnt;simp_all⟩))|((clear hX hT hAt;have e:L=[⟨loan,ql,at_,2⟩,⟨pl,ql,at_,3⟩]:=(by subst hnd hnt;simp_all);clear hL;subst e;refine Q7a hzpl hzjn (by rw[hln];rfl) (fun j hj=>?_) (by rw[hgt];exact Qpa _);have hj0:j=0:=o9;subst hj0;rw[hgt];exact Qpa _))|((clear hX hT hAt;have e:L=[⟨loan,ql,at_,2⟩]:=(by subst hnd hnt;simp_all);clear hL;subst e;refine ⟨by rw[hln];rfl,Nat.le_refl _,by decide,Nat.le_refl _,rfl,rfl,fun j hj=>?_⟩;have hj0:j=0:=o9;subst hj0;rw[hgt];exact Qpa _))|((clear hX hT hAt;have e:L=[⟨al,ql,at_,1⟩]:=(by subst hnd hnt;simp_all);clear hL;subst e;refine ⟨by rw[hln];rfl,Nat.le_refl _,by decide,Nat.le_refl _,rfl,rfl,fun j hj=>?_⟩;have hj0:j=0:=o9;subst hj0;rw[hgt];exact Qpa _))|fail))));done)|fail)):Pf p:=⟨h⟩
theorem Qeaa (F:GFun) (s:GStmt) (at_ loan:Int) (w:World) (hF:F.At w) (hp:0<=s.p.l/\s.p.l<F.ln) (hr:0<=s.r.p.l/\s.r.p.l<F.ln) (ha:0<=s.r.a.p.l/\s.r.a.p.l<F.ln):
 Calls Tryz.prog 248 #[F.val,s.val,.int .i64 at_,.int .i64 loan] w (RetR w (Qwa F) (.pt (.one (.rs 0))) [Q4z (ofL F.lk s at_ loan)]):=by
 obtain ⟨k,⟨ql,qd,qf⟩,⟨rk,rop,rbo,⟨ak,an,⟨al,ad,af⟩⟩,⟨bk,bn',⟨bl,bd,bf⟩⟩,⟨pl,pd,pf⟩⟩,⟨ck,cn,⟨cl,cd,cf⟩⟩,l⟩:=s
 obtain ⟨L,hL⟩:=x9 (ofL F.lk (GStmt.mk k ⟨ql,qd,qf⟩ ⟨rk,rop,rbo,⟨ak,an,⟨al,ad,af⟩⟩,⟨bk,bn',⟨bl,bd,bf⟩⟩,⟨pl,pd,pf⟩⟩ ⟨ck,cn,⟨cl,cd,cf⟩⟩ l) at_ loan)
 rw[<-hL]
 obtain ⟨ln_,hln⟩:=x9 (List.length:List KCon->Nat)
 obtain ⟨gt_,hgt⟩:=x9 (fun L j=>L.getD j .zero:List KCon->Nat->KCon)
 have hR:Q4z L=⟨ln_ L,4,fun j=>(gt_ L j).sc⟩:=by rw[Q4z,hln,hgt]
 rw[hR]
 simp only[] at hL hp hr ha
 have hAt wc (hk:KB ⟨w,[]⟩ wc):=hF.later hk
 clear hR
 unfold ofL at hL
 obtain ⟨pa,un,lA,ln,lc,lk,lt,bA,bn,bc,sA,sn,sc,s,jA,jn,jc,ja,jk,jo,jf,jx,je,jd⟩:=F
 obtain ⟨hX,hl,hb,hs,hj⟩:=hF
 simp only at hl hb hs hj
 simp only at hL hp hr ha
 refine Qaa (args:=[.pt (.agg (GFun.dat _)),.pt (.agg (GStmt.sc _)),.pt (.one (.int .i64 at_)),.pt (.one (.int .i64 loan))]) (c:=(Qwa _)) Tryz.func248 rfl hX rfl rfl ?_
 obtain ⟨_,hnd,_,hnt,_,har,_,hcm,_,_,_,_,ar01,ar12,_,hzpl,_,hzjn,_,_,_,_,_,_,hT⟩:=Qca
 repeat' (first
  | refine goa ?_|refine go3 (fun hlt=>?_) (fun hge=>?_)|refine go2 (fun h=>?_) (fun h=>?_)|exact go0|refine goz ?_|refine Qvha ?_ ?_
  | ((first|with_reducible apply Qhb hT|with_reducible apply Qna hT);(·(cbv;try rfl));(·(cbv;try rfl));(·exact Q33);(·exact Q33);(·rfl))
  | ((with_reducible apply Qua (hf:=Tryz.call277));(·(cbv;try rfl));(·intro wc hbc hxc;exact Q43 _ _ _ wc);intro z hz)
  | ((with_reducible apply Qeb (hf:=Tryz.call277));(·(cbv;try rfl));(·intro wc hbc hxc;exact Q43 _ _ _ wc);intro z hz)
  | ((with_reducible apply Qua (hf:=Tryz.call247));(·(cbv;try rfl));(·intro wc hbc hxc;exact Qvaa ⟨pa,un,lA,ln,lc,lk,lt,bA,bn,bc,sA,sn,sc,s,jA,jn,jc,ja,jk,jo,jf,jx,je,jd⟩ _ wc (hAt wc hbc) (by first|exact hp.1|exact hr.1|exact ha.1) (by first|exact hp.2|exact hr.2|exact ha.2));intro z hz)
  | ((with_reducible apply Qeb (hf:=Tryz.call247));(·(cbv;try rfl));(·intro wc hbc hxc;exact Qvaa ⟨pa,un,lA,ln,lc,lk,lt,bA,bn,bc,sA,sn,sc,s,jA,jn,jc,ja,jk,jo,jf,jx,je,jd⟩ _ wc (hAt wc hbc) (by first|exact hp.1|exact hr.1|exact ha.1) (by first|exact hp.2|exact hr.2|exact ha.2));intro z hz)
  | fail)
end
section
set_option maxRecDepth 100000
theorem Q6b (sn:N9z):∀n,(Qgb sn n).length=stN sn n
 | 0=>rfl
 | n+1=>by simp only[Qgb,List.length_append,Q6b sn n,Qxf,List.length_map,List.length_range,stN];omega
theorem Qti (sn:N9z):∀n p,p∈Qgb sn n->p.1<n/\p.2<=sn p.1
 | 0,p,h=>by simp[Qgb] at h
 | n+1,p,h=>by
   simp only[Qgb,List.mem_append] at h
   rcases h with h|h
   · have:=Qti sn n p h;exact ⟨by omega,this.2⟩
   · simp only[Qxf,List.mem_map,List.mem_range] at h
     obtain ⟨i,h1,rfl⟩:=h
     exact ⟨by simp,by simp;omega⟩
theorem Qty (F:GFun) (w:World) (hF:F.At w) (hS:F.Sm) (hC:∀w,F.At w->Calls Tryz.prog 85 #[F.val] w (Ret w (.int .i64 0))):
 Calls Tryz.prog 67 #[F.val] w (RetR w (Qwa F) (.tup [.one (.rs 0),.one (.int .i64 0)]) [⟨stN F.sn F.bn,2,fun j=>[.int .i64 (.ofNat ((Qgb F.sn F.bn).getD j (0,0)).1),.int .i64 (.ofNat ((Qgb F.sn F.bn).getD j (0,0)).2)]⟩]):=by
 have h1 wc (hk:KB ⟨w,[]⟩ wc):=hC wc (hF.later hk)
 have h2 wc (hk:KB ⟨w,[]⟩ wc):=Q9aa F wc (hF.later hk) hS.s hS.b
 have hR:ptR (Qgb F.sn F.bn)=⟨stN F.sn F.bn,2,fun j=>[.int .i64 (.ofNat ((Qgb F.sn F.bn).getD j (0,0)).1),.int .i64 (.ofNat ((Qgb F.sn F.bn).getD j (0,0)).2)]⟩:=by rw[ptR,Q6b]
 rw[hR] at h2
 clear hR hC hS
 obtain ⟨N,hN⟩:=x9 (stN F.sn F.bn)
 obtain ⟨p1,hp1⟩:=x9 (fun j=>((Qgb F.sn F.bn).getD j (0,0)).1:N9z)
 obtain ⟨p2,hp2⟩:=x9 (fun j=>((Qgb F.sn F.bn).getD j (0,0)).2:N9z)
 have hR:(⟨stN F.sn F.bn,2,fun j=>[.int .i64 (.ofNat ((Qgb F.sn F.bn).getD j (0,0)).1),.int .i64 (.ofNat ((Qgb F.sn F.bn).getD j (0,0)).2)]⟩:ORow)=⟨N,2,fun j=>[.int .i64 (.ofNat (p1 j)),.int .i64 (.ofNat (p2 j))]⟩:=by rw[hN,hp1,hp2]
 rw[hR] at h2⊢
 clear hR hN hp1 hp2
 obtain ⟨_,_,_,_,_,_,_,_,bn,_,_,sn,_,_,_,_,_,_,_,_,_,_,_,_⟩:=F
 obtain ⟨hX,hl,hb,hs,hj⟩:=hF
 simp only at hl hb hs hj
 refine Qaa (args:=[.pt (.agg (GFun.dat _))]) (c:=(Qwa _)) Tryz.func67 rfl hX rfl rfl ?_
 obtain ⟨_,hnd,_,hnt,_,har,_,hcm,_,_,_,_,ar01,ar12,_,hzpl,_,hzjn,_,_,_,_,_,_,hT⟩:=Qca
 repeat' (first
  | refine goa ?_|exact go0
  | (refine' Qiha Tryz.call85 ?_ ?_;rotate_left;(·intro wc hbc hxc;exact h1 wc hbc))
  | ((with_reducible apply Qoa (hf:=Tryz.call101));(·intro S;cbv;try rfl);(·intro wc S hbc hxc hrc;exact h2 wc hbc);(·rfl))
  | fail)
def loN (ln:Nat) (s:Nat->Nat->GStmt) (sn pb pi:N9z):Nat->Nat
 | 0=>ln
 | a+1=>loN ln s sn pb pi a+if pi a<sn (pb a)/\(s (pb a) (pi a)).k=1/\(s (pb a) (pi a)).r.k=4 then 1 else 0
def Qf4 (lk:I9z) (ln:Nat) (s:Nat->Nat->GStmt) (sn pb pi:N9z):Nat->List KCon
 | 0=>[]
 | a+1=>Qf4 lk ln s sn pb pi a++if pi a<sn (pb a)/\(s (pb a) (pi a)).k=1 then ofL lk (s (pb a) (pi a)) (.ofNat a) (.ofNat (loN ln s sn pb pi a)) else []
def Qlc (F:GFun):List KCon:=Qf4 F.lk F.ln F.s F.sn (fun j=>((Qgb F.sn F.bn).getD j (0,0)).1) (fun j=>((Qgb F.sn F.bn).getD j (0,0)).2) (stN F.sn F.bn)
def GFun.Near (F:GFun):Prop:=∀b i,b<F.bn->i<F.sn b->(F.s b i).k=1->
 (0<=(F.s b i).p.l/\(F.s b i).p.l<F.ln)/\(0<=(F.s b i).r.p.l/\(F.s b i).r.p.l<F.ln)/\(0<=(F.s b i).r.a.p.l/\(F.s b i).r.a.p.l<F.ln)
theorem Qey (lk:I9z) (s:GStmt) (a l:Int):(ofL lk s a l).length<=2:=by
 unfold ofL
 split
 · split
   · split<;>simp
   · split<;>simp
 · simp
theorem Qdh {p:Prop} (h:p:=by (first|((try with_reducible refine Q8c ?_ ?_ ?_ ?_);all_goals (cbv;(try simp only[true_and,and_true]);(try ((repeat' apply And.intro)<;>(first|trivial|rfl|exact RowLe.rfl' _|decide|(rw[Qda har _ o9])|((rw[l0];done))|((refine Q0a (by rw[x0,hln];rfl) (fun j hj=>absurd hj (Nat.not_lt_zero _))))|((have q:=ll a;rw[Qda har _ o9,l1 a (hne a y9 y9) (of_decide_eq_true y9) (of_decide_eq_true y9)];done))|((rw[l2 a (fun g=>hnk a y9 g.1)];done))|((rw[l2 a (fun g=>of_decide_eq_false y9 g.2.1)];done))|((rw[l2 a (fun g=>of_decide_eq_false y9 g.2.2)];done))|((rw[x2 a (fun g=>hnk a y9 g.1)];exact RowLe.rfl' _))|((rw[x2 a (fun g=>of_decide_eq_false y9 g.2)];exact RowLe.rfl' _))|((exact hj1 a (hne a y9 y9) (of_decide_eq_true y9)))|((have haN:a=N:=o9;subst haN;exact RowLe.rfl' _))|fail))));done)|fail)):Pf p:=⟨h⟩
theorem Q93 (F:GFun) (w:World) (hF:F.At w) (hS:F.Sm) (hNr:F.Near) (hC:∀w,F.At w->Calls Tryz.prog 85 #[F.val] w (Ret w (.int .i64 0))):
 Calls Tryz.prog 200 #[F.val] w (RetR w (Qwa F) (.tup [.one (.rs 0),.one (.int .i64 0)]) [Q4z (Qlc F)]):=by
 have h1 wc (hk:KB ⟨w,[]⟩ wc):=hC wc (hF.later hk)
 have h2 wc (hk:KB ⟨w,[]⟩ wc):=Qty F wc (hF.later hk) hS hC
 unfold Qlc
 have hm:∀a,a<stN F.sn F.bn->((Qgb F.sn F.bn).getD a (0,0)).1<F.bn/\((Qgb F.sn F.bn).getD a (0,0)).2<=F.sn ((Qgb F.sn F.bn).getD a (0,0)).1:=fun a ha=>by
  have hl:a<(Qgb F.sn F.bn).length:=by rw[Q6b];exact ha
  refine Qti F.sn F.bn _ ?_
  simp only[List.getD,List.getElem?_eq_getElem hl,Option.getD_some]
  exact List.getElem_mem hl
 have hN9:stN F.sn F.bn<=930:=by
  have:=Qtm hS.s F.bn (Nat.le_refl _)
  have:=hS.b
  omega
 have hl30:=hS.l
 obtain ⟨N,hN⟩:=x9 (stN F.sn F.bn)
 obtain ⟨pb,hpb⟩:=x9 (fun j=>((Qgb F.sn F.bn).getD j (0,0)).1:N9z)
 obtain ⟨pi,hpi⟩:=x9 (fun j=>((Qgb F.sn F.bn).getD j (0,0)).2:N9z)
 have hR:(⟨stN F.sn F.bn,2,fun j=>[.int .i64 (.ofNat ((Qgb F.sn F.bn).getD j (0,0)).1),.int .i64 (.ofNat ((Qgb F.sn F.bn).getD j (0,0)).2)]⟩:ORow)=⟨N,2,fun j=>[.int .i64 (.ofNat (pb j)),.int .i64 (.ofNat (pi j))]⟩:=by rw[hN,hpb,hpi]
 rw[hR] at h2
 have hb1:∀a,a<N->pb a<F.bn:=fun a ha=>by rw[hpb];exact (hm a (hN▸ha)).1
 have hi1:∀a,a<N->pi a<=F.sn (pb a):=fun a ha=>by rw[hpb,hpi];exact (hm a (hN▸ha)).2
 rw[<-hpb,<-hpi,<-hN]
 rw[<-hN] at hN9
 clear hR hm hC hS hN hpb hpi
 obtain ⟨lo,hlo⟩:=x9 (loN F.ln F.s F.sn pb pi:N9z)
 obtain ⟨X,hXX⟩:=x9 (Qf4 F.lk F.ln F.s F.sn pb pi:Nat->List KCon)
 obtain ⟨O,hO⟩:=x9 (fun a=>ofL F.lk (F.s (pb a) (pi a)) (.ofNat a) (.ofNat (lo a)):Nat->List KCon)
 obtain ⟨ln_,hln⟩:=x9 (List.length:List KCon->Nat)
 obtain ⟨gt_,hgt⟩:=x9 (fun L j=>L.getD j .zero:List KCon->Nat->KCon)
 have hRc:∀L,Q4z L=⟨ln_ L,4,fun j=>(gt_ L j).sc⟩:=fun L=>by rw[Q4z,hln,hgt]
 rw[<-hXX,hRc]
 have l0:lo 0=F.ln:=by rw[hlo];rfl
 have l1:∀a,pi a<F.sn (pb a)->(F.s (pb a) (pi a)).k=1->(F.s (pb a) (pi a)).r.k=4->lo (a+1)=lo a+1:=fun a g1 g2 g3=>by rw[hlo];simp only[loN];rw[if_pos ⟨g1,g2,g3⟩]
 have l2:∀a,¬(pi a<F.sn (pb a)/\(F.s (pb a) (pi a)).k=1/\(F.s (pb a) (pi a)).r.k=4)->lo (a+1)=lo a:=fun a g=>by rw[hlo];simp only[loN];rw[if_neg g];rfl
 have ll:∀a,lo a<=F.ln+a:=fun a=>by
  induction a with
  | zero=>rw[l0];omega
  | succ a ih=>
    by_cases g:pi a<F.sn (pb a)/\(F.s (pb a) (pi a)).k=1/\(F.s (pb a) (pi a)).r.k=4
    · rw[l1 a g.1 g.2.1 g.2.2];omega
    · rw[l2 a g];omega
 have x0:X 0=[]:=by rw[hXX];rfl
 have x1:∀a,pi a<F.sn (pb a)->(F.s (pb a) (pi a)).k=1->X (a+1)=X a++O a:=fun a g1 g2=>by rw[hXX,hO,hlo];simp only[Qf4];rw[if_pos ⟨g1,g2⟩]
 have x2:∀a,¬(pi a<F.sn (pb a)/\(F.s (pb a) (pi a)).k=1)->X (a+1)=X a:=fun a g=>by rw[hXX];simp only[Qf4];rw[if_neg g];simp
 have ol:∀a,ln_ (O a)<=2:=fun a=>by rw[hln,hO];exact Qey _ _ _ _
 have xl:∀a,ln_ (X a)<=2 * a:=fun a=>by
  induction a with
  | zero=>rw[x0,hln];simp
  | succ a ih=>
    have:=ol a
    by_cases g:pi a<F.sn (pb a)/\(F.s (pb a) (pi a)).k=1
    · rw[x1 a g.1 g.2,hln,List.length_append];rw[hln] at ih this;omega
    · rw[x2 a g];omega
 have hOf:∀a,a<N->pi a<F.sn (pb a)->(F.s (pb a) (pi a)).k=1->∀wc,KB ⟨w,[]⟩ wc->Calls Tryz.prog 248 #[F.val,(F.s (pb a) (pi a)).val,.int .i64 (.ofNat a),.int .i64 (.ofNat (lo a))] wc (RetR wc (Qwa F) (.pt (.one (.rs 0))) [⟨ln_ (O a),4,fun j=>(gt_ (O a) j).sc⟩]):=fun a ha g1 g2 wc hk=>by
  have hq:=hNr (pb a) (pi a) (hb1 a ha) g1 g2
  rw[<-hRc,hO]
  exact Qeaa F _ _ _ wc (hF.later hk) hq.1 hq.2.1 hq.2.2
 have hjx:∀a j,j<ln_ (X a)->∀b,gt_ (X a++b) j=gt_ (X a) j:=fun a j hj b=>by
  rw[hgt];rw[hln] at hj
  simp[List.getD,List.getElem?_append_left hj]
 have hjy:∀a b j,gt_ (X a++b) (ln_ (X a)+j)=gt_ b j:=fun a b j=>by
  rw[hgt,hln]
  simp[List.getD,List.getElem?_append_right]
 clear hO hXX hlo hRc hNr
 obtain ⟨_,_,_,_,_,_,_,_,bn,_,_,sn,_,s,_,_,_,_,_,_,_,_,_,_⟩:=F
 obtain ⟨hX,hl,hb,hs,hj⟩:=hF
 simp only at hl hb hs hj
 simp only at h1 h2 hb1 hi1 l0 l1 l2 ll x1 x2 hOf hl30
 have hne:∀a,a<N->decide (Int.ofNat (pi a)=Int.ofNat (sn (pb a)))=false->pi a<sn (pb a):=fun a ha h=>by
  have h1:=hi1 a ha
  have h2:¬Int.ofNat (pi a)=Int.ofNat (sn (pb a)):=of_decide_eq_false h
  simp only[Int.ofNat_eq_natCast] at h2
  omega
 have hnk:∀a,decide (Int.ofNat (pi a)=Int.ofNat (sn (pb a)))=true->¬pi a<sn (pb a):=fun a h=>by
  have h2:Int.ofNat (pi a)=Int.ofNat (sn (pb a)):=of_decide_eq_true h
  simp only[Int.ofNat_eq_natCast] at h2
  omega
 refine Qaa (args:=[.pt (.agg (GFun.dat _))]) (c:=(Qwa _)) Tryz.func200 rfl hX rfl rfl ?_
 obtain ⟨_,hnd,_,hnt,_,har,_,hcm,_,_,_,_,ar01,ar12,zpl,hzpl,zjn,hzjn,_,_,_,_,_,_,hT⟩:=Qca
 have hj1:∀a,pi a<sn (pb a)->(s (pb a) (pi a)).k=1->RowLe ⟨zpl (ln_ (X a)) (ln_ (O a)),4,zjn (ln_ (X a)) (fun j=>(gt_ (X a) j).sc) (fun j=>(gt_ (O a) j).sc)⟩ ⟨ln_ (X (a+1)),4,fun j=>(gt_ (X (a+1)) j).sc⟩:=fun a g1 g2=>by
  rw[x1 a g1 g2]
  refine Qav hzpl hzjn (by rw[hln];exact List.length_append) (fun j hj=>?_) (fun j hj=>?_)
  · show Qbc (gt_ (X a) j).sc (gt_ (X a++O a) j).sc
    rw[hjx a j hj];exact Qpa _
  · show Qbc (gt_ (O a) j).sc (gt_ (X a++O a) (ln_ (X a)+j)).sc
    rw[hjy];exact Qpa _
 repeat' (first
  | refine goa ?_|refine go3 (fun hlt=>?_) (fun hge=>?_)|refine go2 (fun h=>?_) (fun h=>?_)|exact go0|refine god ?_|refine gof ?_|refine Qvha ?_ ?_
  | ((first|with_reducible apply Qhb hT|with_reducible apply Qna hT);(·(cbv;try rfl));(·(cbv;try rfl));(·exact Qdh);(·exact Qdh);(·rfl))
  | refine gob ?_
  | ((with_reducible refine Q4c ?_ ?_);(·first|((rw[hzpl];exact Nat.le_trans (Nat.add_le_add (xl a) (ol a)) (show 2 * a+2<=1073741824 from by omega)))))
  | (refine' Qiha Tryz.call85 ?_ ?_;rotate_left;(·intro wc hbc hxc;exact h1 wc hbc))
  | ((with_reducible apply Qoa (hf:=Tryz.call67));(·intro S;cbv;try rfl);(·intro wc S hbc hxc hrc;exact h2 wc hbc);(·rfl))
  | ((with_reducible apply Qud 7 4);(·(cbv;try rfl)))
  | ((with_reducible refine Qgha (σ:={a:Nat // a<=N}) (zs9 [9,3,31,47]) (fun x=>[(8,.pt (.one (.int .i64 (.ofNat (lo x.1))))),zc9 30 x.1]) (fun x=>[]) (fun x=>[(1,⟨ln_ (X x.1),4,fun j=>(gt_ (X x.1) j).sc⟩)]) (fun x=>N - x.1) ⟨0,by omega⟩ ?_ ?_);(·exact pfp Qdh);(rintro ⟨a,ha⟩ mm hmm))
  | (((with_reducible apply Qxa);(·exact Int.natCast_nonneg _);(·have q:=hb1 a y9;show ((pb a:Nat):Int)<_;omega)))
  | (((with_reducible apply Qxa);(·exact Int.natCast_nonneg _);(·have q:=hne a y9 y9;show ((pi a:Nat):Int)<_;omega)))
  | ((with_reducible apply Qoa (hf:=Tryz.call248));(·intro S;cbv;try rfl);(·intro wc S hbc hxc hrc;exact hOf a y9 (hne a y9 y9) (of_decide_eq_true y9) wc hbc);(·rfl))
  | ((with_reducible refine Qfha ⟨a+1,by omega⟩ ?_ ?_);(·exact msr o9 y9);(·exact pfp Qdh))
  | fail)
end
def pbN (F:GFun) (n:Nat):Nat:=((Qgb F.sn F.bn).getD n (0,0)).1
def piN (F:GFun) (n:Nat):Nat:=((Qgb F.sn F.bn).getD n (0,0)).2
theorem Q6l (sn:N9z):∀bn n,n<stN sn bn->n=stN sn ((Qgb sn bn).getD n (0,0)).1+((Qgb sn bn).getD n (0,0)).2
 | 0,n,h=>by simp[stN] at h
 | bn+1,n,h=>by
   have hl:=Q6b sn bn
   simp only[stN] at h
   by_cases g:n<stN sn bn
   · have:=Q6l sn bn n g
     have e:(Qgb sn (bn+1)).getD n (0,0)=(Qgb sn bn).getD n (0,0):=by
      simp only[Qgb,List.getD]
      rw[List.getElem?_append_left o9]
     rw[e];exact this
   · have e:(Qgb sn (bn+1)).getD n (0,0)=(bn,n - stN sn bn):=by
      simp only[Qgb,List.getD]
      rw[List.getElem?_append_right o9,hl]
      simp only[Qxf,List.getElem?_map]
      rw[List.getElem?_range o9]
      rfl
     rw[e];simp only;omega
theorem Qoc {F:GFun} {n:Nat} (h:n<stN F.sn F.bn):pbN F n<F.bn/\piN F n<=F.sn (pbN F n)/\n=stN F.sn (pbN F n)+piN F n:=by
 have hl:n<(Qgb F.sn F.bn).length:=by rw[Q6b];exact h
 have hm:=Qti F.sn F.bn ((Qgb F.sn F.bn).getD n (0,0)) (by
  simp only[List.getD,List.getElem?_eq_getElem hl,Option.getD_some]
  exact List.getElem_mem hl)
 exact ⟨hm.1,hm.2,Q6l F.sn F.bn n h⟩
def Qge (F:GFun) (n:Nat):Bool:=decide (piN F n<F.sn (pbN F n))
def stAt (F:GFun) (n:Nat):GStmt:=if piN F n<F.sn (pbN F n) then F.s (pbN F n) (piN F n) else .zero
theorem Qlz (F:GFun) (w:World) (hF:F.At w) (hS:F.Sm) (n:Nat) (hn:n<stN F.sn F.bn):
 Calls Tryz.prog 142 #[F.val,.int .i64 (.ofNat n)] w (Ret w (.tuple #[(stAt F n).val,.bool (Qge F n)])):=by
 obtain ⟨h1,h2,h3⟩:=Qoc hn
 by_cases g:piN F n<F.sn (pbN F n)
 · have:=Q0aa F w hF hS (pbN F n) (piN F n) h1 g
   rw[<-h3] at this
   simp only[stAt,Qge,if_pos g,decide_eq_true g]
   exact this
 · have e:piN F n=F.sn (pbN F n):=by omega
   have:=Qkz F w hF hS (pbN F n) h1
   rw[<-e,<-h3] at this
   simp only[stAt,Qge,if_neg g,decide_eq_false g]
   exact this
def Qia (F:GFun):Nat->List Nat
 | 0=>[]
 | n+1=>Qia F n++if Qge F n=true/\(stAt F n).k=1/\(stAt F n).r.k=4 then [n] else []
theorem Qxb (F:GFun):∀n,(Qia F n).length<=n
 | 0=>Nat.le_refl _
 | n+1=>by
   have:=Qxb F n
   simp only[Qia,List.length_append]
   split<;>simp<;>omega
theorem Qeh {p:Prop} (h:p:=by (first|((try with_reducible refine Q8c ?_ ?_ ?_ ?_);all_goals (cbv;(try simp only[true_and,and_true]);(try ((repeat' apply And.intro)<;>(first|trivial|rfl|exact RowLe.rfl' _|decide|(rw[Qda har _ o9])|((refine Q0a (by rw[x0,hln];rfl) (fun j hj=>absurd hj (Nat.not_lt_zero _))))|((exact hj1 n y9 (of_decide_eq_true y9) (of_decide_eq_true y9)))|((rw[x2 n (fun g=>Bool.noConfusion (g.1.symm.trans y9))];exact RowLe.rfl' _))|((rw[x2 n (fun g=>of_decide_eq_false y9 g.2.1)];exact RowLe.rfl' _))|((rw[x2 n (fun g=>of_decide_eq_false y9 g.2.2)];exact RowLe.rfl' _))|((have haN:n=N:=o9;subst haN;exact RowLe.rfl' _))|fail))));done)|fail)):Pf p:=⟨h⟩
theorem Q0n (F:GFun) (w:World) (hF:F.At w) (hS:F.Sm):
 Calls Tryz.prog 141 #[F.val] w (RetR w (Qwa F) (.pt (.one (.rs 0))) [Qzu (Qia F (stN F.sn F.bn))]):=by
 have h1 wc (hk:KB ⟨w,[]⟩ wc):=Qez F wc (hF.later hk) hS
 have h2 wc (hk:KB ⟨w,[]⟩ wc):=Qlz F wc (hF.later hk) hS
 have hN9:stN F.sn F.bn<=930:=by
  have:=Qtm hS.s F.bn (Nat.le_refl _)
  have:=hS.b
  omega
 obtain ⟨N,hN⟩:=x9 (stN F.sn F.bn)
 obtain ⟨X,hXX⟩:=x9 (Qia F:Nat->List Nat)
 obtain ⟨ia,hia⟩:=x9 (Qge F:B9z)
 obtain ⟨sa,hsa⟩:=x9 (stAt F:Nat->GStmt)
 obtain ⟨ln_,hln⟩:=x9 (List.length:List Nat->Nat)
 obtain ⟨gt_,hgt⟩:=x9 (fun L j=>L.getD j 0:List Nat->Nat->Nat)
 have hRc:∀L,Qzu L=⟨ln_ L,1,fun j=>[.int .i64 (.ofNat (gt_ L j))]⟩:=fun L=>by rw[Qzu,hln,hgt]
 rw[<-hN,<-hXX,hRc]
 rw[<-hN] at hN9
 simp only[<-hN,<-hia,<-hsa] at h1 h2
 have x0:X 0=[]:=by rw[hXX];rfl
 have x1:∀n,ia n=true->(sa n).k=1->(sa n).r.k=4->X (n+1)=X n++[n]:=fun n g1 g2 g3=>by rw[hXX,hia,hsa] at *;simp only[Qia];rw[if_pos ⟨g1,g2,g3⟩]
 have x2:∀n,¬(ia n=true/\(sa n).k=1/\(sa n).r.k=4)->X (n+1)=X n:=fun n g=>by rw[hXX,hia,hsa] at *;simp only[Qia];rw[if_neg g];simp
 have xl:∀n,ln_ (X n)<=n:=fun n=>by rw[hln,hXX];exact Qxb F n
 have hgx:∀n j,j<ln_ (X n)->∀b,gt_ (X n++b) j=gt_ (X n) j:=fun n j hj b=>by
  rw[hgt];rw[hln] at hj
  simp[List.getD,List.getElem?_append_left hj]
 have hgy:∀n,gt_ (X n++[n]) (ln_ (X n))=n:=fun n=>by
  rw[hgt,hln]
  simp[List.getD]
 clear hN hXX hia hsa hRc hS
 obtain ⟨_,_,_,_,_,_,_,_,bn,_,_,sn,_,_,_,_,_,_,_,_,_,_,_,_⟩:=F
 obtain ⟨hX,hl,hb,hs,hj⟩:=hF
 simp only at hl hb hs hj
 refine Qaa (args:=[.pt (.agg (GFun.dat _))]) (c:=(Qwa _)) Tryz.func141 rfl hX rfl rfl ?_
 obtain ⟨_,hnd,_,hnt,_,har,_,hcm,_,_,_,_,ar01,ar12,zpl,hzpl,zjn,hzjn,_,_,_,_,_,_,hT⟩:=Qca
 have hj1:∀n,ia n=true->(sa n).k=1->(sa n).r.k=4->RowLe ⟨zpl (ln_ (X n)) 1,1,zjn (ln_ (X n)) (fun j=>[.int .i64 (.ofNat (gt_ (X n) j))]) (fun j=>Qte [.int .i64 (.ofNat n)] (0+j * 1) 1)⟩ ⟨ln_ (X (n+1)),1,fun j=>[.int .i64 (.ofNat (gt_ (X (n+1)) j))]⟩:=fun n g1 g2 g3=>by
  rw[x1 n g1 g2 g3]
  refine Q7a hzpl hzjn (by rw[hln];simp) (fun j hj=>?_) ?_
  · show Qbc [.int .i64 (.ofNat (gt_ (X n) j))] [.int .i64 (.ofNat (gt_ (X n++[n]) j))]
    rw[hgx n j hj];exact Qpa _
  · show Qbc [.int .i64 (.ofNat n)] [.int .i64 (.ofNat (gt_ (X n++[n]) (ln_ (X n))))]
    rw[hgy];exact Qpa _
 repeat' (first
  | refine goa ?_|refine go3 (fun hlt=>?_) (fun hge=>?_)|refine go2 (fun h=>?_) (fun h=>?_)|exact go0|refine god ?_|refine gof ?_|refine Qvha ?_ ?_
  | ((first|with_reducible apply Qhb hT|with_reducible apply Qna hT);(·(cbv;try rfl));(·(cbv;try rfl));(·exact Qeh);(·exact Qeh);(·rfl))
  | refine gob ?_
  | ((with_reducible refine Q4c ?_ ?_);(·first|((rw[hzpl];exact Nat.le_trans (Nat.add_le_add_right (xl n) 1) (show n+1<=1073741824 from by omega)))))
  | (refine' Qiha Tryz.call56 ?_ ?_;rotate_left;(·intro wc hbc hxc;exact h1 wc hbc))
  | (refine' Qiha Tryz.call142 ?_ ?_;rotate_left;(·intro wc hbc hxc;exact h2 wc hbc n y9))
  | ((with_reducible apply Qud 3 1);(·(cbv;try rfl)))
  | ((with_reducible refine Qgha (σ:={n:Nat // n<=N}) (zs9 [5,30]) (fun x=>[zc9 4 x.1]) (fun x=>[]) (fun x=>[(0,⟨ln_ (X x.1),1,fun j=>[.int .i64 (.ofNat (gt_ (X x.1) j))]⟩)]) (fun x=>N - x.1) ⟨0,by omega⟩ ?_ ?_);(·exact pfp Qeh);(rintro ⟨n,hn⟩ mm hmm))
  | ((with_reducible refine Qfha ⟨n+1,by omega⟩ ?_ ?_);(·exact msr o9 y9);(·exact pfp Qeh))
  | fail)
end Go.Proofs.YtemnfncbgalljaaGreat
