/- Lemmas. No condition. -/
import Derived.Test.YtemnfncbgalljaaGreatX1
import Derived.Test.YtemnfncbgalljaaGreatG1
namespace Go.Proofs.YtemnfncbgalljaaGreat
open Go.RowKit
set_option linter.all false
set_option maxHeartbeats 64000000
set_option maxRecDepth 100000
def wholeP (p:GPlace):Bool:= !p.d&&p.f==0
def Qraa (n:Nat) (o:GOper):Prop:=o.k=1\/(o.k=2\/o.k=3)/\0<=o.p.l/\o.p.l<n
theorem Qp5 {n:Nat} {may:Bool} {o:GOper} (ho:o.ok=true) (h:∀q∈Qaj may o,0<=q.1.l/\q.1.l<(n:Int)):Qraa n o:=by
 by_cases g:o.k=1
 · exact .inl g
 · refine .inr ⟨?_,h (o.p,_) (by unfold Qaj;rw[if_neg g];exact List.mem_singleton.2 rfl)⟩
   simp only[GOper.ok,Bool.or_eq_true,Bool.and_eq_true,beq_iff_eq] at ho
   omega
theorem Qvp {g:Nat->GOper} {q:GPlace×Bool}:∀{n i},i<n->q∈Qaj true (g i)->q∈Qlh g n
 | n+1,i,hi,h=>by
   simp only[Qlh,List.mem_append]
   rcases Nat.lt_or_ge i n with h1|h1
   · exact .inl (Qvp h1 h)
   · obtain rfl:i=n:=by omega
     exact .inr h
theorem Q89 {F:GFun} (h:F.Ok) {b:Nat} (hb:b<F.bn) (hk:F.jk b=4) {i:Nat} (hi:i<F.jn b):Qraa F.ln (F.ja b i):=by
 have h1:=h.jmIn hb
 have ho:=h.okJ hb
 simp only[GJump.ok,GFun.jump,Bool.or_eq_true,Bool.and_eq_true,beq_iff_eq,Q7r,List.all_eq_true,List.mem_range] at ho
 have ho:(F.ja b i).ok=true:=by
  rcases ho with ((ho|ho)|ho)|ho
  · omega
  · omega
  · omega
  · exact ho.2 i hi
 refine Qp5 (may:=true) ho fun q hq=>h1 q ?_
 unfold Qlp Qpi
 rw[if_neg o9,if_pos hk]
 exact List.mem_cons_of_mem _ (Qvp hi hq)
theorem Qyfa {F:GFun} (h:F.Ok) {b:Nat} (hb:b<F.bn) (hk:F.jk b=2):Qraa F.ln (F.jo b):=by
 have h1:=h.jmIn hb
 have ho:=h.okJ hb
 simp only[GJump.ok,GFun.jump,Bool.or_eq_true,Bool.and_eq_true,beq_iff_eq] at ho
 have ho:(F.jo b).ok=true:=by
  rcases ho with ((ho|ho)|ho)|ho
  · omega
  · exact ho.1.1.2
  · omega
  · omega
 refine Qp5 (may:=false) ho fun q hq=>h1 q ?_
 unfold Qlp Qpi
 rw[if_pos hk]
 exact hq
structure StIn (n:Nat) (s:GStmt):Prop where
 k:s.k=1\/s.k=2\/s.k=3\/s.k=4
 r:s.k=1->s.r.k=1/\Qraa n s.r.a\/(s.r.k=2\/s.r.k=3)/\Qraa n s.r.a/\Qraa n s.r.b\/s.r.k=4\/s.r.k=5
 a:s.k=2\/s.k=4->Qraa n s.a
theorem Q6ga {F:GFun} (h:F.Ok) {b i:Nat} (hb:b<F.bn) (hi:i<F.sn b):StIn F.ln (F.s b i):=by
 have h1:=h.stIn hb hi
 have hs:=h.okS hb hi
 generalize F.s b i=s at h1 hs
 have hk:s.k=1\/s.k=2\/s.k=3\/s.k=4:=by
  simp only[GStmt.ok,Bool.or_eq_true,Bool.and_eq_true,beq_iff_eq] at hs
  omega
 refine ⟨hk,fun g=>?_,fun g=>?_⟩
 · have hr:s.r.ok=true:=by
    simp only[GStmt.ok,Bool.or_eq_true,Bool.and_eq_true,beq_iff_eq] at hs
    grind
   have mem:∀q,q∈Q3e s↔q∈(if s.r.k=4\/s.r.k=5 then [(s.p,false),(s.r.p,false)] else if s.r.k=1 then (s.p,false)::Qaj true s.r.a else (s.p,false)::(Qaj false s.r.a++Qaj false s.r.b)):=fun q=>by
    unfold Q3e
    rw[if_neg o9,if_neg o9,if_pos g]
   simp only[GRv.ok,Bool.or_eq_true,Bool.and_eq_true,beq_iff_eq] at hr
   by_cases g4:s.r.k=4\/s.r.k=5
   · exact .inr (.inr g4)
   by_cases g1:s.r.k=1
   · refine .inl ⟨g1,Qp5 (may:=true) (by grind) fun q hq=>h1 q ((mem q).2 ?_)⟩
     rw[if_neg g4,if_pos g1];exact List.mem_cons_of_mem _ hq
   · refine .inr (.inl ⟨by omega,Qp5 (may:=false) (by grind) fun q hq=>h1 q ((mem q).2 ?_),Qp5 (may:=false) (by grind) fun q hq=>h1 q ((mem q).2 ?_)⟩)
     · rw[if_neg g4,if_neg g1];exact List.mem_cons_of_mem _ (List.mem_append_left _ hq)
     · rw[if_neg g4,if_neg g1];exact List.mem_cons_of_mem _ (List.mem_append_right _ hq)
 · refine Qp5 (may:=false) ?_ fun q hq=>h1 q ?_
   · simp only[GStmt.ok,Bool.or_eq_true,Bool.and_eq_true,beq_iff_eq] at hs
     grind
   · unfold Q3e;rw[if_neg o9,if_pos g];exact hq
theorem Qrda (b:Bool):Qre (.lit b) (.bool b):=rfl
theorem Qsda (b:Bool):Qre (.bool b) (.bool b):=rfl
theorem Qmc (F:GFun):∀q i j,q<4->j<(Qwa F q i).n->qbL 4 ((Qwa F q i).el j)=true:=fun q i j hq hj=>by
 match q,hq with
 | 0,_=>rfl
 | 1,_=>rfl
 | 2,_=>rfl
 | 3,_=>rfl
theorem Q2y (l f:Int) (d:Bool) (w:World):
 Calls Tryz.prog 143 #[.agg #[.int .i64 l,.bool d,.int .u8 f]] w (Ret w (.bool (wholeP ⟨l,d,f⟩))):=by
 refine Qaa (args:=[.pt (.agg [.int .i64 l,.bool d,.int .u8 f])]) (c:=Qra) Tryz.func143 rfl (Qga _) rfl rfl ?_
 obtain ⟨_,hnd,_,hnt,_,har,_,hcm,_,_,_,_,ar01,ar12,_,hzpl,_,_,_,_,_,_,_,_,hT⟩:=Qca
 repeat' (first
  | refine go1 ?_|refine go2 (fun h=>?_) (fun h=>?_)
  | fail)
 all_goals
  subst hnd hnt hcm
  refine Qtb ?_
  grind [wholeP]
theorem Qsy (F:GFun) (w:World) (hF:F.At w) (hS:F.Sm) (n:Nat) (hn:n<stN F.sn F.bn):
 Calls Tryz.prog 207 #[F.val,.int .i64 (.ofNat n)] w (Ret w (.agg #[.int .i64 (.ofNat (pbN F n)),.int .i64 (.ofNat (piN F n))])):=by
 obtain ⟨h1,h2,h3⟩:=Qoc hn
 have:=Qry F w hF hS (pbN F n) (piN F n) h1 h2
 rw[<-h3] at this
 exact this
theorem Qb3 (F:GFun) (w:World) (hF:F.At w) (hS:F.Sm) (n:Nat) (hn:n<stN F.sn F.bn):
 Calls Tryz.prog 228 #[F.val,.int .i64 (.ofNat n)] w (Ret w (Q6z F (pbN F n))):=by
 have h1 wc (hk:KB ⟨w,[]⟩ wc):=Qsy F wc (hF.later hk) hS n hn
 have hpb:=(Qoc hn).1
 obtain ⟨pb,hb'⟩:=x9 (pbN F n)
 rw[<-hb'] at h1 hpb⊢
 clear hb' hS
 obtain ⟨_,_,_,ln,_,_,_,_,bn,_,_,sn,sc,s,_,jn,_,ja,jk,jo,_,_,_,_⟩:=F
 obtain ⟨hX,hl,hb,hs,hj⟩:=hF
 simp only at hl hb hs hj
 simp only at hpb
 refine Qaa (args:=[.pt (.agg (GFun.dat _)),.pt (.one (.int .i64 (.ofNat n)))]) (c:=(Qwa _)) Tryz.func228 rfl hX rfl rfl ?_
 obtain ⟨_,_,_,hnt,_,har,_,hcm,_,_,_,_,ar01,ar12,_,hzpl,_,_,_,_,_,_,_,_,hT⟩:=Qca
 repeat' (first
  | refine go1 ?_|exact go0|refine god ?_|refine gof ?_|refine Qvha ?_ ?_
  | (refine' Qiha Tryz.call207 ?_ ?_;rotate_left;(·intro wc hbc hxc;exact h1 wc hbc))
  | fail)
 all_goals rfl
def opR (n:Nat) (g:Nat->GOper):ORow:=⟨n,5,fun i=>(g i).sc⟩
def rvN (r:GRv):Nat:=if r.k=1 then 1 else if r.k=2\/r.k=3 then 2 else 0
def rvG (r:GRv) (i:Nat):GOper:=if i=0 then r.a else r.b
def Qlea (s:GStmt):Nat:=if s.k=1 then rvN s.r else if s.k=3 then 0 else 1
def stG (s:GStmt) (i:Nat):GOper:=if s.k=1 then rvG s.r i else s.a
theorem Qffa {g:Nat->GOper}:NilLe (opR 0 g):=⟨rfl⟩
theorem Quea {cs:List SC} {g:Nat->GOper} (hl:decide (5<=cs.length)=true) (hf:Qsk cs=true) (hs:Qei cs=true) (h:Qbc (Qte cs (0 * 5) 5) (g 0).sc):BlkLe cs 1 1 (opR 1 g):=by
 refine ⟨rfl,Nat.le_refl _,by decide,of_decide_eq_true hl,hf,hs,fun j hj=>?_⟩
 have hj:j<1:=hj
 obtain rfl:j=0:=by omega
 exact h
theorem Qlga {cs:List SC} {g:Nat->GOper} (hl:decide (10<=cs.length)=true) (hf:Qsk cs=true) (hs:Qei cs=true) (h:Qbc (Qte cs (0 * 5) 5) (g 0).sc) (h':Qbc (Qte cs (1 * 5) 5) (g 1).sc):BlkLe cs 2 2 (opR 2 g):=by
 refine ⟨rfl,Nat.le_refl _,by decide,of_decide_eq_true hl,hf,hs,fun j hj=>?_⟩
 have hj:j<2:=hj
 have hj2:j=0\/j=1:=by omega
 rcases hj2 with rfl|rfl
 · exact h
 · exact h'
theorem Qega {p:Prop} (h:p:=by (first|((try with_reducible refine Q8c ?_ ?_ ?_ ?_);all_goals (cbv;(try simp only[true_and,and_true]);(try ((repeat' apply And.intro)<;>(first|trivial|rfl|exact RowLe.rfl' _|decide|(rw[Qda har _ o9])|((rw[(e0 rfl).1 (of_decide_eq_true y9)];refine Quea rfl rfl rfl ?_;rw[(g1 rfl).1];exact ⟨⟨rfl,rfl⟩,⟨rfl,rfl⟩,⟨rfl,rfl⟩,rfl,⟨rfl,rfl⟩,trivial⟩))|((rw[(e0 rfl).2.1 (by first|exact .inl (of_decide_eq_true y9)|exact .inr (of_decide_eq_true y9))];refine Qlga rfl rfl rfl ?_ ?_;(rw[(g1 rfl).1];exact ⟨⟨rfl,rfl⟩,⟨rfl,rfl⟩,⟨rfl,rfl⟩,rfl,⟨rfl,rfl⟩,trivial⟩);(rw[(g1 rfl).2];exact ⟨⟨rfl,rfl⟩,⟨rfl,rfl⟩,⟨rfl,rfl⟩,rfl,⟨rfl,rfl⟩,trivial⟩)))|((rw[(e0 rfl).2.2 (of_decide_eq_false y9) (of_decide_eq_false y9) (of_decide_eq_false y9)];exact Qffa))|fail))));done)|fail)):Pf p:=⟨h⟩
theorem Qfga {p:Prop} (h:p:=by (first|((try with_reducible refine Q8c ?_ ?_ ?_ ?_);all_goals (cbv;(try simp only[true_and,and_true]);(try ((repeat' apply And.intro)<;>(first|trivial|rfl|exact RowLe.rfl' _|decide|(rw[Qda har _ o9])|((rw[e2 (.inl rfl)];refine Quea rfl rfl rfl ?_;rw[g2 (.inl rfl)];exact ⟨⟨rfl,rfl⟩,⟨rfl,rfl⟩,⟨rfl,rfl⟩,rfl,⟨rfl,rfl⟩,trivial⟩))|fail))));done)|fail)):Pf p:=⟨h⟩
theorem Qgga {p:Prop} (h:p:=by (first|((try with_reducible refine Q8c ?_ ?_ ?_ ?_);all_goals (cbv;(try simp only[true_and,and_true]);(try ((repeat' apply And.intro)<;>(first|trivial|rfl|exact RowLe.rfl' _|decide|(rw[Qda har _ o9])|((rw[e1 rfl];exact Qffa))|fail))));done)|fail)):Pf p:=⟨h⟩
theorem Qhga {p:Prop} (h:p:=by (first|((try with_reducible refine Q8c ?_ ?_ ?_ ?_);all_goals (cbv;(try simp only[true_and,and_true]);(try ((repeat' apply And.intro)<;>(first|trivial|rfl|exact RowLe.rfl' _|decide|(rw[Qda har _ o9])|((rw[e2 (.inr rfl)];refine Quea rfl rfl rfl ?_;rw[g2 (.inr rfl)];exact ⟨⟨rfl,rfl⟩,⟨rfl,rfl⟩,⟨rfl,rfl⟩,rfl,⟨rfl,rfl⟩,trivial⟩))|fail))));done)|fail)):Pf p:=⟨h⟩
theorem Q2ga (F:GFun) (w:World) (hF:F.At w) (hO:F.Ok) (n:Nat) (hn:n<stN F.sn F.bn) (s:GStmt) (hst:stAt F n=s) (hia:Qge F n=true) (hk:s.k=1\/s.k=2\/s.k=3\/s.k=4):
 Calls Tryz.prog 226 #[F.val,.int .i64 (.ofNat n)] w (RetR w (Qwa F) (.pt (.one (.rs 0))) [opR (Qlea s) (stG s)]):=by
 have hS0 wc (hk:KB ⟨w,[]⟩ wc):=Qlz F wc (hF.later hk) hO.small n hn
 rw[hst,hia] at hS0
 have hS wc (hk:KB ⟨w,[]⟩ wc):Calls Tryz.prog 142 #[F.val,.int .i64 (.ofNat n)] wc (Ret wc (.tuple #[s.val,.bool true])):=hS0 wc hk
 clear hS0 hst hia hn hO
 obtain ⟨R,hR⟩:=x9 (opR (Qlea s) (stG s))
 rw[<-hR]
 have e0:s.k=1->(s.r.k=1->R=opR 1 (stG s))/\(s.r.k=2\/s.r.k=3->R=opR 2 (stG s))/\(¬s.r.k=1->¬s.r.k=2->¬s.r.k=3->R=opR 0 (stG s)):=fun h=>by
  refine ⟨fun g=>?_,fun g=>?_,fun g1 g2 g3=>?_⟩
  · rw[hR];simp only[Qlea,rvN,if_pos h,if_pos g]
  · rw[hR];simp only[Qlea,rvN,if_pos h,if_pos g];rw[if_neg o9]
  · rw[hR];simp only[Qlea,rvN,if_pos h,if_neg g1];rw[if_neg o9]
 have e1:s.k=3->R=opR 0 (stG s):=fun h=>by rw[hR];simp[Qlea,h]
 have e2:s.k=2\/s.k=4->R=opR 1 (stG s):=fun h=>by rw[hR];simp only[Qlea];rw[if_neg o9,if_neg o9]
 have g1:s.k=1->(stG s 0)=s.r.a/\(stG s 1)=s.r.b:=fun h=>by simp[stG,rvG,h]
 have g2:s.k=2\/s.k=4->(stG s 0)=s.a:=fun h=>by simp only[stG];rw[if_neg o9]
 obtain ⟨g,hg⟩:=x9 (stG s)
 rw[<-hg] at e0 e1 e2 g1 g2
 clear hR hg
 obtain ⟨yk,⟨ql,qd,qf⟩,⟨rk,ro,rb,⟨ak,an,⟨al,ad,af⟩⟩,⟨ek,en,⟨el,ed,ef⟩⟩,⟨gl,gd,gf⟩⟩,⟨ck,cn,⟨cl,cd,cf⟩⟩,yl⟩:=s
 obtain ⟨_,_,_,ln,_,_,_,_,bn,_,_,sn,sc,s,_,jn,_,ja,jk,jo,_,_,_,_⟩:=F
 obtain ⟨hX,hl,hb,hs,hj⟩:=hF
 simp only at hl hb hs hj
 simp only at hk e0 e1 e2 g1 g2
 rcases hk with rfl|rfl|rfl|rfl
 · skip
   refine Qaa (args:=[.pt (.agg (GFun.dat _)),.pt (.one (.int .i64 (.ofNat n)))]) (c:=(Qwa _)) Tryz.func226 rfl hX rfl rfl ?_
   obtain ⟨_,_,_,hnt,_,har,_,hcm,_,_,_,_,ar01,ar12,_,hzpl,_,_,_,_,_,_,_,_,hT⟩:=Qca
   repeat' (first
    | refine goa ?_|refine go2 (fun h=>?_) (fun h=>?_)
    | exact gor (ha:=Qega) (hb:=Qega)
    | (refine' Qiha Tryz.call142 ?_ ?_;rotate_left;(·intro wc hbc hxc;exact hS wc hbc))
    | refine Qhha Tryz.func132 Tryz.results132 Tryz.call132 ?_
    | fail)
 · skip
   refine Qaa (args:=[.pt (.agg (GFun.dat _)),.pt (.one (.int .i64 (.ofNat n)))]) (c:=(Qwa _)) Tryz.func226 rfl hX rfl rfl ?_
   obtain ⟨_,_,_,hnt,_,har,_,hcm,_,_,_,_,ar01,ar12,_,hzpl,_,_,_,_,_,_,_,_,hT⟩:=Qca
   repeat' (first
    | refine goa ?_
    | exact gor (ha:=Qfga) (hb:=Qfga)
    | (refine' Qiha Tryz.call142 ?_ ?_;rotate_left;(·intro wc hbc hxc;exact hS wc hbc))
    | fail)
 · skip
   refine Qaa (args:=[.pt (.agg (GFun.dat _)),.pt (.one (.int .i64 (.ofNat n)))]) (c:=(Qwa _)) Tryz.func226 rfl hX rfl rfl ?_
   obtain ⟨_,_,_,hnt,_,har,_,hcm,_,_,_,_,ar01,ar12,_,hzpl,_,_,_,_,_,_,_,_,hT⟩:=Qca
   repeat' (first
    | refine goa ?_
    | exact gor (ha:=Qgga) (hb:=Qgga)
    | (refine' Qiha Tryz.call142 ?_ ?_;rotate_left;(·intro wc hbc hxc;exact hS wc hbc))
    | fail)
 · skip
   refine Qaa (args:=[.pt (.agg (GFun.dat _)),.pt (.one (.int .i64 (.ofNat n)))]) (c:=(Qwa _)) Tryz.func226 rfl hX rfl rfl ?_
   obtain ⟨_,_,_,hnt,_,har,_,hcm,_,_,_,_,ar01,ar12,_,hzpl,_,_,_,_,_,_,_,_,hT⟩:=Qca
   repeat' (first
    | refine goa ?_
    | exact gor (ha:=Qhga) (hb:=Qhga)
    | (refine' Qiha Tryz.call142 ?_ ?_;rotate_left;(·intro wc hbc hxc;exact hS wc hbc))
    | fail)
theorem Qjga {F:GFun} {n:Nat} (h:Qge F n=true):stAt F n=F.s (pbN F n) (piN F n):=by
 unfold Qge at h
 unfold stAt
 rw[if_pos (of_decide_eq_true h)]
theorem Qiga {p:Prop} (h:p:=by (first|((try with_reducible refine Q8c ?_ ?_ ?_ ?_);all_goals (cbv;(try simp only[true_and,and_true]);(try ((repeat' apply And.intro)<;>(first|trivial|rfl|exact RowLe.rfl' _|decide|(rw[Qda har _ o9])|((rw[hR];refine Quea rfl rfl rfl ?_;exact ⟨⟨rfl,rfl⟩,⟨rfl,rfl⟩,⟨rfl,rfl⟩,rfl,⟨rfl,rfl⟩,trivial⟩))|fail))));done)|fail)):Pf p:=⟨h⟩
theorem Q1ga (F:GFun) (w:World) (hF:F.At w) (hO:F.Ok) (n:Nat) (hn:n<stN F.sn F.bn) (hia:Qge F n=false):
 (F.jk (pbN F n)=2->Calls Tryz.prog 226 #[F.val,.int .i64 (.ofNat n)] w (RetR w (Qwa F) (.pt (.one (.rs 0))) [opR 1 (fun _=>F.jo (pbN F n))]))/\
 (F.jk (pbN F n)≠2->Calls Tryz.prog 226 #[F.val,.int .i64 (.ofNat n)] w (RetR w (Qwa F) (.pt (.one (.xs 3 (pbN F n)))) [])):=by
 have hS0 wc (hk:KB ⟨w,[]⟩ wc):=Qlz F wc (hF.later hk) hO.small n hn
 rw[hia] at hS0
 have h1 wc (hk:KB ⟨w,[]⟩ wc):=Qsy F wc (hF.later hk) hO.small n hn
 have hpb:=(Qoc hn).1
 obtain ⟨s,hs'⟩:=x9 (stAt F n)
 rw[<-hs'] at hS0
 have hS wc (hk:KB ⟨w,[]⟩ wc):Calls Tryz.prog 142 #[F.val,.int .i64 (.ofNat n)] wc (Ret wc (.tuple #[s.val,.bool false])):=hS0 wc hk
 obtain ⟨pb,hb'⟩:=x9 (pbN F n)
 rw[<-hb'] at h1 hpb⊢
 clear hb' hS0 hs' hia hn hO
 obtain ⟨yk,⟨ql,qd,qf⟩,⟨rk,ro,rb,⟨ak,an,⟨al,ad,af⟩⟩,⟨ek,en,⟨el,ed,ef⟩⟩,⟨gl,gd,gf⟩⟩,⟨ck,cn,⟨cl,cd,cf⟩⟩,yl⟩:=s
 refine ⟨fun h2=>?_,fun h2=>?_⟩
 · obtain ⟨R,hR⟩:=x9 (opR 1 (fun _=>F.jo pb))
   rw[<-hR]
   obtain ⟨pa,un,lA,ln,lc,lk,lt,bA,bn,bc,sA,sn,sc,s,jA,jn,jc,ja,jk,jo,jf,jx,je,jd⟩:=F
   obtain ⟨hX,hl,hb,hs,hj⟩:=hF
   simp only at hl hb hs hj
   simp only at hpb h2 hR
   have q2:decide (jk pb=2)=true:=decide_eq_true h2
   refine Qaa (args:=[.pt (.agg (GFun.dat _)),.pt (.one (.int .i64 (.ofNat n)))]) (c:=(Qwa _)) Tryz.func226 rfl hX rfl rfl ?_
   obtain ⟨_,_,_,hnt,_,har,_,hcm,_,_,_,_,ar01,ar12,_,hzpl,_,_,_,_,_,_,_,_,hT⟩:=Qca
   repeat' (first
    | refine goa ?_|exact go0|refine god ?_|refine gof ?_|refine Qvha ?_ ?_
    | exact gor (ha:=Qiga) (hb:=Qiga)
    | (refine' Qiha Tryz.call142 ?_ ?_;rotate_left;(·intro wc hbc hxc;exact hS wc hbc))
    | refine Qhha Tryz.func228 Tryz.results228 Tryz.call228 ?_
    | refine Qhha Tryz.func191 Tryz.results191 Tryz.call191 ?_
    | (refine' Qiha Tryz.call207 ?_ ?_;rotate_left;(·intro wc hbc hxc;exact h1 wc hbc))
    | fail)
 · skip
   obtain ⟨pa,un,lA,ln,lc,lk,lt,bA,bn,bc,sA,sn,sc,s,jA,jn,jc,ja,jk,jo,jf,jx,je,jd⟩:=F
   obtain ⟨hX,hl,hb,hs,hj⟩:=hF
   simp only at hl hb hs hj
   simp only at hpb h2
   have q2:decide (jk pb=2)=false:=decide_eq_false h2
   refine Qaa (args:=[.pt (.agg (GFun.dat _)),.pt (.one (.int .i64 (.ofNat n)))]) (c:=(Qwa _)) Tryz.func226 rfl hX rfl rfl ?_
   obtain ⟨_,_,_,hnt,_,har,_,hcm,_,_,_,_,ar01,ar12,_,hzpl,_,_,_,_,_,_,_,_,hT⟩:=Qca
   repeat' (first
    | refine goa ?_|exact go0|refine god ?_|refine gof ?_|refine Qvha ?_ ?_
    | (refine' Qiha Tryz.call142 ?_ ?_;rotate_left;(·intro wc hbc hxc;exact hS wc hbc))
    | refine Qhha Tryz.func228 Tryz.results228 Tryz.call228 ?_
    | refine Qhha Tryz.func191 Tryz.results191 Tryz.call191 ?_
    | (refine' Qiha Tryz.call207 ?_ ?_;rotate_left;(·intro wc hbc hxc;exact h1 wc hbc))
    | fail)
def tgP (F:GFun) (n:Nat):GPlace:=if Qge F n then (stAt F n).p else F.jd (pbN F n)
def tgW (F:GFun) (n:Nat):Bool:=if Qge F n then decide ((stAt F n).k=1) else decide (F.jk (pbN F n)=4)
theorem Qjfa (F:GFun) (w:World) (hF:F.At w) (hO:F.Ok) (n:Nat) (hn:n<stN F.sn F.bn):
 Calls Tryz.prog 227 #[F.val,.int .i64 (.ofNat n)] w (Ret w (.tuple #[.agg #[.int .i64 (tgP F n).l,.bool (tgP F n).d,.int .u8 (tgP F n).f],.bool (tgW F n)])):=by
 have hS0 wc (hk:KB ⟨w,[]⟩ wc):=Qlz F wc (hF.later hk) hO.small n hn
 have h1 wc (hk:KB ⟨w,[]⟩ wc):=Qb3 F wc (hF.later hk) hO.small n hn
 unfold tgP tgW
 obtain ⟨s,hs'⟩:=x9 (stAt F n)
 rw[<-hs'] at hS0⊢
 obtain ⟨ia,hi'⟩:=x9 (Qge F n)
 rw[<-hi'] at hS0⊢
 have hS wc (hk:KB ⟨w,[]⟩ wc):Calls Tryz.prog 142 #[F.val,.int .i64 (.ofNat n)] wc (Ret wc (.tuple #[s.val,.bool ia])):=hS0 wc hk
 obtain ⟨pb,hb'⟩:=x9 (pbN F n)
 rw[<-hb'] at h1⊢
 clear hb' hS0 hs' hi' hn hO
 obtain ⟨yk,⟨ql,qd,qf⟩,⟨rk,ro,rb,⟨ak,an,⟨al,ad,af⟩⟩,⟨ek,en,⟨el,ed,ef⟩⟩,⟨gl,gd,gf⟩⟩,⟨ck,cn,⟨cl,cd,cf⟩⟩,yl⟩:=s
 cases ia
 all_goals
  simp only[Bool.false_eq_true,if_false,if_true]
  obtain ⟨_,_,_,ln,_,_,_,_,bn,_,_,sn,sc,s,_,jn,_,ja,jk,jo,_,_,_,_⟩:=F
  obtain ⟨hX,hl,hb,hs,hj⟩:=hF
  simp only at hl hb hs hj
  refine Qaa (args:=[.pt (.agg (GFun.dat _)),.pt (.one (.int .i64 (.ofNat n)))]) (c:=(Qwa _)) Tryz.func227 rfl hX rfl rfl ?_
  obtain ⟨_,_,_,hnt,_,har,_,hcm,_,_,_,_,ar01,ar12,_,hzpl,_,_,_,_,_,_,_,_,hT⟩:=Qca
  repeat' (first
   | refine goa ?_|exact go0|refine god ?_|refine gof ?_|refine Qvha ?_ ?_
   | (refine' Qiha Tryz.call142 ?_ ?_;rotate_left;(·intro wc hbc hxc;exact hS wc hbc))
   | (refine' Qiha Tryz.call228 ?_ ?_;rotate_left;(·intro wc hbc hxc;exact h1 wc hbc))
   | fail)
  all_goals rfl
end Go.Proofs.YtemnfncbgalljaaGreat
