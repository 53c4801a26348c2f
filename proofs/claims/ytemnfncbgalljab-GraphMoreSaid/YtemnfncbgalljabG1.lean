/- Lemmas. No condition. -/
import Derived.Test.YtemnfncbgalljabN6
namespace Go.Proofs.Ytemnfncbgalljab
open Go.RowKit
set_option linter.all false
set_option maxHeartbeats 64000000
def Q09 (L:List Int):ORow:=⟨L.length,1,fun j=>[.int .i64 (L.getD j 0)]⟩
def Q6z (F:GFun) (b:Nat):Value:=.agg #[.int .u8 (F.jk b),.int .u8 (F.jo b).k,.int .i64 (F.jo b).n,.int .i64 (F.jo b).p.l,.bool (F.jo b).p.d,.int .u8 (F.jo b).p.f,.int .i64 (F.jf b),.int .i64 (F.jx b),.int .i64 (F.je b),.slice (F.jA b) (F.jn b) (F.jc b),.int .i64 (F.jd b).l,.bool (F.jd b).d,.int .u8 (F.jd b).f]
theorem Q5i {F:GFun} {b:Nat} (h:F.jk b=3\/F.jk b=5):(F.jump b).leads=[]:=by
 unfold GJump.leads GFun.jump
 rw[if_pos (by rcases h with h|h<;>simp[h])]
theorem Q3k {F:GFun} {b:Nat} (h:F.jk b=2) (h2:F.jx b≠F.je b):(F.jump b).leads=[F.jx b,F.je b]:=by
 unfold GJump.leads GFun.jump
 rw[if_neg (by simp[h]),if_pos (by simp[h];exact fun g=>h2 g.symm)]
theorem Q2k {F:GFun} {b:Nat} (h:¬(F.jk b=3\/F.jk b=5)) (h2:¬(F.jk b=2/\F.jx b≠F.je b)):(F.jump b).leads=[F.jx b]:=by
 unfold GJump.leads GFun.jump
 rw[if_neg (by simpa using h),if_neg (by simp;exact fun g=>Classical.byContradiction fun e=>h2 ⟨g,fun g'=>e g'.symm⟩)]
theorem Qs3 {p:Prop} (h:p:=by (first|((try with_reducible refine Q8c ?_ ?_ ?_ ?_);all_goals (cbv;(try simp only[true_and,and_true]);(try ((repeat' apply And.intro)<;>(first|trivial|rfl|exact RowLe.rfl' _|decide|(rw[Qda har _ o9])|((exact ⟨rfl⟩))|fail))));done)|fail)):Pf p:=⟨h⟩
theorem Qt3 {p:Prop} (h:p:=by (first|((try with_reducible refine Q8c ?_ ?_ ?_ ?_);all_goals (cbv;(try simp only[true_and,and_true]);(try ((repeat' apply And.intro)<;>(first|trivial|rfl|exact RowLe.rfl' _|decide|(rw[Qda har _ o9])|((refine ⟨rfl,Nat.le_of_ble_eq_true rfl,Nat.le_of_ble_eq_true rfl,Nat.le_of_ble_eq_true rfl,rfl,rfl,fun j hj=>?_⟩;have hj2:j=0\/j=1:=(by have hj':j<2:=hj;omega);rcases hj2 with rfl|rfl<;>exact ⟨⟨rfl,rfl⟩,trivial⟩))|fail))));done)|fail)):Pf p:=⟨h⟩
theorem Qu3 {p:Prop} (h:p:=by (first|((try with_reducible refine Q8c ?_ ?_ ?_ ?_);all_goals (cbv;(try simp only[true_and,and_true]);(try ((repeat' apply And.intro)<;>(first|trivial|rfl|exact RowLe.rfl' _|decide|(rw[Qda har _ o9])|((refine ⟨rfl,Nat.le_of_ble_eq_true rfl,Nat.le_of_ble_eq_true rfl,Nat.le_of_ble_eq_true rfl,rfl,rfl,fun j hj=>?_⟩;have hj2:j=0:=(by have hj':j<1:=hj;omega);subst hj2;exact ⟨⟨rfl,rfl⟩,trivial⟩))|fail))));done)|fail)):Pf p:=⟨h⟩
theorem Q61 (F:GFun) (w:World) (hF:F.At w) (b:Nat) (hok:(F.jump b).ok=true):
 Calls Try.prog 36 #[Q6z F b] w (RetR w (Qwa F) (.tup [.one (.rs 0),.one (.int .i64 0)]) [Q09 (F.jump b).leads]):=by
 have hXk wc (hk:KB ⟨w,[]⟩ wc) (b:Nat):=Qa4 (hF.later hk).ok b
 have h1 wc (hk:KB ⟨w,[]⟩ wc):=Qwn (F.jk b) (F.jf b) (F.jx b) (F.je b) (F.jo b).k (F.jo b).n (F.jo b).p.l (F.jo b).p.f (F.jd b).l (F.jd b).f (F.jo b).p.d (F.jd b).d (F.jA b) (F.jn b) (F.jc b) (F.ja b) wc (by unfold maxLen;exact hF.j b) (hXk wc hk b)
 have e:(GJump.mk (F.jk b) ⟨(F.jo b).k,(F.jo b).n,⟨(F.jo b).p.l,(F.jo b).p.d,(F.jo b).p.f⟩⟩ (F.jf b) (F.jx b) (F.je b) (Q8j (F.jn b) (F.ja b)) ⟨(F.jd b).l,(F.jd b).d,(F.jd b).f⟩).ok=true:=hok
 rw[e] at h1
 clear e hok hXk
 by_cases h35:F.jk b=3\/F.jk b=5
 · rw[Q5i h35]
   obtain ⟨pa,un,lA,ln,lc,lk,lt,bA,bn,bc,sA,sn,sc,s,jA,jn,jc,ja,jk,jo,jf,jx,je,jd⟩:=F
   obtain ⟨hX,hl,hb,hs,hj⟩:=hF
   simp only at hl hb hs hj
   simp only at h35 h1
   refine Qaa (args:=[.pt (.agg [.int .u8 (jk b),.int .u8 (jo b).k,.int .i64 (jo b).n,.int .i64 (jo b).p.l,.bool (jo b).p.d,.int .u8 (jo b).p.f,.int .i64 (jf b),.int .i64 (jx b),.int .i64 (je b),.xs 3 b,.int .i64 (jd b).l,.bool (jd b).d,.int .u8 (jd b).f])]) (c:=(Qwa _)) Try.func36 rfl hX rfl rfl ?_
   obtain ⟨_,_,_,hnt,_,har,_,hcm,_,_,_,_,ar01,ar12,_,hzpl,_,_,_,_,_,_,_,_,hT⟩:=Qca
   have q1:decide (jk b=3)=true\/decide (jk b=5)=true:=h35.imp decide_eq_true decide_eq_true
   repeat' (first
    | refine goa ?_|refine go2 (fun h=>?_) (fun h=>?_)
    | exact gor (ha:=Qs3) (hb:=Qs3)
    | (refine' Qiha Try.call54 ?_ ?_;rotate_left;(·intro wc hbc hxc;exact h1 wc hbc))
    | fail)
   all_goals (exfalso;rcases q1 with q|q<;>simp_all)
 by_cases h2:F.jk b=2/\F.jx b≠F.je b
 · rw[Q3k h2.1 h2.2]
   obtain ⟨pa,un,lA,ln,lc,lk,lt,bA,bn,bc,sA,sn,sc,s,jA,jn,jc,ja,jk,jo,jf,jx,je,jd⟩:=F
   obtain ⟨hX,hl,hb,hs,hj⟩:=hF
   simp only at hl hb hs hj
   simp only at h35 h2 h1
   refine Qaa (args:=[.pt (.agg [.int .u8 (jk b),.int .u8 (jo b).k,.int .i64 (jo b).n,.int .i64 (jo b).p.l,.bool (jo b).p.d,.int .u8 (jo b).p.f,.int .i64 (jf b),.int .i64 (jx b),.int .i64 (je b),.xs 3 b,.int .i64 (jd b).l,.bool (jd b).d,.int .u8 (jd b).f])]) (c:=(Qwa _)) Try.func36 rfl hX rfl rfl ?_
   obtain ⟨_,_,_,hnt,_,har,_,hcm,_,_,_,_,ar01,ar12,_,hzpl,_,_,_,_,_,_,_,_,hT⟩:=Qca
   have q1:decide (jk b=3)=false:=decide_eq_false o9
   have q2:decide (jk b=5)=false:=decide_eq_false o9
   have q3:decide (jk b=2)=true:=decide_eq_true h2.1
   have q4:decide (jx b=je b)=false:=decide_eq_false h2.2
   repeat' (first
    | refine goa ?_
    | exact gor (ha:=Qt3) (hb:=Qt3)
    | (refine' Qiha Try.call54 ?_ ?_;rotate_left;(·intro wc hbc hxc;exact h1 wc hbc))
    | fail)
 · rw[Q2k h35 h2]
   obtain ⟨pa,un,lA,ln,lc,lk,lt,bA,bn,bc,sA,sn,sc,s,jA,jn,jc,ja,jk,jo,jf,jx,je,jd⟩:=F
   obtain ⟨hX,hl,hb,hs,hj⟩:=hF
   simp only at hl hb hs hj
   simp only at h35 h2 h1
   refine Qaa (args:=[.pt (.agg [.int .u8 (jk b),.int .u8 (jo b).k,.int .i64 (jo b).n,.int .i64 (jo b).p.l,.bool (jo b).p.d,.int .u8 (jo b).p.f,.int .i64 (jf b),.int .i64 (jx b),.int .i64 (je b),.xs 3 b,.int .i64 (jd b).l,.bool (jd b).d,.int .u8 (jd b).f])]) (c:=(Qwa _)) Try.func36 rfl hX rfl rfl ?_
   obtain ⟨_,_,_,hnt,_,har,_,hcm,_,_,_,_,ar01,ar12,_,hzpl,_,_,_,_,_,_,_,_,hT⟩:=Qca
   have q1:decide (jk b=3)=false:=decide_eq_false o9
   have q2:decide (jk b=5)=false:=decide_eq_false o9
   repeat' (first
    | refine goa ?_|refine go2 (fun h=>?_) (fun h=>?_)
    | exact gor (ha:=Qu3) (hb:=Qu3)
    | (refine' Qiha Try.call54 ?_ ?_;rotate_left;(·intro wc hbc hxc;exact h1 wc hbc))
    | fail)
   all_goals (exfalso;have q3:=not_and.1 h2 (of_decide_eq_true y9);exact q3 (of_decide_eq_false y9))
section
set_option maxRecDepth 100000
theorem Q2m (w:World) (n:Int) (h:n=0\/n=1\/n=2):Calls Try.prog 83 #[.int .u64 n] w (Ret w (.int .i64 n)):=by
 rcases h with rfl|rfl|rfl
 all_goals
  go_enter Try.func83,Try.ntmps83
  go_wp2
  all_goals (go_ret;exact ⟨Qf3 (Qyc (by kernel_rfl)),Below.refl _ _⟩)
theorem Qlaa (x y:Int) (w:World):
 Calls Try.prog 98 #[.int .i64 x,.int .i64 y] w (Ret w (.bool (decide (x<y)))):=by
 refine Qaa (args:=[.pt (.one (.int .i64 x)),.pt (.one (.int .i64 y))]) (c:=Qra) Try.func98 rfl (Qga _) rfl rfl ?_
 obtain ⟨_,hnd,_,hnt,_,har,_,hcm,_,_,_,_,ar01,ar12,_,hzpl,_,_,_,_,_,_,_,_,hT⟩:=Qca
 repeat' (first
  | refine goa ?_
  | refine Qhha Try.func111 Try.results111 Try.call111 ?_
  | fail)
 all_goals (refine Qtb ?_;subst hnd hnt hcm;simp_all[rCm])
def Qdo:List Int->List Int
 | [x,y]=>if y<x then [y,x] else [x,y]
 | l=>l
def Qgd (F:GFun) (b i:Nat):List (Nat×Nat):=if i<F.sn b then [(b,i+1)] else (Qdo (F.jump b).leads).map fun n=>(n.toNat,0)
theorem Qv3 {p:Prop} (h:p:=by (first|((try with_reducible refine Q8c ?_ ?_ ?_ ?_);all_goals (cbv;(try simp only[true_and,and_true]);(try ((repeat' apply And.intro)<;>(first|trivial|rfl|exact RowLe.rfl' _|decide|(rw[Qda har _ o9];done)|((refine ⟨rfl,Nat.le_of_ble_eq_true rfl,Nat.le_of_ble_eq_true rfl,Nat.le_of_ble_eq_true rfl,rfl,rfl,fun j hj=>?_⟩;have hj2:j=0:=(by have hj':j<1:=hj;omega);subst hj2;rw[q2];exact ⟨⟨rfl,rfl⟩,⟨rfl,rfl⟩,trivial⟩))|fail))));done)|fail)):Pf p:=⟨h⟩
theorem Qw3 {p:Prop} (h:p:=by (first|((try with_reducible refine Q8c ?_ ?_ ?_ ?_);all_goals (cbv;(try simp only[true_and,and_true]);(try ((repeat' apply And.intro)<;>(first|trivial|rfl|exact RowLe.rfl' _|decide|(rw[Qda har _ o9];done)|((exact ⟨rfl⟩))|fail))));done)|fail)):Pf p:=⟨h⟩
theorem Qx3 {p:Prop} (h:p:=by (first|((try with_reducible refine Q8c ?_ ?_ ?_ ?_);all_goals (cbv;(try simp only[true_and,and_true]);(try ((repeat' apply And.intro)<;>(first|trivial|rfl|exact RowLe.rfl' _|decide|(rw[Qda har _ o9];done)|((refine Q0a rfl (fun j hj=>?_);have hj2:j=0:=(by have hj':j<1:=hj;omega);subst hj2;exact ⟨⟨rfl,rfl⟩,⟨rfl,rfl⟩,trivial⟩))|fail))));done)|fail)):Pf p:=⟨h⟩
theorem Qy3 {p:Prop} (h:p:=by (first|((try with_reducible refine Q8c ?_ ?_ ?_ ?_);all_goals (cbv;(try simp only[true_and,and_true]);(try ((repeat' apply And.intro)<;>(first|trivial|rfl|exact RowLe.rfl' _|decide|(rw[Qda har _ o9];done)|((exact hjn _ _ _ ⟨⟨rfl,rfl⟩,⟨rfl,rfl⟩,trivial⟩ ⟨⟨rfl,rfl⟩,⟨rfl,rfl⟩,trivial⟩))|fail))));done)|fail)):Pf p:=⟨h⟩
theorem Qoaa (F:GFun) (w:World) (hF:F.At w) (hO:F.Ok) (b i:Nat) (hbb:b<F.bn) (hii:i<=F.sn b):
 Calls Try.prog 47 #[F.val,.agg #[.int .i64 (.ofNat b),.int .i64 (.ofNat i)]] w (RetR w (Qwa F) (.pt (.one (.rs 0))) [ptR (Qgd F b i)]):=by
 have h1 wc (hk:KB ⟨w,[]⟩ wc):=Q61 F wc (hF.later hk) b (hO.okJ hbb)
 have hld:=fun n hn=>hO.lead hbb (n:=n) hn
 have hs24:=hO.sn24 hbb
 by_cases hi:i<F.sn b
 · have e:Qgd F b i=[(b,i+1)]:=by rw[Qgd,if_pos hi]
   rw[e]
   clear e h1 hld hO
   obtain ⟨pa,un,lA,ln,lc,lk,lt,bA,bn,bc,sA,sn,sc,s,jA,jn,jc,ja,jk,jo,jf,jx,je,jd⟩:=F
   obtain ⟨hX,hl,hb,hs,hj⟩:=hF
   simp only at hl hb hs hj
   simp only at hi hs24 hbb
   refine Qaa (args:=[.pt (.agg (GFun.dat _)),.pt (.agg [.int .i64 (.ofNat b),.int .i64 (.ofNat i)])]) (c:=(Qwa _)) Try.func47 rfl hX rfl rfl ?_
   obtain ⟨_,_,_,hnt,ar,har,cm,hcm,_,_,_,_,ar01,ar12,zpl,hzpl,zjn,hzjn,_,hzup,_,_,_,_,hT⟩:=Qca
   have q1:cm .lss (.ofNat i) (.ofNat (sn b))=true:=by rw[hcm];exact decide_eq_true (Int.ofNat_lt.2 hi)
   have q2:ar .add .i64 (.ofNat i) 1=.ofNat (i+1):=Qda har _ o9
   repeat' (first
    | refine goa ?_|refine gof ?_
    | exact gor (ha:=Qv3) (hb:=Qv3)
    | fail)
 obtain rfl:i=F.sn b:=by omega
 have e:Qgd F b (F.sn b)=(Qdo (F.jump b).leads).map fun n=>(n.toNat,0):=by rw[Qgd,if_neg o9]
 rw[e]
 clear e
 have key:∀n,n∈(F.jump b).leads->∃m:Nat,n=.ofNat m/\m<F.bn:=fun n hn=>by
  have:=hld n hn
  exact ⟨n.toNat,by simp only[Int.ofNat_eq_natCast];omega,by omega⟩
 have hcase:(F.jump b).leads=[]\/(∃x:Nat,(F.jump b).leads=[.ofNat x])\/∃x y:Nat,(F.jump b).leads=[.ofNat x,.ofNat y]:=by
  by_cases h35:F.jk b=3\/F.jk b=5
  · exact .inl (Q5i h35)
  by_cases h2:F.jk b=2/\F.jx b≠F.je b
  · have e:=Q3k h2.1 h2.2
    obtain ⟨x,hx,_⟩:=key (F.jx b) (by rw[e];simp)
    obtain ⟨y,hy,_⟩:=key (F.je b) (by rw[e];simp)
    exact .inr (.inr ⟨x,y,by rw[e,hx,hy]⟩)
  · have e:=Q2k h35 h2
    obtain ⟨x,hx,_⟩:=key (F.jx b) (by rw[e];simp)
    exact .inr (.inl ⟨x,by rw[e,hx]⟩)
 clear key hld hO
 rcases hcase with hL|⟨x,hL⟩|⟨x,y,hL⟩
 · rw[hL] at h1⊢
   clear hL
   obtain ⟨pa,un,lA,ln,lc,lk,lt,bA,bn,bc,sA,sn,sc,s,jA,jn,jc,ja,jk,jo,jf,jx,je,jd⟩:=F
   obtain ⟨hX,hl,hb,hs,hj⟩:=hF
   simp only at hl hb hs hj
   simp only at hs24 hbb h1
   refine Qaa (args:=[.pt (.agg (GFun.dat _)),.pt (.agg [.int .i64 (.ofNat b),.int .i64 (.ofNat (sn b))])]) (c:=(Qwa _)) Try.func47 rfl hX rfl rfl ?_
   obtain ⟨_,_,_,hnt,ar,har,cm,hcm,_,_,_,_,ar01,ar12,zpl,hzpl,zjn,hzjn,_,hzup,_,_,_,_,hT⟩:=Qca
   have q1:cm .lss (.ofNat (sn b)) (.ofNat (sn b))=false:=by rw[hcm];exact decide_eq_false (Int.lt_irrefl _)
   have s00:ar .sub .i64 (.ofNat 0) 0=0:=by rw[har];decide
   have c0:ar .quo .u64 (.ofNat 0) 0=0:=by rw[har];decide
   subst hzup
   repeat' (first
    | (refine gov ?_;(try simp only[ar01,ar12,s00,c0]))
    | refine goa ?_|refine gof ?_
    | exact gor (ha:=Qw3) (hb:=Qw3)
    | ((with_reducible apply Qoa (hf:=Try.call36));(·intro S;cbv;try rfl);(·intro wc S hbc hxc hrc;exact h1 wc hbc);(·rfl))
    | refine Qhha Try.func63 Try.results63 Try.call63 ?_
    | refine Qhha Try.func82 Try.results82 Try.call82 ?_
    | refine Qhha Try.func92 Try.results92 Try.call92 ?_
    | (refine' Qiha Try.call83 ?_ ?_;rotate_left;(·intro wc hbc hxc;exact Q2m wc _ (.inl rfl)))
    | (with_reducible apply Qqa 3)
    | fail)
 · rw[hL] at h1⊢
   clear hL
   obtain ⟨pa,un,lA,ln,lc,lk,lt,bA,bn,bc,sA,sn,sc,s,jA,jn,jc,ja,jk,jo,jf,jx,je,jd⟩:=F
   obtain ⟨hX,hl,hb,hs,hj⟩:=hF
   simp only at hl hb hs hj
   simp only at hs24 hbb h1
   refine Qaa (args:=[.pt (.agg (GFun.dat _)),.pt (.agg [.int .i64 (.ofNat b),.int .i64 (.ofNat (sn b))])]) (c:=(Qwa _)) Try.func47 rfl hX rfl rfl ?_
   obtain ⟨_,_,_,hnt,ar,har,cm,hcm,_,_,_,_,ar01,ar12,zpl,hzpl,zjn,hzjn,_,hzup,_,_,_,_,hT⟩:=Qca
   have q1:cm .lss (.ofNat (sn b)) (.ofNat (sn b))=false:=by rw[hcm];exact decide_eq_false (Int.lt_irrefl _)
   have s10:ar .sub .i64 (.ofNat 1) 0=1:=by rw[har];decide
   have c1:ar .quo .u64 (.ofNat 1) 0=1:=by rw[har];decide
   subst hzup
   repeat' (first
    | (refine gov ?_;(try simp only[ar01,ar12,s10,c1]))
    | refine goa ?_|refine gof ?_|refine gob ?_
    | exact gor (ha:=Qx3) (hb:=Qx3)
    | ((with_reducible apply Qoa (hf:=Try.call36));(·intro S;cbv;try rfl);(·intro wc S hbc hxc hrc;exact h1 wc hbc);(·rfl))
    | refine Qhha Try.func63 Try.results63 Try.call63 ?_
    | refine Qhha Try.func82 Try.results82 Try.call82 ?_
    | refine Qhha Try.func92 Try.results92 Try.call92 ?_
    | (refine' Qiha Try.call83 ?_ ?_;rotate_left;(·intro wc hbc hxc;exact Q2m wc _ (.inr (.inl rfl))))
    | (with_reducible apply Qqa 3)
    | fail)
 · rw[hL] at h1⊢
   clear hL
   obtain ⟨pa,un,lA,ln,lc,lk,lt,bA,bn,bc,sA,sn,sc,s,jA,jn,jc,ja,jk,jo,jf,jx,je,jd⟩:=F
   obtain ⟨hX,hl,hb,hs,hj⟩:=hF
   simp only at hl hb hs hj
   simp only at hs24 hbb h1
   obtain ⟨u,v,huv,hz⟩:∃u v:Nat,(Qdo [Int.ofNat x,Int.ofNat y]).map (fun n=>(n.toNat,0))=[(u,0),(v,0)]/\((decide ((y:Int)<x)=true/\u=y/\v=x)\/(decide ((y:Int)<x)=false/\u=x/\v=y)):=by
    by_cases g:(y:Int)<x
    · exact ⟨y,x,by simp only[Qdo,Int.ofNat_eq_natCast,if_pos g];rfl,.inl ⟨decide_eq_true g,rfl,rfl⟩⟩
    · exact ⟨x,y,by simp only[Qdo,Int.ofNat_eq_natCast,if_neg g];rfl,.inr ⟨decide_eq_false g,rfl,rfl⟩⟩
   rw[huv]
   clear huv
   refine Qaa (args:=[.pt (.agg (GFun.dat _)),.pt (.agg [.int .i64 (.ofNat b),.int .i64 (.ofNat (sn b))])]) (c:=(Qwa _)) Try.func47 rfl hX rfl rfl ?_
   obtain ⟨_,_,_,hnt,ar,har,cm,hcm,_,_,_,_,ar01,ar12,zpl,hzpl,zjn,hzjn,_,hzup,_,_,_,_,hT⟩:=Qca
   have q1:cm .lss (.ofNat (sn b)) (.ofNat (sn b))=false:=by rw[hcm];exact decide_eq_false (Int.lt_irrefl _)
   have s20:ar .sub .i64 (.ofNat 2) 0=2:=by rw[har];decide
   have s11:ar .sub .i64 1 1=0:=by rw[har];decide
   have c2:ar .quo .u64 (.ofNat 2) 0=2:=by rw[har];decide
   have hjn:∀f g h:Nat->List SC,Qbc (f 0) (h 0)->Qbc (g 0) (h 1)->RowLe ⟨zpl 1 1,2,zjn 1 f g⟩ ⟨2,2,h⟩:=fun f g h h0 h1=>by
    refine Q7a hzpl hzjn rfl (fun j hj=>?_) h1
    have hj2:j=0:=by omega
    subst hj2;exact h0
   subst hzup
   rcases hz with ⟨hd,rfl,rfl⟩|⟨hd,rfl,rfl⟩
   all_goals
    repeat' (first
     | (refine gov ?_;(try simp only[ar01,ar12,s20,s11,c2]))
     | refine goa ?_|exact go0|refine goz ?_|refine Qvha ?_ ?_
     | exact gor (ha:=Qy3) (hb:=Qy3)
     | ((with_reducible apply Qoa (hf:=Try.call36));(·intro S;cbv;try rfl);(·intro wc S hbc hxc hrc;exact h1 wc hbc);(·rfl))
     | refine Qhha Try.func63 Try.results63 Try.call63 ?_
     | refine Qhha Try.func82 Try.results82 Try.call82 ?_
     | refine Qhha Try.func92 Try.results92 Try.call92 ?_
     | (((with_reducible apply Qeb (hf:=Try.call98));(·(cbv;try rfl));(·intro wc hbc hxc;exact Qlaa _ _ wc);intro z hzz;have hzz:z=_:=hzz.trans hd))
     | (refine' Qiha Try.call83 ?_ ?_;rotate_left;(·intro wc hbc hxc;exact Q2m wc _ (.inr (.inr rfl))))
     | (with_reducible apply Qqa 3)
     | fail)
end
end Go.Proofs.Ytemnfncbgalljab
