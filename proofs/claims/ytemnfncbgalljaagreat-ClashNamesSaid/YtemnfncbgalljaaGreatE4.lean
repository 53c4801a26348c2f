/- Lemmas. No condition. -/
import Derived.Test.YtemnfncbgalljaaGreatPtA
namespace Go.Proofs.YtemnfncbgalljaaGreat
open Go.RowKit
set_option linter.all false
set_option maxHeartbeats 64000000
theorem Qfs (L:List KCon):Qic [Q4z L]:=⟨fun _ _=>rfl,trivial⟩
section
set_option maxRecDepth 100000
theorem Ql2:∃zA zB zC:Nat,zA=zB+4/\zB=zC+4/\zC=400:=⟨_,_,_,rfl,rfl,rfl⟩
section
variable {P:Program} {Q:E9z} {c:R9z} {w0:Base}
theorem Qnf {o o':Out} (h:o=o') (g:OutOk P Q c w0 o'):OutOk P Q c w0 o:=by rw[h];exact g
end
theorem Qgm {F:GFun} {n:Nat}:∀N i,i<(Qia F N).length->(Qia F N).getD i 0=n->(Qge F n=true/\(stAt F n).k=1/\(stAt F n).r.k=4)/\i=(Qia F n).length
 | 0,i,h,_=>by simp[Qia] at h
 | N+1,i,h,e=>by
   simp only[Qia] at h e
   by_cases g:i<(Qia F N).length
   · rw[Qme _ _ _ g] at e
     exact Qgm N i g e
   · rw[List.length_append] at h
     split at h
     · rename_i hl
       simp only[List.length_cons,List.length_nil] at h
       have hi:i=(Qia F N).length+0:=by omega
       rw[hi,Q8d,if_pos hl] at e
       have e:N=n:=by simpa using e
       subst e
       exact ⟨hl,by omega⟩
     · simp only[List.length_nil] at h;omega
def Q1l (F:GFun) (n:Nat):Int:=if Qge F n=true/\(stAt F n).k=1/\(stAt F n).r.k=4 then .ofNat (Qia F n).length else -1
def whM (ln:Nat) (lo:Int) (n:Nat) (ir:Int->Bool) (wp:Int->Bool->Int->Bool) (s:GStmt):Nat->KCon×Bool
 | 0=>(⟨s.r.a.p.l,s.p.l,.ofNat n,1⟩,s.r.k==1&&s.r.a.k !=1&&wp s.r.a.p.l s.r.a.p.d s.r.a.p.f&&ir s.r.a.p.l&&ir s.p.l)
 | 1=>(⟨.ofNat ln+lo,s.p.l,.ofNat n,2⟩,s.r.k==4)
 | _=>(⟨s.r.p.l,s.p.l,.ofNat n,3⟩,s.r.k==4&&s.r.p.d&&ir s.r.p.l)
def whK (F:GFun) (n:Nat) (k:Nat):KCon×Bool:=whM F.ln (Q1l F n) n (fun l=>isRef (F.lk l.toNat)) (fun l d f=>wholeP ⟨l,d,f⟩) (stAt F n) k
def whV (F:GFun) (n k:Nat):KCon×Bool:=if Qge F n=true/\(stAt F n).k=1/\wholeP (stAt F n).p=true then whK F n k else (.zero,false)
def whT (x:KCon×Bool):Value:=.tuple #[.agg #[.int .i64 x.1.fr,.int .i64 x.1.to,.int .i64 x.1.at_,.int .u8 x.1.why],.bool x.2]
def whL (F:GFun) (n:Nat):Nat->List KCon
 | 0=>[]
 | k+1=>whL F n k++if (whV F n k).2=true then [(whV F n k).1] else []
theorem Qw6 (F:GFun) (n:Nat):whL F n 3=Q1o F n:=by
 unfold Q1o
 simp only[whL,whV]
 by_cases h:Qge F n=true/\(stAt F n).k=1
 · rw[if_pos h]
   unfold ofL
   by_cases h2:wholeP (stAt F n).p=true
   · have h3:Qge F n=true/\(stAt F n).k=1/\wholeP (stAt F n).p=true:=⟨h.1,h.2,h2⟩
     have h2':(stAt F n).p.whole=true:=h2
     simp only[if_pos h3,if_pos h2',whK,whM,Q1l]
     by_cases h4:(stAt F n).r.k=4
     · have h5:Qge F n=true/\(stAt F n).k=1/\(stAt F n).r.k=4:=⟨h.1,h.2,h4⟩
       have e1:((stAt F n).r.k==1)=false:=by rw[h4];rfl
       have e2:((stAt F n).r.k==4)=true:=by rw[h4];rfl
       simp only[if_pos h5,e1,e2,Bool.false_and,Bool.true_and,if_true,List.nil_append,Bool.false_eq_true,if_false]
       rfl
     · have e2:((stAt F n).r.k==4)=false:=by simpa using h4
       simp only[e2,Bool.false_and,Bool.false_eq_true,if_false,List.append_nil,List.nil_append]
       rfl
   · have h3:¬(Qge F n=true/\(stAt F n).k=1/\wholeP (stAt F n).p=true):=fun g=>h2 g.2.2
     have h2':¬(stAt F n).p.whole=true:=h2
     simp only[if_neg h3,if_neg h2',Bool.false_eq_true,if_false,List.append_nil]
 · rw[if_neg h]
   have h3:¬(Qge F n=true/\(stAt F n).k=1/\wholeP (stAt F n).p=true):=fun g=>h ⟨g.1,g.2.1⟩
   simp only[if_neg h3,Bool.false_eq_true,if_false,List.append_nil]
theorem Q0y (F:GFun) (l:Int) (w:World) (hF:F.At w) (h0:0<=l) (h1:l<F.ln):
 Calls Tryz.prog 254 #[F.val,.int .i64 l] w (Ret w (.bool (isRef (F.lk l.toNat)))):=by
 obtain ⟨n,rfl⟩:∃n:Nat,l=.ofNat n:=⟨l.toNat,by simp only[Int.ofNat_eq_natCast];omega⟩
 have h1:n<F.ln:=by simp only[Int.ofNat_eq_natCast] at h1;omega
 show Calls Tryz.prog 254 #[F.val,.int .i64 (.ofNat n)] w (Ret w (.bool (isRef (F.lk n))))
 clear h0
 have h2 (wc:World):Calls Tryz.prog 280 #[.agg #[.int .u8 (F.lk n),.int .u8 (F.lt n)]] wc (Ret wc (.bool (isRef (F.lk n)))):=Q7u (F.lk n) (F.lt n) wc
 obtain ⟨_,_,_,_,_,lk,_,_,_,_,_,_,_,_,_,_,_,_,_,_,_,_,_,_⟩:=F
 obtain ⟨hX,hl,hb,hs,hj⟩:=hF
 simp only at hl hb hs hj
 simp only at h1 h2
 generalize isRef (lk n)=b at h2⊢
 refine Qaa (args:=[.pt (.agg (GFun.dat _)),.pt (.one (.int .i64 (.ofNat n)))]) (c:=(Qwa _)) Tryz.func254 rfl hX rfl rfl ?_
 obtain ⟨_,_,_,hnt,_,har,_,hcm,_,_,_,_,ar01,ar12,_,hzpl,_,_,_,_,_,_,_,_,hT⟩:=Qca
 repeat' (first
  | refine goa ?_|refine go3 (fun hlt=>?_) (fun hge=>?_)|refine go2 (fun h=>?_) (fun h=>?_)|exact go0|refine goz ?_|refine Qvha ?_ ?_
  | (refine' Qiha Tryz.call280 ?_ ?_;rotate_left;(·intro wc hbc hxc;exact h2 wc))
  | fail)
 all_goals rfl
theorem Qh5 (F:GFun) (n:Nat) (w:World) (hF:F.At w) (hO:F.Ok) (hn:n<stN F.sn F.bn):
 Calls Tryz.prog 256 #[F.val,.int .i64 (.ofNat n)] w (Ret w (.int .i64 (Q1l F n))):=by
 have h1 wc (hk:KB ⟨w,[]⟩ wc):=Q0n F wc (hF.later hk) hO.small
 obtain ⟨P,hP⟩:=x9 ((Qia F (stN F.sn F.bn)).length)
 obtain ⟨pt,hpt⟩:=x9 (fun j=>(Qia F (stN F.sn F.bn)).getD j 0:N9z)
 obtain ⟨v,hv⟩:=x9 (Q1l F n)
 have hPR:Qzu (Qia F (stN F.sn F.bn))=⟨P,1,fun j=>[.int .i64 (.ofNat (pt j))]⟩:=by rw[Qzu,hP,hpt]
 rw[hPR] at h1
 have hP9:P<=600:=by have:=Qxb F (stN F.sn F.bn);have:=hO.pts;omega
 have k1:∀i,i<P->pt i=n->v=.ofNat i:=fun i hi e=>by
  rw[hP] at hi;rw[hpt] at e
  obtain ⟨e1,e2⟩:=Qgm (F:=F) (n:=n) _ i hi e
  rw[hv,Q1l,if_pos e1,e2]
 have k2:(∀i,i<P->pt i≠n)->v= -1:=fun h=>by
  rw[hv,Q1l]
  split
  · rename_i g
    obtain ⟨e1,e2⟩:=Qng g.1 g.2.1 g.2.2 _ hn
    exact absurd (by rw[hpt];exact e2) (h _ (by rw[hP];exact e1))
  · rfl
 rw[<-hv]
 clear hPR hv hpt hP hO hn
 cases F
 obtain ⟨hX,hl,hb,hs,hj⟩:=hF
 simp only at hl hb hs hj
 refine Qaa (args:=[.pt (.agg (GFun.dat _)),.pt (.one (.int .i64 (.ofNat n)))]) (c:=(Qwa _)) Tryz.func256 rfl hX rfl rfl ?_
 obtain ⟨_,_,_,hnt,_,har,_,hcm,_,_,_,_,ar01,ar12,_,hzpl,_,_,_,_,_,_,_,_,hT⟩:=Qca
 have hne:∀{i:Nat},decide (Int.ofNat (pt i)=Int.ofNat n)=false->pt i≠n:=fun {i} h e=>of_decide_eq_false h (by rw[e])
 repeat' (first
  | refine goa ?_|refine go3 (fun hlt=>?_) (fun hge=>?_)|refine go2 (fun h=>?_) (fun h=>?_)|exact go0|refine goz ?_|refine Qvha ?_ ?_
  | ((with_reducible apply Qoa (hf:=Tryz.call141));(·intro S;cbv;try rfl);(·intro wc S hbc hxc hrc;exact h1 wc hbc);(·rfl))
  | ((with_reducible refine Qgha (σ:={i:Nat // i<=P/\∀j,j<i->pt j≠n}) (zs9 [4,1,9,13]) (fun x=>[zc9 6 x.1]) (fun x=>[]) (fun x=>[]) (fun x=>P - x.1) ⟨0,Nat.zero_le _,fun j h=>absurd h (Nat.not_lt_zero _)⟩ ?_ ?_);(·exact pfp Qdb);(rintro ⟨i,hi,hok⟩ mm hmm))
  | ((with_reducible refine Qfha ⟨i+1,Nat.succ_le_of_lt y9,Q3b hok (hne y9)⟩ ?_ ?_);(·exact msr o9 y9);(·exact pfp Qdb))
  | fail)
 all_goals first
  | (rw[k1 i y9 (Int.ofNat.inj (of_decide_eq_true y9))])
  | (rw[k2 (fun j hj=>hok j (Nat.lt_of_lt_of_le hj y9))])
theorem Qk9 (F:GFun) (n:Nat) (w:World) (hF:F.At w) (hO:F.Ok) (hn:n<stN F.sn F.bn) (k:Nat) (hk3:k<3):
 Calls Tryz.prog 210 #[F.val,.int .i64 (.ofNat n),.int .u8 (.ofNat (k+1))] w (Ret w (whT (whV F n k))):=by
 have h1 wc (hk:KB ⟨w,[]⟩ wc):=Qlz F wc (hF.later hk) hO.small n hn
 have h2 wc (hk:KB ⟨w,[]⟩ wc):=Qh5 F n wc (hF.later hk) hO hn
 have h3 wc (hk:KB ⟨w,[]⟩ wc) (l:Int) (g0:0<=l) (g1:l<F.ln):=Q0y F l wc (hF.later hk) g0 g1
 have hq:=fun (x1:Qge F n=true) (x2:(stAt F n).k=1)=>hO.nearAt hn x1 x2
 have hl16:=hO.ln16
 have hlo:-1<=Q1l F n/\Q1l F n<=600:=by
  unfold Q1l
  have:=Qxb F n
  have:=hO.pts
  split
  · simp only[Int.ofNat_eq_natCast];omega
  · omega
 obtain ⟨V,hV⟩:=x9 (whT (whV F n k))
 rw[<-hV]
 unfold whV at hV
 obtain ⟨lo,hlo'⟩:=x9 (Q1l F n)
 obtain ⟨ia,hia⟩:=x9 (Qge F n)
 obtain ⟨sa,hsa⟩:=x9 (stAt F n)
 obtain ⟨ir,hir⟩:=x9 (fun l=>isRef (F.lk l.toNat):Int->Bool)
 have h3 wc (hk:KB ⟨w,[]⟩ wc) (l:Int) (g0:0<=l) (g1:l<F.ln):Calls Tryz.prog 254 #[F.val,.int .i64 l] wc (Ret wc (.bool (ir l))):=by rw[hir];exact h3 wc hk l g0 g1
 obtain ⟨wp,hwp⟩:=x9 (fun l d f=>wholeP ⟨l,d,f⟩:Int->Bool->Int->Bool)
 have h4 (l:Int) (d:Bool) (f:Int) (wc:World):Calls Tryz.prog 143 #[.agg #[.int .i64 l,.bool d,.int .u8 f]] wc (Ret wc (.bool (wp l d f))):=by rw[hwp];exact Q2y _ _ _ wc
 have hVk:V=whT (if ia=true/\sa.k=1/\wp sa.p.l sa.p.d sa.p.f=true then whM F.ln lo n ir wp sa k else (.zero,false)):=by
  rw[hV,hia,hsa,hlo',hir,hwp];rfl
 rw[<-hia,<-hsa] at h1 hq
 rw[<-hlo'] at h2 hlo
 clear hV hlo' hia hsa hir hwp hO hn
 obtain ⟨_,_,_,ln,_,_,_,_,_,_,_,_,_,_,_,_,_,_,_,_,_,_,_,_⟩:=F
 obtain ⟨hX,hl,hb,hs,hj⟩:=hF
 simp only at hl hb hs hj
 simp only at h1 h2 h3 hq hl16 hVk
 have v0:ia=false->V=Value.tuple #[.agg #[.int .i64 0,.int .i64 0,.int .i64 0,.int .u8 0],.bool false]:=fun h=>by rw[hVk,if_neg (fun g=>Bool.noConfusion (g.1.symm.trans h))];rfl
 have v1:decide (sa.k=1)=false->V=Value.tuple #[.agg #[.int .i64 0,.int .i64 0,.int .i64 0,.int .u8 0],.bool false]:=fun h=>by rw[hVk,if_neg (fun g=>of_decide_eq_false h g.2.1)];rfl
 have v2:wp sa.p.l sa.p.d sa.p.f=false->V=Value.tuple #[.agg #[.int .i64 0,.int .i64 0,.int .i64 0,.int .u8 0],.bool false]:=fun h=>by rw[hVk,if_neg (fun g=>Bool.noConfusion (g.2.2.symm.trans h))];rfl
 have v3:ia=true->decide (sa.k=1)=true->wp sa.p.l sa.p.d sa.p.f=true->V=whT (whM ln lo n ir wp sa k):=fun a b c=>by rw[hVk,if_pos ⟨a,of_decide_eq_true b,c⟩]
 clear hVk
 match k,hk3 with
 | 0,_=>
   refine Qaa (args:=[.pt (.agg (GFun.dat _)),.pt (.one (.int .i64 (.ofNat n))),.pt (.one (.int .u8 1))]) (c:=(Qwa _)) Tryz.func210 rfl hX rfl rfl ?_
   obtain ⟨_,_,_,hnt,ar,har,_,hcm,_,_,_,_,ar01,ar12,_,hzpl,_,_,_,_,_,_,_,_,hT⟩:=Qca
   have b0:∀x,(sa.r.k==1&&sa.r.a.k !=1&&wp sa.r.a.p.l sa.r.a.p.d sa.r.a.p.f&&ir sa.r.a.p.l&&ir sa.p.l)=x->whT (whM ln lo n ir wp sa 0)=Value.tuple #[.agg #[.int .i64 (sa.r.a.p.l),.int .i64 sa.p.l,.int .i64 (.ofNat n),.int .u8 1],.bool (x)]:=fun x h=>by rw[<-h];rfl
   have b1:decide (sa.r.k=1)=false->(sa.r.k==1&&sa.r.a.k !=1&&wp sa.r.a.p.l sa.r.a.p.d sa.r.a.p.f&&ir sa.r.a.p.l&&ir sa.p.l)=false:=fun h=>by rw[show (sa.r.k==1)=false from h];rfl
   have b2:decide (sa.r.a.k=1)=true->(sa.r.k==1&&sa.r.a.k !=1&&wp sa.r.a.p.l sa.r.a.p.d sa.r.a.p.f&&ir sa.r.a.p.l&&ir sa.p.l)=false:=fun h=>by rw[show (sa.r.a.k !=1)=false from by rw[of_decide_eq_true h];rfl,Bool.and_false];rfl
   have b3:wp sa.r.a.p.l sa.r.a.p.d sa.r.a.p.f=false->(sa.r.k==1&&sa.r.a.k !=1&&wp sa.r.a.p.l sa.r.a.p.d sa.r.a.p.f&&ir sa.r.a.p.l&&ir sa.p.l)=false:=fun h=>by rw[h,Bool.and_false];rfl
   have b4:ir sa.r.a.p.l=false->(sa.r.k==1&&sa.r.a.k !=1&&wp sa.r.a.p.l sa.r.a.p.d sa.r.a.p.f&&ir sa.r.a.p.l&&ir sa.p.l)=false:=fun h=>by rw[h,Bool.and_false];rfl
   have b5:decide (sa.r.k=1)=true->decide (sa.r.a.k=1)=false->wp sa.r.a.p.l sa.r.a.p.d sa.r.a.p.f=true->ir sa.r.a.p.l=true->(sa.r.k==1&&sa.r.a.k !=1&&wp sa.r.a.p.l sa.r.a.p.d sa.r.a.p.f&&ir sa.r.a.p.l&&ir sa.p.l)=ir sa.p.l:=fun g1 g2 g3 g4=>by rw[show (sa.r.k==1)=true from g1,show (sa.r.a.k !=1)=true from by (show (!(sa.r.a.k==1))=true);rw[show (sa.r.a.k==1)=false from g2];rfl,g3,g4];rfl
   obtain ⟨zA,zB,zC,hzA,hzB,hzC⟩:=Ql2
   refine Qcm 4 rfl rfl trivial (Qmc _) ?_
   repeat' (first
    | refine goa ?_|refine go3 (fun hlt=>?_) (fun hge=>?_)|refine go2 (fun h=>?_) (fun h=>?_)|exact go0|refine gof ?_|refine gob ?_|refine Qvha ?_ ?_
    | (refine' Qiha Tryz.call142 ?_ ?_;rotate_left;(·intro wc hbc hxc;exact h1 wc hbc))
    | (refine' Qiha Tryz.call143 ?_ ?_;rotate_left;(·intro wc hbc hxc;exact h4 _ _ _ wc))
    | fail)
   all_goals try (first|(exact (v0 y9).symm)|(exact (v1 y9).symm)|(exact (v2 y9).symm))
   all_goals (with_reducible refine Q4d (by kernel_rfl) ?_)
   all_goals (refine Q9d 3 4 rfl rfl rfl rfl rfl trivial rfl (Q2g (Qmc _)) Qi4 (fun a0 _=>?_))
   all_goals (refine Q9d 8 5 rfl rfl rfl rfl rfl trivial rfl (Qyf (Q2g (Qmc _)) rfl Qvc) Qku (fun a1 _=>?_))
   all_goals (refine Q9d 10 6 rfl rfl rfl rfl rfl trivial rfl (Qyf (Qyf (Q2g (Qmc _)) rfl Qvc) rfl Qvc) Qku (fun a2 _=>?_))
   all_goals (refine Q9d 11 7 rfl rfl rfl rfl rfl trivial rfl (Qyf (Qyf (Qyf (Q2g (Qmc _)) rfl Qvc) rfl Qvc) rfl Qvc) Qku (fun a3 _=>?_))
   repeat' (first
    | refine goa ?_|refine go3 (fun hlt=>?_) (fun hge=>?_)|refine go2 (fun h=>?_) (fun h=>?_)|exact go0|refine goz ?_|refine Qvha ?_ ?_
    | (refine' Qiha Tryz.call143 ?_ ?_;rotate_left;(·intro wc hbc hxc;exact h4 _ _ _ wc))
    | (refine' Qiha Tryz.call254 ?_ ?_;rotate_left;(·intro wc hbc hxc;exact h3 wc hbc _ (by first|exact (hq y9 (of_decide_eq_true y9)).2.2.1|exact (hq y9 (of_decide_eq_true y9)).1.1) (by first|exact (hq y9 (of_decide_eq_true y9)).2.2.2|exact (hq y9 (of_decide_eq_true y9)).1.2)))
    | (((with_reducible apply Q1b hT (zA+4));(·cbv);(try with_reducible refine Qnf (by rewrite [hzA];cbv) ?_);(try with_reducible refine Qnf (by rewrite [hzB];cbv) ?_);(try with_reducible refine Qnf (by rewrite [hzC];cbv) ?_)))
    | fail)
   all_goals first
    | (exact ((v3 y9 y9 y9).trans (b0 _ (b1 y9))).symm)
    | (exact ((v3 y9 y9 y9).trans (b0 _ (b2 y9))).symm)
    | (exact ((v3 y9 y9 y9).trans (b0 _ (b3 y9))).symm)
    | (exact ((v3 y9 y9 y9).trans (b0 _ (b4 y9))).symm)
    | (exact ((v3 y9 y9 y9).trans (b0 _ (b5 y9 y9 y9 y9))).symm)
 | 1,_=>
   refine Qaa (args:=[.pt (.agg (GFun.dat _)),.pt (.one (.int .i64 (.ofNat n))),.pt (.one (.int .u8 2))]) (c:=(Qwa _)) Tryz.func210 rfl hX rfl rfl ?_
   obtain ⟨_,_,_,hnt,ar,har,_,hcm,_,_,_,_,ar01,ar12,_,hzpl,_,_,_,_,_,_,_,_,hT⟩:=Qca
   have hwr:ar .add .i64 (.ofNat ln) lo=.ofNat ln+lo:=by
    rw[har]
    show IntKind.i64.wrap ((ln:Int)+lo)=(ln:Int)+lo
    rw[Go.IntWalk.i64_in _ o9]
   have b0:whT (whM ln lo n ir wp sa 1)=Value.tuple #[.agg #[.int .i64 (ar .add .i64 (.ofNat ln) lo),.int .i64 sa.p.l,.int .i64 (.ofNat n),.int .u8 2],.bool (decide (sa.r.k=4))]:=by rw[hwr];rfl
   refine Qcm 4 rfl rfl trivial (Qmc _) ?_
   repeat' (first
    | refine goa ?_|refine go3 (fun hlt=>?_) (fun hge=>?_)|refine go2 (fun h=>?_) (fun h=>?_)|exact go0|refine gof ?_|refine gob ?_|refine Qvha ?_ ?_
    | (refine' Qiha Tryz.call142 ?_ ?_;rotate_left;(·intro wc hbc hxc;exact h1 wc hbc))
    | (refine' Qiha Tryz.call143 ?_ ?_;rotate_left;(·intro wc hbc hxc;exact h4 _ _ _ wc))
    | fail)
   all_goals try (first|(exact (v0 y9).symm)|(exact (v1 y9).symm)|(exact (v2 y9).symm))
   all_goals (with_reducible refine Q4d (by kernel_rfl) ?_)
   all_goals (refine Q9d 3 4 rfl rfl rfl rfl rfl trivial rfl (Q2g (Qmc _)) Qi4 (fun a0 _=>?_))
   repeat' (first
    | refine goa ?_|refine go3 (fun hlt=>?_) (fun hge=>?_)|refine go2 (fun h=>?_) (fun h=>?_)|exact go0|refine goz ?_|refine Qvha ?_ ?_
    | (refine' Qiha Tryz.call256 ?_ ?_;rotate_left;(·intro wc hbc hxc;exact h2 wc hbc))
    | fail)
   all_goals first
    | (exact ((v3 y9 y9 y9).trans (b0)).symm)
 | 2,_=>
   refine Qaa (args:=[.pt (.agg (GFun.dat _)),.pt (.one (.int .i64 (.ofNat n))),.pt (.one (.int .u8 3))]) (c:=(Qwa _)) Tryz.func210 rfl hX rfl rfl ?_
   obtain ⟨_,_,_,hnt,ar,har,_,hcm,_,_,_,_,ar01,ar12,_,hzpl,_,_,_,_,_,_,_,_,hT⟩:=Qca
   have b0:∀x,(sa.r.k==4&&sa.r.p.d&&ir sa.r.p.l)=x->whT (whM ln lo n ir wp sa 2)=Value.tuple #[.agg #[.int .i64 (sa.r.p.l),.int .i64 sa.p.l,.int .i64 (.ofNat n),.int .u8 3],.bool (x)]:=fun x h=>by rw[<-h];rfl
   have b1:decide (sa.r.k=4)=false->(sa.r.k==4&&sa.r.p.d&&ir sa.r.p.l)=false:=fun h=>by rw[show (sa.r.k==4)=false from h];rfl
   have b2:sa.r.p.d=false->(sa.r.k==4&&sa.r.p.d&&ir sa.r.p.l)=false:=fun h=>by rw[h,Bool.and_false];rfl
   have b3:decide (sa.r.k=4)=true->sa.r.p.d=true->(sa.r.k==4&&sa.r.p.d&&ir sa.r.p.l)=ir sa.r.p.l:=fun g1 g2=>by rw[show (sa.r.k==4)=true from g1,g2];rfl
   obtain ⟨zA,zB,zC,hzA,hzB,hzC⟩:=Ql2
   refine Qcm 4 rfl rfl trivial (Qmc _) ?_
   repeat' (first
    | refine goa ?_|refine go3 (fun hlt=>?_) (fun hge=>?_)|refine go2 (fun h=>?_) (fun h=>?_)|exact go0|refine gof ?_|refine gob ?_|refine Qvha ?_ ?_
    | (refine' Qiha Tryz.call142 ?_ ?_;rotate_left;(·intro wc hbc hxc;exact h1 wc hbc))
    | (refine' Qiha Tryz.call143 ?_ ?_;rotate_left;(·intro wc hbc hxc;exact h4 _ _ _ wc))
    | fail)
   all_goals try (first|(exact (v0 y9).symm)|(exact (v1 y9).symm)|(exact (v2 y9).symm))
   all_goals (with_reducible refine Q4d (by kernel_rfl) ?_)
   all_goals (refine Q9d 3 4 rfl rfl rfl rfl rfl trivial rfl (Q2g (Qmc _)) Qi4 (fun a0 _=>?_))
   all_goals (refine Q9d 8 5 rfl rfl rfl rfl rfl trivial rfl (Qyf (Q2g (Qmc _)) rfl Qvc) Qku (fun a1 _=>?_))
   all_goals (refine Q9d 10 6 rfl rfl rfl rfl rfl trivial rfl (Qyf (Qyf (Q2g (Qmc _)) rfl Qvc) rfl Qvc) Qku (fun a2 _=>?_))
   repeat' (first
    | refine goa ?_|refine go3 (fun hlt=>?_) (fun hge=>?_)|refine go2 (fun h=>?_) (fun h=>?_)|exact go0|refine goz ?_|refine Qvha ?_ ?_
    | (refine' Qiha Tryz.call254 ?_ ?_;rotate_left;(·intro wc hbc hxc;exact h3 wc hbc _ (hq y9 (of_decide_eq_true y9)).2.1.1 (hq y9 (of_decide_eq_true y9)).2.1.2))
    | (((with_reducible apply Q1b hT (zA+4));(·cbv);(try with_reducible refine Qnf (by rewrite [hzA];cbv) ?_);(try with_reducible refine Qnf (by rewrite [hzB];cbv) ?_);(try with_reducible refine Qnf (by rewrite [hzC];cbv) ?_)))
    | fail)
   all_goals first
    | (exact ((v3 y9 y9 y9).trans (b0 _ (b1 y9))).symm)
    | (exact ((v3 y9 y9 y9).trans (b0 _ (b2 y9))).symm)
    | (exact ((v3 y9 y9 y9).trans (b0 _ (b3 y9 y9))).symm)
end
end Go.Proofs.YtemnfncbgalljaaGreat
