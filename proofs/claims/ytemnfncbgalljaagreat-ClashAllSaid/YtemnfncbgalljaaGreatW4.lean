/- Lemmas. No condition. -/
import Derived.Test.YtemnfncbgalljaaGreatV6
namespace Go.Proofs.YtemnfncbgalljaaGreat
open Go.RowKit
set_option linter.all false
set_option maxHeartbeats 64000000
section
set_option maxRecDepth 100000
theorem Qz3 {p:Prop} (h:p:=by (first|((try with_reducible refine Q8c ?_ ?_ ?_ ?_);all_goals (cbv;(try simp only[true_and,and_true]);(try ((repeat' apply And.intro)<;>(first|trivial|rfl|exact RowLe.rfl' _|decide|(rw[Qda har _ o9];done)|((exact ⟨rfl⟩))|fail))));done)|fail)):Pf p:=⟨h⟩
theorem Q03 {p:Prop} (h:p:=by (first|((try with_reducible refine Q8c ?_ ?_ ?_ ?_);all_goals (cbv;(try simp only[true_and,and_true]);(try ((repeat' apply And.intro)<;>(first|trivial|rfl|exact RowLe.rfl' _|decide|(rw[Qda har _ o9];done)|((refine ⟨rfl,Nat.le_of_ble_eq_true rfl,Nat.le_of_ble_eq_true rfl,Nat.le_of_ble_eq_true rfl,rfl,rfl,fun j hj=>?_⟩;have hj2:j=0\/j=1:=(by have hj':j<2:=hj;omega);rcases hj2 with rfl|rfl<;>exact ⟨⟨rfl,rfl⟩,trivial⟩))|fail))));done)|fail)):Pf p:=⟨h⟩
theorem Q13 {p:Prop} (h:p:=by (first|((try with_reducible refine Q8c ?_ ?_ ?_ ?_);all_goals (cbv;(try simp only[true_and,and_true]);(try ((repeat' apply And.intro)<;>(first|trivial|rfl|exact RowLe.rfl' _|decide|(rw[Qda har _ o9];done)|((refine ⟨rfl,Nat.le_of_ble_eq_true rfl,Nat.le_of_ble_eq_true rfl,Nat.le_of_ble_eq_true rfl,rfl,rfl,fun j hj=>?_⟩;have hj2:j=0:=(by have hj':j<1:=hj;omega);subst hj2;exact ⟨⟨rfl,rfl⟩,trivial⟩))|fail))));done)|fail)):Pf p:=⟨h⟩
theorem Qy5 (F:GFun) (w:World) (hF:F.At w) (b:Nat):
 Calls Tryz.prog 189 #[Q6z F b] w (RetR w (Qwa F) (.pt (.one (.rs 0))) [Q09 (F.jump b).leads]):=by
 by_cases h35:F.jk b=3\/F.jk b=5
 · rw[Q5i h35]
   obtain ⟨pa,un,lA,ln,lc,lk,lt,bA,bn,bc,sA,sn,sc,s,jA,jn,jc,ja,jk,jo,jf,jx,je,jd⟩:=F
   obtain ⟨hX,hl,hb,hs,hj⟩:=hF
   simp only at hl hb hs hj
   simp only at h35
   refine Qaa (args:=[.pt (.agg [.int .u8 (jk b),.int .u8 (jo b).k,.int .i64 (jo b).n,.int .i64 (jo b).p.l,.bool (jo b).p.d,.int .u8 (jo b).p.f,.int .i64 (jf b),.int .i64 (jx b),.int .i64 (je b),.xs 3 b,.int .i64 (jd b).l,.bool (jd b).d,.int .u8 (jd b).f])]) (c:=(Qwa _)) Tryz.func189 rfl hX rfl rfl ?_
   obtain ⟨_,_,_,hnt,_,har,_,hcm,_,_,_,_,ar01,ar12,_,hzpl,_,hzjn,_,_,_,_,_,_,hT⟩:=Qca
   have q1:decide (jk b=3)=true\/decide (jk b=5)=true:=h35.imp decide_eq_true decide_eq_true
   repeat' (first
    | refine goa ?_|refine go3 (fun hlt=>?_) (fun hge=>?_)|refine go2 (fun h=>?_) (fun h=>?_)|exact go0|refine goz ?_|refine Qvha ?_ ?_
    | ((first|with_reducible apply Qhb hT|with_reducible apply Qna hT);(·(cbv;try rfl));(·(cbv;try rfl));(·exact Qz3);(·exact Qz3);(·rfl))
    | fail)
   all_goals (exfalso;rcases q1 with q|q<;>simp_all)
 by_cases h2:F.jk b=2/\F.jx b≠F.je b
 · rw[Q3k h2.1 h2.2]
   obtain ⟨pa,un,lA,ln,lc,lk,lt,bA,bn,bc,sA,sn,sc,s,jA,jn,jc,ja,jk,jo,jf,jx,je,jd⟩:=F
   obtain ⟨hX,hl,hb,hs,hj⟩:=hF
   simp only at hl hb hs hj
   simp only at h35 h2
   refine Qaa (args:=[.pt (.agg [.int .u8 (jk b),.int .u8 (jo b).k,.int .i64 (jo b).n,.int .i64 (jo b).p.l,.bool (jo b).p.d,.int .u8 (jo b).p.f,.int .i64 (jf b),.int .i64 (jx b),.int .i64 (je b),.xs 3 b,.int .i64 (jd b).l,.bool (jd b).d,.int .u8 (jd b).f])]) (c:=(Qwa _)) Tryz.func189 rfl hX rfl rfl ?_
   obtain ⟨_,_,_,hnt,_,har,_,hcm,_,_,_,_,ar01,ar12,_,hzpl,_,hzjn,_,_,_,_,_,_,hT⟩:=Qca
   have q1:decide (jk b=3)=false:=decide_eq_false o9
   have q2:decide (jk b=5)=false:=decide_eq_false o9
   have q3:decide (jk b=2)=true:=decide_eq_true h2.1
   have q4:decide (je b=jx b)=false:=decide_eq_false (fun e=>h2.2 e.symm)
   repeat' (first
    | refine goa ?_|refine go3 (fun hlt=>?_) (fun hge=>?_)|refine go2 (fun h=>?_) (fun h=>?_)|exact go0|refine goz ?_|refine Qvha ?_ ?_
    | ((first|with_reducible apply Qhb hT|with_reducible apply Qna hT);(·(cbv;try rfl));(·(cbv;try rfl));(·exact Q03);(·exact Q03);(·rfl))
    | fail)
 · rw[Q2k h35 h2]
   obtain ⟨pa,un,lA,ln,lc,lk,lt,bA,bn,bc,sA,sn,sc,s,jA,jn,jc,ja,jk,jo,jf,jx,je,jd⟩:=F
   obtain ⟨hX,hl,hb,hs,hj⟩:=hF
   simp only at hl hb hs hj
   simp only at h35 h2
   refine Qaa (args:=[.pt (.agg [.int .u8 (jk b),.int .u8 (jo b).k,.int .i64 (jo b).n,.int .i64 (jo b).p.l,.bool (jo b).p.d,.int .u8 (jo b).p.f,.int .i64 (jf b),.int .i64 (jx b),.int .i64 (je b),.xs 3 b,.int .i64 (jd b).l,.bool (jd b).d,.int .u8 (jd b).f])]) (c:=(Qwa _)) Tryz.func189 rfl hX rfl rfl ?_
   obtain ⟨_,_,_,hnt,_,har,_,hcm,_,_,_,_,ar01,ar12,_,hzpl,_,hzjn,_,_,_,_,_,_,hT⟩:=Qca
   have q1:decide (jk b=3)=false:=decide_eq_false o9
   have q2:decide (jk b=5)=false:=decide_eq_false o9
   repeat' (first
    | refine goa ?_|refine go3 (fun hlt=>?_) (fun hge=>?_)|refine go2 (fun h=>?_) (fun h=>?_)|exact go0|refine goz ?_|refine Qvha ?_ ?_
    | ((first|with_reducible apply Qhb hT|with_reducible apply Qna hT);(·(cbv;try rfl));(·(cbv;try rfl));(·exact Q13);(·exact Q13);(·rfl))
    | fail)
   all_goals (exfalso;have q3:=not_and.1 h2 (of_decide_eq_true y9);exact q3 (fun e=>of_decide_eq_false (by assumption:decide (je b=jx b)=false) e.symm))
def Qbd (F:GFun) (n:Nat):List Nat:=if piN F n<F.sn (pbN F n) then [n+1] else (Qvd F (pbN F n)).map (stN F.sn)
theorem Qcg {F:GFun} {a:Nat} (ha:a<stN F.sn F.bn) {n:Nat}:n∈Qbd F a↔n∈Q0g F a:=by
 obtain ⟨h1,h2,h3⟩:=Qoc ha
 unfold Qbd Q0g Qgd
 split
 · simp only[List.map_cons,List.map_nil,List.mem_singleton]
   constructor
   · intro h;rw[h];omega
   · intro h;rw[h];omega
 · simp only[List.map_map,List.mem_map,Qvd]
   constructor
   · rintro ⟨k,hk,rfl⟩
     exact ⟨k,Q8k.2 hk,rfl⟩
   · rintro ⟨k,hk,rfl⟩
     exact ⟨k,Q8k.1 hk,rfl⟩
theorem Q9h {F:GFun} (hO:F.Ok) {a:Nat} (ha:a<stN F.sn F.bn):∀n∈Qbd F a,n<stN F.sn F.bn:=fun n hn=>Qgi hO ha n ((Qcg ha).1 hn)
theorem Qfm (F:GFun) (b:Nat):(Qvd F b).length<=2:=by
 simp only[Qvd,List.length_map]
 unfold GJump.leads
 split
 · simp
 · split<;>simp
theorem Qaq (F:GFun) (a:Nat):(Qbd F a).length<=2:=by
 unfold Qbd
 split
 · simp
 · rw[List.length_map];exact Qfm F _
theorem Q23 {p:Prop} (h:p:=by (first|((try with_reducible refine Q8c ?_ ?_ ?_ ?_);all_goals (cbv;(try simp only[true_and,and_true]);(try ((repeat' apply And.intro)<;>(first|trivial|rfl|exact RowLe.rfl' _|decide|(rw[Qda har _ o9];done)|((rw[hR];refine ⟨rfl,Nat.le_of_ble_eq_true rfl,Nat.le_of_ble_eq_true rfl,Nat.le_of_ble_eq_true rfl,rfl,rfl,fun j hj=>?_⟩;have hj2:j=0:=(by have hj':j<1:=hj;omega);subst hj2;exact ⟨⟨rfl,rfl⟩,trivial⟩))|fail))));done)|fail)):Pf p:=⟨h⟩
theorem Q5g {p:Prop} (h:p:=by (first|((try with_reducible refine Q8c ?_ ?_ ?_ ?_);all_goals (cbv;(try simp only[true_and,and_true]);(try ((repeat' apply And.intro)<;>(first|trivial|rfl|exact RowLe.rfl' _|decide|(rw[Qda har _ o9];done)|((exact Q0a rfl (fun j hj=>absurd hj (Nat.not_lt_zero _))))|((refine Q7a hzpl hzjn rfl (fun j hj=>Qpa _) ⟨⟨rfl,?_⟩,trivial⟩;rw[hr1 k y9]))|((have haN:k=m:=o9;subst haN;exact RowLe.rfl' _))|fail))));done)|fail)):Pf p:=⟨h⟩
theorem Qd3 (F:GFun) (w:World) (hF:F.At w) (hO:F.Ok) (n:Nat) (hn:n<stN F.sn F.bn):
 Calls Tryz.prog 149 #[F.val,.int .i64 (.ofNat n)] w (RetR w (Qwa F) (.pt (.one (.rs 0))) [Qzu (Qbd F n)]):=by
 have h1 wc (hk:KB ⟨w,[]⟩ wc):=Qsy F wc (hF.later hk) hO.small n hn
 have h20 wc (hk:KB ⟨w,[]⟩ wc):=Qy5 F wc (hF.later hk) (pbN F n)
 have h3 wc (hk:KB ⟨w,[]⟩ wc):=Qwr F wc (hF.later hk) hO.small.s hO.small.b
 obtain ⟨hpb,hpi,hnn⟩:=Qoc hn
 have hN9:=hO.pts
 rw[Qtu hO hpb] at h20
 by_cases g:piN F n<F.sn (pbN F n)
 · have e:Qbd F n=[n+1]:=by unfold Qbd;rw[if_pos g]
   rw[e]
   obtain ⟨R,hR⟩:=x9 (Qzu [n+1])
   rw[<-hR]
   obtain ⟨b,hb'⟩:=x9 (pbN F n)
   obtain ⟨i,hi'⟩:=x9 (piN F n)
   rw[<-hb',<-hi'] at h1 g
   rw[<-hb'] at hpb
   have hn9:n<600:=by omega
   clear h20 h3 e hb' hi' hnn hpi hn hO
   obtain ⟨pa,un,lA,ln,lc,lk,lt,bA,bn,bc,sA,sn,sc,s,jA,jn,jc,ja,jk,jo,jf,jx,je,jd⟩:=F
   obtain ⟨hX,hl,hb,hs,hj⟩:=hF
   simp only at hl hb hs hj
   simp only at h1 hpb g
   refine Qaa (args:=[.pt (.agg (GFun.dat _)),.pt (.one (.int .i64 (.ofNat n)))]) (c:=(Qwa _)) Tryz.func149 rfl hX rfl rfl ?_
   obtain ⟨_,_,_,hnt,_,har,cm,hcm,_,_,_,_,ar01,ar12,_,hzpl,_,hzjn,_,_,_,_,_,_,hT⟩:=Qca
   have hq:cm .lss (.ofNat i) (.ofNat (sn b))=true:=by rw[hcm];exact decide_eq_true (Int.ofNat_lt.2 g)
   repeat' (first
    | refine goa ?_|refine go3 (fun hlt=>?_) (fun hge=>?_)|refine go2 (fun h=>?_) (fun h=>?_)|exact go0|refine goz ?_|refine Qvha ?_ ?_
    | ((first|with_reducible apply Qhb hT|with_reducible apply Qna hT);(·(cbv;try rfl));(·(cbv;try rfl));(·exact Q23);(·exact Q23);(·rfl))
    | (refine' Qiha Tryz.call207 ?_ ?_;rotate_left;(·intro wc hbc hxc;exact h1 wc hbc))
    | (((with_reducible apply Qxa);(·exact Int.natCast_nonneg _);(·exact Int.ofNat_lt.2 y9)))
    | ((rw[Qda har _ (show n<=9223372036854775806 by omega)]))
    | fail)
 · have e:Qbd F n=(Qvd F (pbN F n)).map (stN F.sn):=by unfold Qbd;rw[if_neg g]
   rw[e]
   have hlt:=Qnp hO hpb
   have hl2:=Qfm F (pbN F n)
   obtain ⟨b,hb'⟩:=x9 (pbN F n)
   obtain ⟨i,hi'⟩:=x9 (piN F n)
   obtain ⟨LL,hLL⟩:=x9 (Qvd F b)
   rw[<-hb'] at hlt hl2 h20⊢
   rw[<-hb',<-hi'] at h1 g
   rw[<-hb'] at hpb
   rw[<-hLL] at hlt hl2 h20⊢
   obtain ⟨m,hm⟩:=x9 (LL.length)
   obtain ⟨ld,hld⟩:=x9 (fun j=>LL.getD j 0:N9z)
   obtain ⟨st,hst⟩:=x9 (stN F.sn:N9z)
   obtain ⟨bm,hbm⟩:=x9 (F.bn+1)
   have hR:Qzu (LL.map (stN F.sn))=⟨m,1,fun j=>[.int .i64 (.ofNat (if j<m then st (ld j) else 0))]⟩:=by
    rw[Qzu,List.length_map,hm]
    congr 1
    funext j
    by_cases hj:j<LL.length
    · rw[if_pos hj,hst,hld];simp[List.getD,List.getElem?_map,List.getElem?_eq_getElem hj]
    · rw[if_neg hj];simp[List.getD,List.getElem?_eq_none (show LL.length<=j by omega)]
   rw[hR]
   have h2 wc (hk:KB ⟨w,[]⟩ wc):Calls Tryz.prog 189 #[Q6z F b] wc (RetR wc (Qwa F) (.pt (.one (.rs 0))) [⟨m,1,fun j=>[.int .i64 (.ofNat (ld j))]⟩]):=by
    have:=h20 wc hk
    rw[hm,hld];exact this
   have h3 wc (hk:KB ⟨w,[]⟩ wc):Calls Tryz.prog 31 #[F.val] wc (RetR wc (Qwa F) (.pt (.one (.rs 0))) [⟨bm,1,fun j=>[.int .i64 (.ofNat (st j))]⟩]):=by
    have:=h3 wc hk
    rw[hbm,hst];exact this
   have hlb:∀j,j<m->ld j<bm:=fun j hj=>by
    rw[hm] at hj
    have:=hlt (ld j) (by rw[hld];simp only[List.getD,List.getElem?_eq_getElem hj,Option.getD_some];exact List.getElem_mem hj)
    omega
   have hm2:m<=2:=by omega
   have hbp:b<F.bn:=hpb
   obtain ⟨rr,hrr⟩:=x9 (fun j=>if j<m then st (ld j) else 0:N9z)
   have hR2:(fun j=>[SC.int .i64 (.ofNat (if j<m then st (ld j) else 0))])=fun j=>[SC.int .i64 (.ofNat (rr j))]:=by rw[hrr]
   rw[hR2]
   have hr1:∀j,j<m->rr j=st (ld j):=fun j hj=>by rw[hrr];simp only[if_pos hj]
   clear h20 e hb' hi' hnn hpi hn hO hLL hlt hl2 hm hld hst hR hR2 hrr hbm hpb
   obtain ⟨pa,un,lA,ln,lc,lk,lt,bA,bn,bc,sA,sn,sc,s,jA,jn,jc,ja,jk,jo,jf,jx,je,jd⟩:=F
   obtain ⟨hX,hl,hb,hs,hj⟩:=hF
   simp only at hl hb hs hj
   simp only at h1 h2 h3 hbp g
   refine Qaa (args:=[.pt (.agg (GFun.dat _)),.pt (.one (.int .i64 (.ofNat n)))]) (c:=(Qwa _)) Tryz.func149 rfl hX rfl rfl ?_
   obtain ⟨_,_,_,hnt,_,har,cm,hcm,_,_,_,_,ar01,ar12,_,hzpl,_,hzjn,_,_,_,_,_,_,hT⟩:=Qca
   have hq:cm .lss (.ofNat i) (.ofNat (sn b))=false:=by rw[hcm];exact decide_eq_false (fun h=>g (Int.ofNat_lt.1 h))
   repeat' (first
    | refine goa ?_|refine go3 (fun hlt=>?_) (fun hge=>?_)|refine go2 (fun h=>?_) (fun h=>?_)|exact go0
    | ((with_reducible apply Qqs [31]);(·rfl);(·rfl);(·kernel_rfl);(·kernel_rfl))
    | refine Qz9 ?_|refine gof ?_|refine Qvha ?_ ?_
    | ((first|with_reducible apply Qhb hT|with_reducible apply Qna hT);(·(cbv;try rfl));(·(cbv;try rfl));(·exact Q5g);(·exact Q5g);(·rfl))
    | refine gob ?_
    | ((with_reducible refine Q4c ?_ ?_);(·first|((rw[hzpl];show k+1<=1073741824;omega))))
    | (refine' Qiha Tryz.call207 ?_ ?_;rotate_left;(·intro wc hbc hxc;exact h1 wc hbc))
    | ((with_reducible apply Qoa (hf:=Tryz.call189));(·intro S;cbv;try rfl);(·intro wc S hbc hxc hrc;exact h2 wc hbc);(·rfl))
    | ((with_reducible apply Qoa (hf:=Tryz.call31));(·intro S;cbv;try rfl);(·intro wc S hbc hxc hrc;exact h3 wc hbc);(·rfl))
    | ((with_reducible apply Qud 6 1);(·(cbv;try rfl)))
    | ((with_reducible refine Qgha (σ:={k:Nat // k<=m}) (zs9 [34,17]) (fun x=>[zc9 8 x.1]) (fun x=>[]) (fun x=>[(1,⟨x.1,1,fun j=>[.int .i64 (.ofNat (rr j))]⟩)]) (fun x=>m - x.1) ⟨0,by omega⟩ ?_ ?_);(·exact pfp Q5g);(rintro ⟨k,hk⟩ mm hmm))
    | ((with_reducible refine Qfha (⟨k+1,by omega⟩:{k:Nat // k<=m}) ?_ ?_);(·exact msr o9 y9);(·exact pfp Q5g))
    | (((with_reducible apply Qxa);(·exact Int.natCast_nonneg _);(·exact Int.ofNat_lt.2 (hlb k y9))))
    | (((with_reducible apply Qxa);(·exact Int.natCast_nonneg _);(·exact Int.ofNat_lt.2 y9)))
    | (fail)
    | fail)
end
theorem Q47 {F:GFun} (hO:F.Ok) {a l:Nat} (ha:a<stN F.sn F.bn):(Qdf F).liB l a=(((Q0g F a).any fun q=>(Qdf F).liB l q)&&!decide (Int.ofNat l=smN F a)||uB F (pbN F a) (piN F a) l):=
 LiveG.li_eq (G:=Qdf F) (fun n hn q hq=>Qgi hO hn q hq) ha
theorem Qwaa {F:GFun} {n:Nat}:smN F n=if Qge F n=true then stS (stAt F n) else if F.jk (pbN F n)=4/\wholeP (F.jd (pbN F n))=true then (F.jd (pbN F n)).l else -1:=by
 unfold smN sI Qge stAt
 by_cases h:piN F n<F.sn (pbN F n)
 · rw[if_pos h,if_pos h,decide_eq_true h];rfl
 · rw[if_neg h,if_neg h,decide_eq_false h];rfl
theorem Q1y (F:GFun) (w:World) (hF:F.At w) (hO:F.Ok) (n:Nat) (hn:n<stN F.sn F.bn):
 Calls Tryz.prog 211 #[F.val,.int .i64 (.ofNat n)] w (Ret w (.int .i64 (smN F n))):=by
 have hS0 wc (hk:KB ⟨w,[]⟩ wc):=Qlz F wc (hF.later hk) hO.small n hn
 have h1 wc (hk:KB ⟨w,[]⟩ wc):=Qb3 F wc (hF.later hk) hO.small n hn
 rw[Qwaa]
 obtain ⟨s,hs'⟩:=x9 (stAt F n)
 rw[<-hs'] at hS0⊢
 obtain ⟨ia,hi'⟩:=x9 (Qge F n)
 rw[<-hi'] at hS0⊢
 have hS wc (hk:KB ⟨w,[]⟩ wc):Calls Tryz.prog 142 #[F.val,.int .i64 (.ofNat n)] wc (Ret wc (.tuple #[s.val,.bool ia])):=hS0 wc hk
 obtain ⟨pb,hb'⟩:=x9 (pbN F n)
 rw[<-hb'] at h1⊢
 clear hb' hS0 hs' hi' hn hO
 obtain ⟨y,hy⟩:=x9 (if ia=true then stS s else if F.jk pb=4/\wholeP (F.jd pb)=true then (F.jd pb).l else -1:Int)
 rw[<-hy]
 unfold stS at hy
 obtain ⟨yk,⟨ql,qd,qf⟩,⟨rk,ro,rb,⟨ak,an,⟨al,ad,af⟩⟩,⟨ek,en,⟨el,ed,ef⟩⟩,⟨gl,gd,gf⟩⟩,⟨ck,cn,⟨cl,cd,cf⟩⟩,yl⟩:=s
 simp only at hy
 cases ia
 all_goals
  obtain ⟨_,_,_,_,_,_,_,_,bn,_,_,sn,_,_,_,_,_,_,_,_,_,_,_,_⟩:=F
  obtain ⟨hX,hl,hb,hs,hj⟩:=hF
  simp only at hl hb hs hj
  simp only at hy
  refine Qaa (args:=[.pt (.agg (GFun.dat _)),.pt (.one (.int .i64 (.ofNat n)))]) (c:=(Qwa _)) Tryz.func211 rfl hX rfl rfl ?_
  obtain ⟨_,_,_,hnt,_,har,_,hcm,_,_,_,_,ar01,ar12,_,hzpl,_,hzjn,_,_,_,_,_,_,hT⟩:=Qca
  repeat' (first
   | refine goa ?_|refine go3 (fun hlt=>?_) (fun hge=>?_)|refine go2 (fun h=>?_) (fun h=>?_)|exact go0|refine goz ?_|refine Qvha ?_ ?_
   | (refine' Qiha Tryz.call142 ?_ ?_;rotate_left;(·intro wc hbc hxc;exact hS wc hbc))
   | (refine' Qiha Tryz.call228 ?_ ?_;rotate_left;(·intro wc hbc hxc;exact h1 wc hbc))
   | refine Qhha Tryz.func257 Tryz.results257 Tryz.call257 ?_
   | refine Qhha Tryz.func258 Tryz.results258 Tryz.call258 ?_
   | refine Qhha Tryz.func271 Tryz.results271 Tryz.call271 ?_
   | fail)
 all_goals
  rw[hy]
  clear hy hT hX hS h1
  refine congrArg (Value.int .i64) ?_
  simp_all[wholeP]
section
namespace DnG
abbrev DS:=(Nat->Bool)×Bool
variable (rs:Nat->List Nat) (st:B9z)
def step (x:DS) (n:Nat):DS:=if (x.1 n||st n)=true then x else (fun j=>if j=n then (rs n).any x.1 else x.1 j,x.2||(rs n).any x.1)
def dn (R:B9z) (N:Nat):Nat->DS
 | 0=>(R,false)
 | k+1=>step rs st (dn R N k) (N - 1 - k)
def W (R:B9z) (N t:Nat):DS:=dn rs st R N (N - t)
theorem W_top (R:B9z) (N:Nat):W rs st R N N=(R,false):=by simp[W,dn]
theorem W_step {R:B9z} {N t:Nat} (h:t<N):W rs st R N t=step rs st (W rs st R N (t+1)) t:=by
 unfold W
 have e:N - t=(N - (t+1))+1:=by omega
 rw[e,dn]
 congr 1
 omega
def inn (R:B9z) (n k:Nat):Nat->Bool:=fun j=>if j=n then ((rs n).take k).any R else R j
theorem step_up {x:DS} {n j:Nat} (h:x.1 j=true):(step rs st x n).1 j=true:=by
 unfold step
 split
 · exact h
 · rename_i g
   by_cases e:j=n
   · subst e;rw[h] at g;simp at g
   · simp only[if_neg e];exact h
theorem dn_up {R:B9z} {N j:Nat} (h:R j=true):∀k,(dn rs st R N k).1 j=true
 | 0=>h
 | k+1=>step_up rs st (dn_up h k)
theorem dn_new {R:B9z} {N:Nat}:∀k,k<=N->(dn rs st R N k).2=true->∃n,n<N/\R n=false/\(dn rs st R N k).1 n=true
 | 0,_,h=>by simp[dn] at h
 | k+1,hk,h=>by
   have ih:=dn_new (R:=R) (N:=N) k o9
   simp only[dn] at h⊢
   generalize hx:dn rs st R N k=x at h ih
   by_cases g:(x.1 (N - 1 - k)||st (N - 1 - k))=true
   · have e:step rs st x (N - 1 - k)=x:=by unfold step;rw[if_pos g]
     rw[e] at h⊢
     exact ih h
   · by_cases h2:x.2=true
     · obtain ⟨n,h3,h4,h5⟩:=ih h2
       exact ⟨n,h3,h4,step_up rs st h5⟩
     · have e:step rs st x (N - 1 - k)=(fun j=>if j=N - 1 - k then (rs (N - 1 - k)).any x.1 else x.1 j,x.2||(rs (N - 1 - k)).any x.1):=by unfold step;rw[if_neg g]
       rw[e] at h⊢
       have h2:x.2=false:=by simpa using h2
       simp only[h2,Bool.false_or] at h
       refine ⟨N - 1 - k,by omega,?_,by simp only[if_true];exact h⟩
       cases hR:R (N - 1 - k)
       · rfl
       · have:=dn_up rs st (N:=N) hR k
         rw[hx] at this
         rw[this] at g;simp at g
theorem dn_no {R:B9z} {N:Nat}:∀k,k<=N->(dn rs st R N k).2=false->(dn rs st R N k).1=R/\∀n,N - k<=n->n<N->(R n||st n)=false->(rs n).any R=false
 | 0,_,_=>⟨rfl,fun n h1 h2=>by omega⟩
 | k+1,hk,h=>by
   have ih:=dn_no (R:=R) (N:=N) k o9
   simp only[dn] at h⊢
   generalize hx:dn rs st R N k=x at h ih
   by_cases g:(x.1 (N - 1 - k)||st (N - 1 - k))=true
   · have e:step rs st x (N - 1 - k)=x:=by unfold step;rw[if_pos g]
     rw[e] at h⊢
     have h2:=ih h
     refine ⟨h2.1,fun n h3 h4 h5=>?_⟩
     by_cases e2:n=N - 1 - k
     · subst e2;rw[h2.1] at g;rw[h5] at g;simp at g
     · exact h2.2 n o9 h4 h5
   · have e:step rs st x (N - 1 - k)=(fun j=>if j=N - 1 - k then (rs (N - 1 - k)).any x.1 else x.1 j,x.2||(rs (N - 1 - k)).any x.1):=by unfold step;rw[if_neg g]
     rw[e] at h⊢
     simp only[Bool.or_eq_false_iff] at h
     have h2:=ih h.1
     refine ⟨?_,fun n h3 h4 h5=>?_⟩
     · funext j
       by_cases e2:j=N - 1 - k
       · subst e2
         simp only[if_true]
         rw[h.2]
         cases hR:R (N - 1 - k)
         · rfl
         · rw[h2.1,hR] at g;simp at g
       · simp only[if_neg e2];rw[h2.1]
     · by_cases e2:n=N - 1 - k
       · subst e2;rw[h2.1] at h;exact h.2
       · exact h2.2 n o9 h4 h5
theorem W_cnt {R:B9z} {N:Nat} (h:(W rs st R N 0).2=true):FlowG.cnt R N<FlowG.cnt (W rs st R N 0).1 N:=by
 obtain ⟨n,h1,h2,h3⟩:=dn_new rs st (N - 0) o9 h
 exact FlowG.cnt_lt (fun l hl=>dn_up rs st hl _) h2 h3 N h1
theorem cnt_all {S:B9z}:∀n,n<=FlowG.cnt S n->∀j,j<n->S j=true
 | 0,_,j,hj=>by omega
 | n+1,h,j,hj=>by
   have:=FlowG.cnt_le S n
   simp only[FlowG.cnt] at h
   split at h
   · rename_i g
     rcases Nat.lt_or_eq_of_le (Nat.le_of_lt_succ hj) with h2|rfl
     · exact cnt_all n o9 j h2
     · exact g
   · omega
end DnG
theorem Qsx {F:GFun} {l:Nat} {R:B9z} (hu:∀n,n<stN F.sn F.bn->uB F (pbN F n) (piN F n) l=true->R n=true)
 (hc:∀n,n<stN F.sn F.bn->(R n||decide (smN F n=Int.ofNat l))=false->(Qbd F n).any R=false) {n:Nat} (h:(Qdf F).liB l n=true):R n=true:=by
 have h:=Qmb.1 h
 have key:∀n,Cl ((Qdf F).Z l) ((Qdf F).R l) n->R n=true:=fun n h=>by
  induction h with
  | zero h=>exact hu _ h.1 h.2
  | step _ hr ih=>
    rename_i m n _
    cases hR:R n
    · exfalso
      have hs:decide (smN F n=Int.ofNat l)=false:=decide_eq_false (fun e=>by
       have:=of_decide_eq_false (show decide (Int.ofNat l=sI F (pbN F n) (piN F n))=false from hr.2.2)
       exact this e.symm)
      have:=hc n hr.1 (by rw[hR,hs];rfl)
      have h2:(Qbd F n).any R=true:=List.any_eq_true.2 ⟨m,(Qcg hr.1).2 hr.2.1,ih⟩
      rw[h2] at this;cases this
    · rfl
 exact key n h
end
end Go.Proofs.YtemnfncbgalljaaGreat
