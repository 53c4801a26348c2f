/- Lemmas. No condition. -/
import Derived.Test.YtemnfncbgalljabM6
namespace Go.Proofs.Ytemnfncbgalljab
open Go.RowKit
set_option linter.all false
set_option maxHeartbeats 64000000
section
set_option maxRecDepth 100000
def nE (n:Nat) (r:Bool) (p:GPlace) (_:Bool):Bool:=r&&decide (p.l<n)
theorem Qg9 {p:Prop} (h:p:=by (first|((try with_reducible refine Q8c ?_ ?_ ?_ ?_);all_goals (cbv;(try simp only[true_and,and_true]);(try ((repeat' apply And.intro)<;>(first|trivial|rfl|exact RowLe.rfl' _|decide|(rw[Qda har _ o9])|((rw[hy];simp_all[nE,rCm];done))|fail))));done)|fail)):Pf p:=⟨h⟩
theorem Q02 (F:GFun):OnOk (Qwa F) 66 Bool (fun r=>[.bool r]) (fun _=>F.dat) (nE F.ln) (fun _=>True) where
 call:=Try.call66
 re0:=fun _=>rfl
 re1:=fun _=>rfl
 bnd0:=fun _ _ _=>rfl
 bnd1:=fun _ _ _=>rfl
 eff:=by
  intro r p b _
  obtain ⟨_,_,_,ln,_,_,_,_,_,_,_,_,sc,_,jA,jn,jc,ja,_,_,_,_,_,_⟩:=F
  obtain ⟨l,d,n⟩:=p
  obtain ⟨y,hy⟩:=x9 (nE ln r ⟨l,d,n⟩ b)
  simp only[<-hy]
  refine Qoe Try.func66 rfl rfl (fun w bs hlen=>?_)
  obtain ⟨_,_,_,hnt,_,har,_,hcm,_,_,_,_,ar01,ar12,_,hzpl,_,_,_,_,_,_,_,_,hT⟩:=Qca
  repeat' (first
   | refine go1 ?_|refine go2 (fun h=>?_) (fun h=>?_)
   | ((with_reducible apply Qvk hT hlen);(·(cbv;try rfl));(·(cbv;try rfl));(·rfl);(·exact Qg9);(·(cbv;try rfl)))
   | fail)
theorem Qa4 {F:GFun} {w:World} (h:XOk ⟨[],Qwa F,[]⟩ ⟨w,[]⟩) (b:Nat):XOk ⟨[],Q5r (F.jA b) (F.jn b) (F.jc b) 5 fun i=>(F.ja b i).sc,[]⟩ ⟨w,[]⟩:=by
 intro q i j hj
 obtain ⟨x,p,h1,h2,h3,vs,h4,h5⟩:=h 3 b j hj
 refine ⟨x,p,h1,h2,h3,vs,?_,h5⟩
 have e:Q7z (Qwa F) (F.ja b j).sc=some vs:=by
  have h4':isL ⟨[],Qwa F,[]⟩ (F.ja b j).sc vs:=h4
  have:Q7z (Qwa F) (F.ja b j).sc=some [.int .u8 (F.ja b j).k,.int .i64 (F.ja b j).n,.int .i64 (F.ja b j).p.l,.bool (F.ja b j).p.d,.int .u8 (F.ja b j).p.f]:=rfl
  rw[this,Q0r rfl this h4']
 exact Q1r (c:=Q5r (F.jA b) (F.jn b) (F.jc b) 5 fun i=>(F.ja b i).sc) e
section
variable {Q:E9z} {w0:Base}
theorem Qo0 (F:GFun) (r y:Bool) (s:GStmt) (hy:y=Qlf (nE F.ln) r s) {h:List (Option (List SC))} {t:List SV} {fr:List (List SV)} {rr:List (Option ORow)} {dst:Option Nat} {k:List Item}
 (hg:Goes Try.prog Q (Qwa F) w0 k (({ t:=t,h:=some F.dat::some [.bool y]::h,fr:=fr,r:=rr }:St).put dst (.tup []))):
 OutOk Try.prog Q (Qwa F) w0 (.call 68 [.pt (.agg s.sc),.pt (.one (.fn 66 [(1,0),(0,0)]))] dst k { t:=t,h:=some F.dat::some [.bool r]::h,fr:=fr,r:=rr }):=by
 subst hy
 exact Qae [1,0] (Q4w (Q02 F) r s (by simp[Qvr])) Try.call68 (by simp only[reV,SV.re,SA.re,SC.re,reP,nth];exact ⟨Qub _,rfl,trivial⟩) (hs0:=[[.bool r],F.dat]) rfl ⟨Qub _,Qub _,trivial⟩ rfl rfl rfl (by decide) rfl rfl hg
theorem Qn0 (F:GFun) (b:Nat) (hj:F.jn b<=9223372036854775807) (r y:Bool) (hy:y=Qld (nE F.ln) r (F.jk b) (F.jo b) (F.jd b) (F.jn b) (F.ja b)) {h:List (Option (List SC))} {t:List SV} {fr:List (List SV)} {rr:List (Option ORow)} {dst:Option Nat} {k:List Item}
 (hg:Goes Try.prog Q (Qwa F) w0 k (({ t:=t,h:=some F.dat::some [.bool y]::h,fr:=fr,r:=rr }:St).put dst (.tup []))):
 OutOk Try.prog Q (Qwa F) w0 (.call 69 [.pt (.agg [.int .u8 (F.jk b),.int .u8 (F.jo b).k,.int .i64 (F.jo b).n,.int .i64 (F.jo b).p.l,.bool (F.jo b).p.d,.int .u8 (F.jo b).p.f,.int .i64 (F.jf b),.int .i64 (F.jx b),.int .i64 (F.je b),.xs 3 b,.int .i64 (F.jd b).l,.bool (F.jd b).d,.int .u8 (F.jd b).f]),.pt (.one (.fn 66 [(1,0),(0,0)]))] dst k { t:=t,h:=some F.dat::some [.bool r]::h,fr:=fr,r:=rr }):=by
 subst hy
 exact Qae [1,0] (Q3w F b (Q02 F) r hj (by simp[Qfr])) Try.call69 (by simp only[reV,SV.re,SA.re,SC.re,reP,nth];exact ⟨Qub _,rfl,trivial⟩) (hs0:=[[.bool r],F.dat]) rfl ⟨Qub _,Qub _,trivial⟩ rfl rfl rfl (by decide) rfl rfl hg
end
def Qvm (n:Nat) (s:Nat->GStmt):Nat->Bool->Bool
 | 0,r=>r
 | i+1,r=>Qlf (nE n) (Qvm n s i r) (s i)
def Q96 (F:GFun) (b:Nat) (r:Bool):Bool:=
 Qld (nE F.ln) (Qvm F.ln (F.s b) (F.sn b) r) (F.jk b) (F.jo b) (F.jd b) (F.jn b) (F.ja b)&&(F.jump b).leads.all fun n=>decide (n<F.bn)
def Qrm (F:GFun):Nat->Bool
 | 0=>Qin F&&decide (0<F.bn)
 | b+1=>Q96 F b (Qrm F b)
def Qjc (F:GFun) (b:Nat):Bool:=Qed (F.sn b) (fun i=>(F.s b i).ok)&&(F.jump b).ok
def Qrf (F:GFun):Bool:=Qed F.bn (Qjc F)&&Qrm F F.bn
theorem Qpf {p:Prop} (h:p:=by (first|((try with_reducible refine Q8c ?_ ?_ ?_ ?_);all_goals (cbv;(try simp only[true_and,and_true]);(try ((repeat' apply And.intro)<;>(first|trivial|rfl|exact RowLe.rfl' _|decide|(rw[Qda har _ o9])|((rw[hR0];simp_all[rCm];done))|((rw[hS0];done))|((have hsb:=hs b;rw[Qda har _ o9]))|fail))));done)|fail)):Pf p:=⟨h⟩
theorem Qnaa (F:GFun) (w:World) (hF:F.At w):
 Calls Try.prog 52 #[F.val] w (Ret w (.bool (Qrf F))):=by
 have hA:=hF
 obtain ⟨z0,hz0⟩:=x9 (Qrf F)
 obtain ⟨R,hR⟩:=x9 (Qrm F)
 obtain ⟨S,hS⟩:=x9 (fun b i=>Qvm F.ln (F.s b) i (R b):B9y)
 obtain ⟨J,hJ⟩:=x9 (fun b=>Qld (nE F.ln) (S b (F.sn b)) (F.jk b) (F.jo b) (F.jd b) (F.jn b) (F.ja b):B9z)
 obtain ⟨V,hV⟩:=x9 (Qjc F)
 have hS0:∀b,S b 0=R b:=fun b=>by rw[hS];rfl
 have hS1:∀b i,S b (i+1)=Qlf (nE F.ln) (S b i) (F.s b i):=fun b i=>by rw[hS];rfl
 have hJ1:∀b,J b=Qld (nE F.ln) (S b (F.sn b)) (F.jk b) (F.jo b) (F.jd b) (F.jn b) (F.ja b):=fun b=>by rw[hJ]
 have hR1:∀b,R (b+1)=(J b&&(F.jump b).leads.all fun n=>decide (n<F.bn)):=fun b=>by rw[hJ,hS,hR];rfl
 have hR0:R 0=(Qin F&&decide (0<F.bn)):=by rw[hR];rfl
 have hVs:∀b i,i<F.sn b->(F.s b i).ok=false->V b=false:=fun b i hi h=>by rw[hV,Qjc,Qfb hi h];rfl
 have hVj:∀b,(F.jump b).ok=false->V b=false:=fun b h=>by rw[hV,Qjc,h];simp
 have hVt:∀b,(∀i,i<F.sn b->(F.s b i).ok=true)->(F.jump b).ok=true->V b=true:=fun b h1 h2=>by rw[hV,Qjc,Qla.2 h1,h2];rfl
 have hzf:∀b,b<F.bn->V b=false->false=z0:=fun b hb h=>by rw[hV] at h;rw[hz0,Qrf,Qfb hb h];rfl
 have hzt:(∀b,b<F.bn->V b=true)->R F.bn=z0:=fun h=>by rw[hV] at h;rw[hz0,Qrf,Qla.2 h,hR];rfl
 rw[<-hz0]
 clear hz0 hS hJ hR hV
 have hH wc (hk:KB ⟨w,[]⟩ wc):=Qkaa F wc (hA.later hk)
 obtain ⟨hd,hhd⟩:=x9 (Qin F)
 rw[<-hhd] at hR0 hH
 have hXk wc (hk:KB ⟨w,[]⟩ wc) (b:Nat):=Qa4 (hA.later hk).ok b
 clear hhd hA
 obtain ⟨pa,un,lA,ln,lc,lk,lt,bA,bn,bc,sA,sn,sc,s,jA,jn,jc,ja,jk,jo,jf,jx,je,jd⟩:=F
 obtain ⟨hX,hl,hb,hs,hj⟩:=hF
 simp only at hl hb hs hj
 simp only[] at hS1 hJ1 hR1 hR0 hVs hVj hVt hzf hzt hH hXk
 refine Qaa (args:=[.pt (.agg (GFun.dat _))]) (c:=(Qwa _)) Try.func52 rfl hX rfl rfl ?_
 obtain ⟨_,_,_,hnt,_,har,_,hcm,_,_,_,_,ar01,ar12,_,hzpl,_,_,_,_,_,_,_,_,hT⟩:=Qca
 repeat' (first
  | (refine gov ?_;(try simp only[ar01,ar12]))
  | refine goa ?_|refine go3 (fun hlt=>?_) (fun hge=>?_)|refine go2 (fun h=>?_) (fun h=>?_)|refine gof ?_
  | ((with_reducible apply Qua (hf:=Try.call65));(·(cbv;try rfl));(·intro wc hbc hxc;exact hH wc hbc);intro z hz)
  | ((with_reducible apply Q1a (hf:=Try.call67));(·(cbv;try rfl));(·intro wc hbc hxc;exact Qxr (s b i) wc);intro z hz)
  | refine Qhha Try.func36 Try.results36 Try.call36 ?_
  | ((with_reducible apply Q1a (hf:=Try.call54));(·(cbv;try rfl));(·intro wc hbc hxc;exact Qwn _ _ _ _ _ _ _ _ _ _ _ _ (jA b) (jn b) (jc b) (ja b) wc (by unfold maxLen;have:=hj b;omega) (hXk wc hbc b));intro z hz)
  | ((with_reducible refine Qgha (σ:={b:Nat // b<=bn/\∀j,j<b->V j=true}) (zs9 [2,1,6,1,8,3,12,1,26,45]) (fun x=>[zc9 25 x.1]) (fun x=>[(1,[.bool (R x.1)])]) (fun x=>[]) (fun x=>bn - x.1) ⟨0,by omega,fun j hj=>by omega⟩ ?_ ?_);(·exact pfp Qpf);(rintro ⟨b,hb1,hbv⟩ mm hmm))
  | ((with_reducible refine Qgha (σ:={i:Nat // i<=sn b/\∀j,j<i->(s b j).ok=true}) (zs9 [2,1,8,1,33,10]) (fun x=>[zc9 32 x.1]) (fun x=>[(1,[.bool (S b x.1)])]) (fun x=>[]) (fun x=>sn b - x.1) ⟨0,by omega,fun j hj=>by omega⟩ ?_ ?_);(·exact pfp Qpf);(rintro ⟨i,hi,hok⟩ mm hmm))
  | ((with_reducible refine Qfha ⟨i+1,by omega,Q3b hok (Qwe hz h)⟩ ?_ ?_);(·exact Nat.lt_of_lt_of_eq (show sn b - (i+1)<sn b - i from by omega) (Eq.symm y9));(·exact pfp Qpf))
  | (refine Qo0 _ _ _ (s b i) (hS1 b i) ?_)
  | ((have hi':i=sn b:=o9;subst hi';refine Qn0 ⟨pa,un,lA,ln,lc,lk,lt,bA,bn,bc,sA,sn,sc,s,jA,jn,jc,ja,jk,jo,jf,jx,je,jd⟩ b (hj b) _ _ (hJ1 b) ?_))
  | (with_reducible apply Qqa 4)
  | fail)
 rotate_left
 all_goals (try with_reducible refine Qtb ?_)
 all_goals (try (first|exact hzf b y9 (hVs b i hlt (Qxc hz h))|exact hzf b hlt (hVj b (Qxc y9 y9))|exact (show R b=z0 from (show b=bn by omega)▸hzt hbv)))
 all_goals (try have hjo:(GFun.jump ⟨pa,un,lA,ln,lc,lk,lt,bA,bn,bc,sA,sn,sc,s,jA,jn,jc,ja,jk,jo,jf,jx,je,jd⟩ b).ok=true:=Qwe y9 y9)
 all_goals (try have hv1:V b=true:=hVt b (fun j hj'=>hok j hj') hjo)
 rotate_right
 all_goals (try (have hbb:b=bn:=o9;have hbz:=hzt (fun j hj'=>hbv j o9);rw[hbb];exact hbz))
 all_goals (try with_reducible refine Qma ⟨b+1,by omega,Q3b hbv hv1⟩ ?_ ?_ ?_ ?_)
 all_goals (first|exact Nat.lt_of_lt_of_eq (show bn - (b+1)<bn - b by omega) (Eq.symm y9)|(simp;done)|(cbv;done)|skip)
 all_goals (try refine Q8c ?_ ?_ ?_ ?_)
 all_goals (cbv;(try simp only[true_and,and_true]);(try ((repeat' apply And.intro)<;>(first|trivial|rfl|(rw[Qda har _ o9])|skip))))
 all_goals (try (rw[hR1];simp_all[rCm,GJump.leads,GFun.jump];done))
 all_goals
  rw[hR1]
  have hx:¬jx b=je b:=of_decide_eq_false y9
  have h2:jk b=2:=of_decide_eq_true y9
  have hJb:J b=true:=by assumption
  have h':=h
  subst hcm
  have hy:¬je b=jx b:=fun h=>hx h.symm
  simp only[rCm,Int.ofNat_eq_natCast] at h'⊢
  simp only[GJump.leads,GFun.jump,h2,hJb,List.all]
  simp[hx,hy,h']
end
def Qyg (f:I9z):List SC:=[.int .i64 (f 0),.int .i64 (f 1),.int .i64 (f 2),.int .i64 (f 3),.int .i64 (f 4),.int .i64 (f 5),.int .i64 (f 6),.int .i64 (f 7),.int .i64 (f 8),.int .i64 (f 9),.int .i64 (f 10),.int .i64 (f 11),.int .i64 (f 12),.int .i64 (f 13),.int .i64 (f 14),.int .i64 (f 15)]
def Qbk (f:I9z) (l:Int) (j:Nat):Int:=if Int.ofNat j=l then rAr .add .i64 (f j) 1 else f j
def cE (x:(Nat->Int)×(Nat->Int)) (p:GPlace) (b:Bool):(Nat->Int)×(Nat->Int):=
 (Qbk x.1 p.l,if b=true/\p.d=false/\p.f=0 then Qbk x.2 p.l else x.2)
theorem Qh9 {p:Prop} (h:p:=by (first|((try with_reducible refine Q8c ?_ ?_ ?_ ?_);all_goals (cbv;(try simp only[true_and,and_true]);(try ((repeat' apply And.intro)<;>(first|trivial|rfl|exact RowLe.rfl' _|decide|(rw[Qda har _ o9])|((rw[hy];simp_all[cE,Qbk];done))|fail))));done)|fail)):Pf p:=⟨h⟩
theorem Qbw (c:R9z):OnOk c 70 ((Nat->Int)×(Nat->Int)) (fun x=>Qyg x.1) (fun x=>Qyg x.2) cE (fun p=>0<=p.l/\p.l<16) where
 call:=Try.call70
 re0:=fun _=>rfl
 re1:=fun _=>rfl
 bnd0:=fun _ _ _=>rfl
 bnd1:=fun _ _ _=>rfl
 eff:=by
  intro x p b hp
  obtain ⟨f,g⟩:=x
  obtain ⟨l,d,n⟩:=p
  simp only at hp
  obtain ⟨y,hy⟩:=x9 (cE (f,g) ⟨l,d,n⟩ b)
  simp only[<-hy]
  have hl:l=0\/l=1\/l=2\/l=3\/l=4\/l=5\/l=6\/l=7\/l=8\/l=9\/l=10\/l=11\/l=12\/l=13\/l=14\/l=15:=by omega
  clear hp
  rcases hl with rfl|rfl|rfl|rfl|rfl|rfl|rfl|rfl|rfl|rfl|rfl|rfl|rfl|rfl|rfl|rfl
  all_goals
   skip
   refine Qoe Try.func70 rfl rfl (fun w bs hlen=>?_)
   obtain ⟨_,_,_,hnt,_,har,_,hcm,_,_,_,_,ar01,ar12,_,hzpl,_,_,_,_,_,_,_,_,hT⟩:=Qca
   repeat' (first
    | refine go1 ?_|refine go2 (fun h=>?_) (fun h=>?_)|refine gof ?_
    | ((with_reducible apply Qvk hT hlen);(·(cbv;try rfl));(·(cbv;try rfl));(·rfl);(·exact Qh9);(·(cbv;try rfl)))
    | (((with_reducible apply Q3f);(·rfl);(·rfl)))
    | (((with_reducible apply Qan);(·simp);(·rfl)))
    | fail)
def Qqi (s:GStmt):Bool:=s.k==1&&s.r.k==4&&s.r.bo==3
theorem twoC (s:GStmt) (w:World):
 Calls Try.prog 71 #[s.val] w (Ret w (.bool (Qqi s))):=by
 obtain ⟨k,⟨ql,qd,qf⟩,⟨rk,rop,rbo,⟨ak,an,⟨al,ad,af⟩⟩,⟨bk,bn,⟨bl,bd,bf⟩⟩,⟨pl,pd,pf⟩⟩,⟨ck,cn,⟨cl,cd,cf⟩⟩,l⟩:=s
 unfold Qqi
 refine Qaa (args:=[.pt (.agg (GStmt.sc _))]) (c:=Qra) Try.func71 rfl (Qga _) rfl rfl ?_
 obtain ⟨_,hnd,_,hnt,_,har,_,hcm,_,hmx,_,hmn,ar01,ar12,_,hzpl,_,_,_,_,_,_,_,_,hT⟩:=Qca
 repeat' (first
  | refine go1 ?_|refine go2 (fun h=>?_) (fun h=>?_)
  | fail)
 all_goals
  clear ar01 ar12 hT
  subst hnd hnt hmx hmn
  refine Qtb ?_
 all_goals grind
def Qrb (f:B9z):List SC:=[.bool (f 0),.bool (f 1),.bool (f 2),.bool (f 3),.bool (f 4),.bool (f 5),.bool (f 6),.bool (f 7),.bool (f 8),.bool (f 9),.bool (f 10),.bool (f 11),.bool (f 12),.bool (f 13),.bool (f 14),.bool (f 15)]
def turn {α:Type} (f:Nat->α) (o:Nat) (v:α) (j:Nat):α:=if j=o then v else f j
theorem Q87 {o:Nat} (h:o<16):o=0\/o=1\/o=2\/o=3\/o=4\/o=5\/o=6\/o=7\/o=8\/o=9\/o=10\/o=11\/o=12\/o=13\/o=14\/o=15:=by omega
theorem Qwh (f:I9z) {o:Nat} (h:o<16):(Qyg f)[o]? =some (.int .i64 (f o)):=by
 rcases Q87 h with rfl|rfl|rfl|rfl|rfl|rfl|rfl|rfl|rfl|rfl|rfl|rfl|rfl|rfl|rfl|rfl<;>rfl
theorem Qvh (f:B9z) {o:Nat} (h:o<16):(Qrb f)[o]? =some (.bool (f o)):=by
 rcases Q87 h with rfl|rfl|rfl|rfl|rfl|rfl|rfl|rfl|rfl|rfl|rfl|rfl|rfl|rfl|rfl|rfl<;>rfl
theorem Q8r (f:I9z) (v:Int) {o:Nat} (h:o<16):Qka (Qyg f) o [.int .i64 v]=Qyg (turn f o v):=by
 rcases Q87 h with rfl|rfl|rfl|rfl|rfl|rfl|rfl|rfl|rfl|rfl|rfl|rfl|rfl|rfl|rfl|rfl<;>rfl
theorem Quv (f:I9z) (o:Nat):Qbk f (Int.ofNat o)=turn f o (rAr .add .i64 (f o) 1):=by
 funext j
 unfold Qbk turn
 by_cases h:j=o
 · subst h;simp
 · have:¬Int.ofNat j=Int.ofNat o:=fun e=>h (Int.ofNat.inj e)
   rw[if_neg this,if_neg h]
theorem Q30 {h:List (Option (List SC))} {b:Nat} {cs cs':List SC} (hc:Qbc cs cs'):leH (Q0b h b (some cs)) (Q0b h b (some cs')):=by
 have hr:∀h:List (Option (List SC)),leH h h:=by
  intro h
  induction h with
  | nil=>trivial
  | cons x xs ih=>exact ⟨by cases x<;>simp[leB,Qub],ih⟩
 induction h generalizing b with
 | nil=>cases b<;>simp[Q0b,leH]
 | cons x xs ih=>
   cases b with
   | zero=>exact ⟨hc,hr _⟩
   | succ b=>exact ⟨by cases x<;>simp[leB,Qub],ih⟩
theorem Qsb (f:B9z) (v:Bool) {o:Nat} (h:o<16):Qbc (Qka (Qrb f) o [.lit v]) (Qrb (turn f o v)):=by
 rcases Q87 h with rfl|rfl|rfl|rfl|rfl|rfl|rfl|rfl|rfl|rfl|rfl|rfl|rfl|rfl|rfl|rfl<;>simp[Qrb,Qka,Qbc,Qre,turn]
theorem Qnq (n:Nat):(match 0,n with|n,Nat.zero=>n|a,Nat.succ b=>(Nat.add a b).succ:Nat)=n:=by
 cases n with
 | zero=>rfl
 | succ n=>show (Nat.add 0 n).succ=n.succ;simp
theorem Qzb (L:Int):(match 0,match 0,match L with|Int.ofNat n=>n|Int.negSucc _=>0 with|n,Nat.zero=>n|a,Nat.succ b=>(Nat.add a b).succ with|n,Nat.zero=>n|a,Nat.succ b=>(Nat.add a b).succ:Nat)=L.toNat:=(Qnq _).trans (Qnq _)
theorem Qqx (x:SV):leS x x:=by
 cases x with
 | pt a=>cases a with
   | one c=>cases c<;>simp[leS,leA,Qre]
   | agg l=>exact Qub l
 | tup l=>simp[leS]
theorem Q0k:∀l:List (Option ORow),leR l l
 | []=>trivial
 | none::xs=>⟨trivial,Q0k xs⟩
 | some _::xs=>⟨RowLe.rfl' _,Q0k xs⟩
theorem Q1k:∀l:List SV,leT l l
 | []=>trivial
 | x::xs=>⟨Qqx x,Q1k xs⟩
theorem Qmp:∀l:List (List SV),leF l l
 | []=>trivial
 | x::xs=>⟨Q1k x,Qmp xs⟩
theorem Q5a {P:Program} {Q:E9z} {c:R9z} {w0:Base} {b o:Nat} {cs:List SC} {x:SC} {k:List Item} {st:St} (cs':List SC) (ho:o<cs.length) (hcs:Qbc (Qka cs o [x]) cs')
 (hb:({ st with h:=Q0b st.h b (some cs') }:St).bnd=true) (hm:w0.mo.length<=(Q0b st.h b (some cs')).length) (h:Goes P Q c w0 k { st with h:=Q0b st.h b (some cs') }):OutOk P Q c w0 (.askS b o cs x none k st):=
 Qan _ ho rfl (Qiaa { st with h:=Q0b st.h b (some cs') } (Q8c (Q1k _) (Q30 hcs) (Qmp _) (Q0k _)) hb hm h)
end Go.Proofs.Ytemnfncbgalljab
