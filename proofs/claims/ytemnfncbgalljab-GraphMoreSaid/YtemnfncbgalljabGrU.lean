/- Lemmas. No condition. -/
import Derived.Test.YtemnfncbgalljabGrT
import Derived.Test.YtemnfncbgalljabGrO
import Derived.Test.YtemnfncbgalljabGrJ
import Derived.Test.YtemnfncbgalljabSxEh
import Derived.Test.YtemnfncbgalljabC4
namespace Go.Proofs.Ytemnfncbgalljab
open Go.RowKit
set_option linter.unusedVariables false
set_option linter.unusedSimpArgs false
def Qlpa:List SC:=[.int .u8 2,.int .i64 0,.lit false,.int .u8 0,.int .u8 0,.int .u8 0,.int .u8 0,.int .u8 0,.int .i64 0,.int .i64 0,.lit false,.int .u8 0,.int .u8 0,.int .i64 0,.int .i64 0,.lit false,.int .u8 0,.int .i64 0,.lit false,.int .u8 0,.int .u8 1,.int .i64 1,.int .i64 0,.lit false,.int .u8 0,.int .i64 0]
theorem Qipa:Qbc (Qte Qlpa (0 * 26) 26) prS1.sc:=by
 cbv
theorem Qjpa (d:Nat) {P:Program} {Q:E9z} {c:R9z} {w0:Base} {f:Nat} {args:List SV} {k:List Item} {st:St} (h:OutOk P Q c w0 (.call f args (some d) k st)):OutOk P Q c w0 (.call f args (some d) k st):=h
def xrG (G:R9z) (N:Nat) (rr:B9z) (a:Option Addr) (cap:Nat):Nat->Nat->Row:=fun p i=>if p=1/\i=0 then ⟨a,N,cap,1,fun j=>[.bool (rr j)]⟩ else G p i
set_option maxHeartbeats 16000000 in
theorem Qkpa (F:GFun) (w:World) (hF:F.At w) (hK:F.Ty8) (block:Int):
 Calls Try.prog 3 #[F.val,.int .i64 block] w (Ret w (.bool true)):=by
 have h1 wc (hk:KB ⟨w,[]⟩ wc):=great7C F wc (hF.later hk)
 have h2 wc (hk:KB ⟨w,[]⟩ wc):=Q2p F wc (hF.later hk) hK
 by_cases hO:fit7 F=true
 case neg=>
  unfold fit7 at hO
  obtain ⟨q1,hq1⟩:=x9 (gfB F)
  obtain ⟨q2,hq2⟩:=x9 (Qvca F)
  rw[<-hq1] at h1 hO
  rw[<-hq2] at h2 hO
  clear hK hq1 hq2
  by_cases g1:q1=true
  · subst g1
    clear hO
    obtain ⟨pa,un,lA,ln,lc,lk,lt,bA,bn,bc,sA,sn,sc,s,jA,jn,jc,ja,jk,jo,jf,jx,je,jd⟩:=F
    obtain ⟨hX,hl,hb,hs,hj⟩:=hF
    simp only at hl hb hs hj
    refine Qaa (args:=[.pt (.agg (GFun.dat _)),.pt (.one (.int .i64 block))]) (c:=(Qwa _)) Try.func3 rfl hX rfl rfl ?_
    obtain ⟨_,_,_,hnt,ar,har,cm,hcm,_,_,_,_,ar01,ar12,zpl,hzpl,zjn,hzjn,zup,hzup,_,_,_,_,hT⟩:=Qca
    repeat' (first
     | refine goa ?_|refine go3 (fun hlt=>?_) (fun hge=>?_)|refine go2 (fun h=>?_) (fun h=>?_)|exact go0|refine goz ?_|refine Qvha ?_ ?_
     | ((with_reducible apply Qua (hf:=Try.call5));(·(cbv;try rfl));(·intro wc hbc hxc;exact h1 wc hbc);intro z hz)
     | ((with_reducible apply Qeb (hf:=Try.call5));(·(cbv;try rfl));(·intro wc hbc hxc;exact h1 wc hbc);intro z hz)
     | ((with_reducible apply Q1a (hf:=Try.call6));(·(cbv;try rfl));(·intro wc hbc hxc;exact h2 wc hbc);intro z hz)
     | ((with_reducible apply Q4f (hf:=Try.call6));(·(cbv;try rfl));(·intro wc hbc hxc;exact h2 wc hbc);intro z hz)
     | (refine' Qiha Try.call7 ?_ ?_;rotate_left;(·intro wc hbc hxc;exact alive11C wc))
     | fail)
    all_goals rfl
  · have g1:q1=false:=by simpa using g1
    subst g1
    have hz:¬q2=0:=by simpa using hO
    have hq:decide (q2=0)=false:=decide_eq_false hz
    clear hO hz
    obtain ⟨pa,un,lA,ln,lc,lk,lt,bA,bn,bc,sA,sn,sc,s,jA,jn,jc,ja,jk,jo,jf,jx,je,jd⟩:=F
    obtain ⟨hX,hl,hb,hs,hj⟩:=hF
    simp only at hl hb hs hj
    refine Qaa (args:=[.pt (.agg (GFun.dat _)),.pt (.one (.int .i64 block))]) (c:=(Qwa _)) Try.func3 rfl hX rfl rfl ?_
    obtain ⟨_,_,_,hnt,ar,har,cm,hcm,_,_,_,_,ar01,ar12,zpl,hzpl,zjn,hzjn,zup,hzup,_,_,_,_,hT⟩:=Qca
    repeat' (first
     | refine goa ?_|refine go3 (fun hlt=>?_) (fun hge=>?_)|refine go2 (fun h=>?_) (fun h=>?_)|exact go0|refine goz ?_|refine Qvha ?_ ?_
     | ((with_reducible apply Qua (hf:=Try.call5));(·(cbv;try rfl));(·intro wc hbc hxc;exact h1 wc hbc);intro z hz)
     | ((with_reducible apply Qeb (hf:=Try.call5));(·(cbv;try rfl));(·intro wc hbc hxc;exact h1 wc hbc);intro z hz)
     | (refine' Qiha Try.call6 ?_ ?_;rotate_left;(·intro wc hbc hxc;exact h2 wc hbc))
     | (refine' Qiha Try.call7 ?_ ?_;rotate_left;(·intro wc hbc hxc;exact alive11C wc))
     | fail)
    all_goals rfl
 obtain ⟨e1,e2⟩:=fit7_two hO
 rw[e1] at h1
 rw[e2] at h2
 have hO:=fit7_ok hO
 by_cases hneg:block<0
 · clear hK hO e1 e2
   obtain ⟨pa,un,lA,ln,lc,lk,lt,bA,bn,bc,sA,sn,sc,s,jA,jn,jc,ja,jk,jo,jf,jx,je,jd⟩:=F
   obtain ⟨hX,hl,hb,hs,hj⟩:=hF
   simp only at hl hb hs hj
   refine Qaa (args:=[.pt (.agg (GFun.dat _)),.pt (.one (.int .i64 block))]) (c:=(Qwa _)) Try.func3 rfl hX rfl rfl ?_
   obtain ⟨_,_,_,hnt,ar,har,cm,hcm,_,_,_,_,ar01,ar12,zpl,hzpl,zjn,hzjn,zup,hzup,_,_,_,_,hT⟩:=Qca
   have q1:cm .lss block 0=true:=by rw[hcm];exact decide_eq_true hneg
   repeat' (first
    | refine goa ?_|refine go3 (fun hlt=>?_) (fun hge=>?_)|refine go2 (fun h=>?_) (fun h=>?_)|exact go0|refine goz ?_|refine Qvha ?_ ?_
    | (refine' Qiha Try.call5 ?_ ?_;rotate_left;(·intro wc hbc hxc;exact h1 wc hbc))
    | (refine' Qiha Try.call6 ?_ ?_;rotate_left;(·intro wc hbc hxc;exact h2 wc hbc))
    | (refine' Qiha Try.call7 ?_ ?_;rotate_left;(·intro wc hbc hxc;exact alive11C wc))
    | fail)
   all_goals rfl
 obtain ⟨b0,rfl⟩:∃n:Nat,block=.ofNat n:=⟨block.toNat,by simp only[Int.ofNat_eq_natCast];omega⟩
 by_cases hbig:F.bn<=b0
 · clear hK hO e1 e2
   obtain ⟨pa,un,lA,ln,lc,lk,lt,bA,bn,bc,sA,sn,sc,s,jA,jn,jc,ja,jk,jo,jf,jx,je,jd⟩:=F
   obtain ⟨hX,hl,hb,hs,hj⟩:=hF
   simp only at hl hb hs hj
   refine Qaa (args:=[.pt (.agg (GFun.dat _)),.pt (.one (.int .i64 (.ofNat b0)))]) (c:=(Qwa _)) Try.func3 rfl hX rfl rfl ?_
   obtain ⟨_,_,_,hnt,ar,har,cm,hcm,_,_,_,_,ar01,ar12,zpl,hzpl,zjn,hzjn,zup,hzup,_,_,_,_,hT⟩:=Qca
   have q1:cm .lss (.ofNat b0) 0=false:=by rw[hcm];exact decide_eq_false (Int.not_lt.2 (Int.natCast_nonneg b0))
   have hbig:bn<=b0:=hbig
   have q2:cm .geq (.ofNat b0) (.ofNat bn)=true:=by rw[hcm];exact decide_eq_true (show (bn:Int)<=(b0:Int) by omega)
   repeat' (first
    | refine goa ?_|refine go3 (fun hlt=>?_) (fun hge=>?_)|refine go2 (fun h=>?_) (fun h=>?_)|exact go0|refine goz ?_|refine Qvha ?_ ?_
    | (refine' Qiha Try.call5 ?_ ?_;rotate_left;(·intro wc hbc hxc;exact h1 wc hbc))
    | (refine' Qiha Try.call6 ?_ ?_;rotate_left;(·intro wc hbc hxc;exact h2 wc hbc))
    | (refine' Qiha Try.call7 ?_ ?_;rotate_left;(·intro wc hbc hxc;exact alive11C wc))
    | fail)
   all_goals rfl
 have hb0:b0<F.bn:=by omega
 by_cases hs24:23<F.sn b0
 · clear hK hO e1 e2 hbig
   obtain ⟨pa,un,lA,ln,lc,lk,lt,bA,bn,bc,sA,sn,sc,s,jA,jn,jc,ja,jk,jo,jf,jx,je,jd⟩:=F
   obtain ⟨hX,hl,hb,hs,hj⟩:=hF
   simp only at hl hb hs hj
   simp only at hb0 hs24
   refine Qaa (args:=[.pt (.agg (GFun.dat _)),.pt (.one (.int .i64 (.ofNat b0)))]) (c:=(Qwa _)) Try.func3 rfl hX rfl rfl ?_
   obtain ⟨_,_,_,hnt,ar,har,cm,hcm,_,_,_,_,ar01,ar12,zpl,hzpl,zjn,hzjn,zup,hzup,_,_,_,_,hT⟩:=Qca
   have q1:cm .lss (.ofNat b0) 0=false:=by rw[hcm];exact decide_eq_false (Int.not_lt.2 (Int.natCast_nonneg b0))
   have q2:cm .geq (.ofNat b0) (.ofNat bn)=false:=by rw[hcm];exact decide_eq_false (show ¬(bn:Int)<=(b0:Int) by omega)
   have q3:cm .gtr (.ofNat (sn b0)) 23=true:=by rw[hcm];exact decide_eq_true (show (23:Int)<(sn b0:Int) by omega)
   repeat' (first
    | refine goa ?_|refine go3 (fun hlt=>?_) (fun hge=>?_)|refine go2 (fun h=>?_) (fun h=>?_)|exact go0|refine goz ?_|refine Qvha ?_ ?_
    | (refine' Qiha Try.call5 ?_ ?_;rotate_left;(·intro wc hbc hxc;exact h1 wc hbc))
    | (refine' Qiha Try.call6 ?_ ?_;rotate_left;(·intro wc hbc hxc;exact h2 wc hbc))
    | (refine' Qiha Try.call7 ?_ ?_;rotate_left;(·intro wc hbc hxc;exact alive11C wc))
    | fail)
   all_goals rfl
 have hs0:F.sn b0<=23:=by omega
 have hS:=Qfpa e1
 have bl:=hS.l
 have bb:=hS.b
 have hst:=Q9t (sn:=F.sn) hb0 (Nat.zero_le _)
 have hN9:=hO.pts
 have h3 wc (hk:KB ⟨w,[]⟩ wc):=Qnpa F wc (hF.later hk) hS
 have h5 wc (hk:KB ⟨w,[]⟩ wc):Calls Try.prog 9 #[F.val,.agg #[.int .i64 (.ofNat b0),.int .i64 0]] wc (Ret wc (.tuple #[.int .i64 (.ofNat (stN F.sn b0)),.int .i64 0])):=Qcy F wc (hF.later hk) hO b0 0 hb0 (Nat.zero_le _)
 have h6 wc (hk:KB ⟨w,[]⟩ wc) (A B:TwA) (y:Option Addr×Nat) (vl v:Value):=Qcpa (F:=F) (b0:=b0) (A:=A) (B:=B) (y:=y) (wc:=wc) (vl:=vl) (v:=v) (hF.later hk) hO hb0 hs0
 have h7 wc (hk:KB ⟨w,[]⟩ wc) {c:R9z}:=Calls.to (c':=c) (r:=[⟨stN F.sn F.bn,1,fun j=>[.bool (Q5ja F (pbN F j))]⟩]) ⟨fun _ _=>rfl,trivial⟩ rfl (Q2la F wc (hF.later hk) hO)
 have h8 wc (hk:KB ⟨w,[]⟩ wc) (A B:TwA) (y:Option Addr×Nat) (vl v:Value) {c:R9z}:=Qzoa (F:=F) (b0:=b0) (A:=A) (B:=B) (y:=y) (wc:=wc) (vl:=vl) (v:=v) (c':=c) (hF.later hk) hO hb0 hs0
 obtain ⟨N,hN⟩:=x9 (stN F.sn F.bn)
 obtain ⟨aT,haT⟩:=x9 (stN F.sn b0)
 obtain ⟨rr,hrr⟩:=x9 (fun j=>Q5ja F (pbN F j):B9z)
 obtain ⟨ry,hry⟩:=x9 (twR F b0:B9z)
 obtain ⟨nn,hnn⟩:=x9 (nnB F:N9z)
 obtain ⟨mm,hmm⟩:=x9 (mmB F:N9z)
 obtain ⟨tb,htb⟩:=x9 (twB F:TwA->TwA->Nat->List SC)
 obtain ⟨sx,hsx⟩:=x9 ((Qgka F b0).s b0:Nat->GStmt)
 obtain ⟨n1,hn1⟩:=x9 (F.sn b0+1)
 obtain ⟨Gf,hGf⟩:=x9 (twH F b0:Option Addr×Nat->Nat->Nat->Row)
 obtain ⟨bq,hbq⟩:=x9 (twQ F b0:Option Addr×Nat->Nat->List SC)
 have hlt:aT<N:=by rw[haT,hN];omega
 have hN9:N<=600:=by rw[hN];exact hN9
 have hR:TwR F=fun x=>[⟨F.ln,2,fun i=>[.int .u8 (F.lk i),.int .u8 (F.lt i)]⟩,⟨F.bn,14,tb x.1 x.2⟩]:=by rw[htb];rfl
 rw[hR] at h3
 simp only[tqF,<-hnn,<-hmm] at h3
 rw[<-haT] at h5
 simp only[twC,tqF,<-hnn,<-hmm,<-hGf,<-hbq,<-haT] at h6
 simp only[twC,tqF,<-hnn,<-hmm,<-hGf,<-hbq,<-hN,<-hry] at h8
 have h7 wc (hk:KB ⟨w,[]⟩ wc) {c:R9z}:Calls Try.prog 10 #[F.val] wc (RetR wc c (.tup [.one (.rs 0),.one (.int .i64 0)]) [⟨N,1,fun j=>[.bool (rr j)]⟩]):=by
  rw[hN,hrr];exact h7 wc hk
 have hy1:∀j,j<=aT->ry j=rr j:=fun j h=>by rw[hry,hrr];simp only[twR];rw[if_pos (haT▸h)]
 have hy2:∀j,aT<j->ry j=rr (j - 1):=fun j h=>by rw[hry,hrr];simp only[twR];rw[if_neg (by rw[<-haT];omega)]
 have hnb:nn b0=F.sn b0:=by rw[hnn];simp[nnB,hb0]
 have tbp:∀A B j,Qob (tb A B j)=true:=fun A B j=>by rw[htb];rfl
 have hseen:∀A B,∀j,j<F.bn->∀vs,isL ⟨[],Q3a (Qwa F) 4 (tqG nn mm F.s F.ja A B),[]⟩ (tb A B j) vs->isL ⟨[],Q3a (Qwa F) 4 (tqG nn mm F.s F.ja A B),[]⟩ (twY F j) vs:=fun A B=>by
  rw[htb,hnn,hmm]
  exact Q6oa (fun b=>by rw[Q2a (Nat.le_refl _)];rfl) (fun b=>by rw[Q2a o9];rfl)
 have hG0:∀y p i,Gf y p i=if p=0/\i=0 then ⟨y.1,n1,y.2,26,fun i=>(sx i).sc⟩ else ⟨none,0,0,0,fun _=>[]⟩:=fun y p i=>by rw[hGf,hn1,hsx];rfl
 have hQ0:∀y b,bq y b=if b=b0 then Qka (twY F b) 0 [.val (.slice y.1 n1 y.2)] else twY F b:=fun y b=>by rw[hbq,hn1];rfl
 have hx0:sx 0=prS1:=by rw[hsx];exact Qsla
 have hx1:∀i,sx (i+1)=F.s b0 i:=fun i=>by rw[hsx];exact Qtla i
 have hc4:∀q i j,q<4->j<(Qwa F q i).n->qbL 4 ((Qwa F q i).el j)=true:=fun q i j hq hj=>by
  match q,hq with
  | 0,_=>rfl
  | 1,_=>rfl
  | 2,_=>rfl
  | 3,_=>rfl
 have hc6:∀A B,∀q i j,q<6->j<(Q3a (Qwa F) 4 (tqG nn mm F.s F.ja A B) q i).n->qbL 6 ((Q3a (Qwa F) 4 (tqG nn mm F.s F.ja A B) q i).el j)=true:=fun A B q i j hq hj=>by
  by_cases g:q<4
  · rw[Q4a g] at hj⊢
    exact Qvc _ (Qvc _ (hc4 q i j g hj))
  · rw[Q2a o9] at hj⊢
    exact Q9c (Qdpa _ _ _)
 clear hR hGf hbq hnn hmm htb hsx hry hrr hK hO e1 e2 hS haT hN hbig hs24 hst
 obtain ⟨pa,un,lA,ln,lc,lk,lt,bA,bn,bc,sA,sn,sc,s,jA,jn,jc,ja,jk,jo,jf,jx,je,jd⟩:=F
 obtain ⟨hX,hl,hb,hs,hj⟩:=hF
 simp only at hl hb hs hj
 simp only at hn1 hb0 hs0 bl bb hnb hG0 hQ0 hx1 hseen h1 h2 h3 h5 h6 h7 h8
 refine Qaa (args:=[.pt (.agg (GFun.dat _)),.pt (.one (.int .i64 (.ofNat b0)))]) (c:=(Qwa _)) Try.func3 rfl hX rfl rfl ?_
 obtain ⟨_,_,_,hnt,ar,har,cm,hcm,_,_,_,_,ar01,ar12,zpl,hzpl,zjn,hzjn,zup,hzup,_,_,_,_,hT⟩:=Qca
 have q1:cm .lss (.ofNat b0) 0=false:=by rw[hcm];exact decide_eq_false (Int.not_lt.2 (Int.natCast_nonneg b0))
 have q2:cm .geq (.ofNat b0) (.ofNat bn)=false:=by rw[hcm];exact decide_eq_false (show ¬(bn:Int)<=(b0:Int) by omega)
 have q3:cm .gtr (.ofNat (sn b0)) 23=false:=by rw[hcm];exact decide_eq_false (show ¬(23:Int)<(sn b0:Int) by omega)
 repeat' (first
  | refine goa ?_|refine go3 (fun hlt=>?_) (fun hge=>?_)|refine go2 (fun h=>?_) (fun h=>?_)|exact go0|refine gof ?_|refine gob ?_|refine Qvha ?_ ?_
  | (refine' Qiha Try.call5 ?_ ?_;rotate_left;(·intro wc hbc hxc;exact h1 wc hbc))
  | (refine' Qiha Try.call6 ?_ ?_;rotate_left;(·intro wc hbc hxc;exact h2 wc hbc))
  | (((with_reducible apply Qhc 4 (hf:=Try.call8));(·intro S;cbv;try rfl);(·intro wc S hbc hxc hrc;exact h3 wc hbc);(·intro A;rfl);(·intro A;rfl);(·rfl);(·rfl);(·trivial);(·exact hc4);(·intro A;exact ⟨fun j hj=>rfl,fun j hj=>tbp _ _ _,trivial⟩);(·intro A p i j hj;exact Qdpa _ _ _);(rintro ⟨A,B⟩ hnew;refine Qsca 1 (twY ⟨pa,un,lA,ln,lc,lk,lt,bA,bn,bc,sA,sn,sc,s,jA,jn,jc,ja,jk,jo,jf,jx,je,jd⟩) rfl (hseen A B) ?_;refine Qcm 6 rfl rfl ⟨fun j _=>rfl,fun j _=>rfl,trivial⟩ (hc6 A B) ?_)))
  | fail)
 with_reducible refine Q4d (by kernel_rfl) ?_
 have hfz:RowLe ⟨zpl 1 (nn b0),26,zjn 1 (fun j=>Qte Qlpa (j * 26) 26) (fun k=>(s b0 k).sc)⟩ ⟨n1,26,fun i=>(sx i).sc⟩:=by
  subst hzpl hzjn
  refine ⟨by show 1+nn b0=n1;rw[hn1,hnb];omega,rfl,fun j hj=>?_⟩
  show Qbc (rJn 1 (fun j=>Qte Qlpa (j * 26) 26) (fun k=>(s b0 k).sc) j) (sx j).sc
  cases j with
  | zero=>
    simp only[rJn,Nat.lt_add_one,Nat.zero_lt_one,if_true,hx0]
    exact Qipa
  | succ j=>
    simp only[rJn,if_neg (show ¬j+1<1 by omega),Nat.add_sub_cancel,hx1]
    exact Qpa _
 have hob2:zpl 1 (nn b0)<=1073741824:=by rw[hzpl];show 1+nn b0<=_;rw[hnb];omega
 have hzb:(b0:Int)<(bn:Nat):=by omega
 have hrow:∀y:Option Addr×Nat,RowLe ⟨bn,14,zup (twY ⟨pa,un,lA,ln,lc,lk,lt,bA,bn,bc,sA,sn,sc,s,jA,jn,jc,ja,jk,jo,jf,jx,je,jd⟩) b0 0 [.val (.slice y.1 n1 y.2)]⟩ ⟨bn,14,bq y⟩:=fun y=>by
  subst hzup
  refine ⟨rfl,rfl,fun j hj=>?_⟩
  show Qbc (rUp _ b0 0 _ j) (bq y j)
  rw[hQ0]
  exact Qpa _
 refine Qw4 (σ:={y:Option Addr×Nat // Q3d w y.1}) (fun y=>Q3a (Q3a (Qwa ⟨pa,un,lA,ln,lc,lk,lt,bA,bn,bc,sA,sn,sc,s,jA,jn,jc,ja,jk,jo,jf,jx,je,jd⟩) 4 (tqG nn mm s ja A B)) 6 (Gf y.1)) [46,47,48,49,50,51,52,53,54,55,56,57,58,59,60] (fun y=>[]) (fun y=>[]) (fun y=>[(1,⟨bn,14,bq y.1⟩)]) rfl ?_ (fun y=>?_)
 · skip
   repeat' (first
    | refine goa ?_|refine go3 (fun hlt=>?_) (fun hge=>?_)|refine go2 (fun h=>?_) (fun h=>?_)|exact go0|refine god ?_|refine gof ?_|refine Qvha ?_ ?_
    | (((with_reducible refine Q4c ?_ ?_);(·exact ⟨fun j hj=>⟨rfl,rfl⟩,hob2⟩);(refine Qnc 2 0 0 (fun a cap=>Gf (a,cap)) (R:=⟨n1,26,fun i=>(sx i).sc⟩) rfl hfz rfl (fun v=>rfl) ⟨fun j _=>rfl,fun j _=>rfl,trivial⟩ (fun j hj=>rfl) (hc6 A B) (fun p i j hj=>absurd hj (Nat.not_lt_zero _)) rfl (fun a cap p' i' h=>by rw[hG0,if_neg h];rfl) (fun a cap=>by rw[hG0,if_pos ⟨rfl,rfl⟩]) (fun a cap hnew2=>?_))))
    | (((with_reducible apply Qxa);(·exact Int.natCast_nonneg _);(·exact hzb)))
    | (((with_reducible refine Qzh ⟨(a,cap),hnew2⟩ rfl ?_ ?_ ?_);(·(refine Q8c ?_ ?_ ?_ ?_<;>(cbv;(try simp only[true_and,and_true]);(try ((repeat' apply And.intro)<;>(first|trivial|rfl|exact RowLe.rfl' _|exact hrow (a,cap)))))));(·(cbv;try rfl));(·simp)))
    | fail)
 obtain ⟨⟨a,cap⟩,hnew2⟩:=y
 simp only
 have r1:cm .lss (.ofNat aT) 0=false:=by rw[hcm];exact decide_eq_false (Int.not_lt.2 (Int.natCast_nonneg aT))
 have r2:cm .geq (.ofNat aT) (.ofNat N)=false:=by rw[hcm];exact decide_eq_false (show ¬(N:Int)<=(aT:Int) by omega)
 have hw1:ar .add .i64 (.ofNat N) 1=.ofNat (N+1):=Qda har _ o9
 have r3:decide (Int.ofNat N.succ=ar .add .i64 (Int.ofNat N) 1)=true:=by rw[hw1];exact decide_eq_true rfl
 obtain ⟨dN,hdN⟩:=x9 (N - aT)
 have hdN2:aT+dN=N:=by omega
 have hGp:∀y p i j,Qob ((Gf y p i).el j)=true:=fun y p i j=>by rw[hG0];split<;>rfl
 have hXp:∀a2 cap2 p i j,Qob ((xrG (Gf (a,cap)) N rr a2 cap2 p i).el j)=true:=fun a2 cap2 p i j=>by
  unfold xrG;split
  · rfl
  · exact hGp _ _ _ _
 have hbqq:∀K,6<=K->∀y j,qbL K (bq y j)=true:=fun K hK y j=>by
  obtain ⟨K,rfl⟩:∃m,K=m+6:=⟨K - 6,by omega⟩
  rw[hQ0];split<;>simp[twY,Qka,qbL,SC.qb]
 have hc8:∀a2 cap2,∀q i j,q<8->j<(Q3a (Q3a (Qwa ⟨pa,un,lA,ln,lc,lk,lt,bA,bn,bc,sA,sn,sc,s,jA,jn,jc,ja,jk,jo,jf,jx,je,jd⟩) 4 (tqG nn mm s ja A B)) 6 (xrG (Gf (a,cap)) N rr a2 cap2) q i).n->qbL 8 ((Q3a (Q3a (Qwa ⟨pa,un,lA,ln,lc,lk,lt,bA,bn,bc,sA,sn,sc,s,jA,jn,jc,ja,jk,jo,jf,jx,je,jd⟩) 4 (tqG nn mm s ja A B)) 6 (xrG (Gf (a,cap)) N rr a2 cap2) q i).el j)=true:=fun a2 cap2 q i j hq hj=>by
  by_cases g:q<6
  · rw[Q4a g] at hj⊢
    exact Qvc _ (Qvc _ (hc6 A B q i j g hj))
  · rw[Q2a o9]
    exact Q9c (hXp _ _ _ _ _)
 have hc9:∀a2 cap2,∀q i j,q<9->j<(Q3a (Q3a (Q3a (Qwa ⟨pa,un,lA,ln,lc,lk,lt,bA,bn,bc,sA,sn,sc,s,jA,jn,jc,ja,jk,jo,jf,jx,je,jd⟩) 4 (tqG nn mm s ja A B)) 6 (xrG (Gf (a,cap)) N rr a2 cap2)) 8 (Q0na (Q3a (Q3a (Qwa ⟨pa,un,lA,ln,lc,lk,lt,bA,bn,bc,sA,sn,sc,s,jA,jn,jc,ja,jk,jo,jf,jx,je,jd⟩) 4 (tqG nn mm s ja A B)) 6 (xrG (Gf (a,cap)) N rr a2 cap2) 7 0) 0 aT) q i).n->qbL 9 ((Q3a (Q3a (Q3a (Qwa ⟨pa,un,lA,ln,lc,lk,lt,bA,bn,bc,sA,sn,sc,s,jA,jn,jc,ja,jk,jo,jf,jx,je,jd⟩) 4 (tqG nn mm s ja A B)) 6 (xrG (Gf (a,cap)) N rr a2 cap2)) 8 (Q0na (Q3a (Q3a (Qwa ⟨pa,un,lA,ln,lc,lk,lt,bA,bn,bc,sA,sn,sc,s,jA,jn,jc,ja,jk,jo,jf,jx,je,jd⟩) 4 (tqG nn mm s ja A B)) 6 (xrG (Gf (a,cap)) N rr a2 cap2) 7 0) 0 aT) q i).el j)=true:=fun a2 cap2 q i j hq hj=>by
  by_cases g:q<8
  · rw[Q4a g] at hj⊢
    exact Qvc _ (hc8 a2 cap2 q i j g hj)
  · rw[Q2a o9]
    unfold Q0na
    split<;>rfl
 repeat' (first
  | refine goa ?_|refine go3 (fun hlt=>?_) (fun hge=>?_)|refine go2 (fun h=>?_) (fun h=>?_)|exact go0|refine gof ?_|refine gob ?_|refine Qvha ?_ ?_
  | (((with_reducible refine Qjpa 65 ?_);(refine' Qiha Try.call9 ?_ ?_);rotate_left;(·intro wc hbc hxc;exact h5 wc hbc)))
  | (((with_reducible refine Qjpa 72 ?_);(with_reducible apply Qbp (hf:=Try.call9));(·intro S;cbv;try rfl);(·intro wc S hbc hxc hrc;exact h6 wc hbc A B (a,cap) _ _ hxc (hrc 0 _ rfl) (hrc 1 _ rfl))))
  | (((with_reducible refine Qjpa 77 ?_);(with_reducible apply Qoa (hf:=Try.call10));(·intro S;cbv;try rfl);(·intro wc S hbc hxc hrc;exact h7 wc hbc);(·rfl)))
  | (((with_reducible refine Qjpa 82 ?_);(with_reducible apply Qoa (hf:=Try.call10));(·intro S;cbv;try rfl);(·intro wc S hbc hxc hrc;exact h8 wc hbc A B (a,cap) _ _ hxc (hrc 0 _ rfl) (hrc 1 _ rfl));(·rfl);(refine Q3na 2 1 0 (fun a2 cap2=>xrG (Gf (a,cap)) N rr a2 cap2) (R:=⟨N,1,fun j=>[.bool (rr j)]⟩) rfl (RowLe.rfl' _) rfl (fun v=>rfl) ⟨fun j _=>rfl,fun j _=>hbqq 6 (Nat.le_refl _) _ j,fun j _=>rfl,trivial⟩ (fun j hj=>rfl) (hc6 A B) (fun p i j hj=>hGp _ p i j) (by rw[hG0];rfl) (fun a2 cap2 p' i' h=>by simp only[xrG];rw[if_neg h]) (fun a2 cap2=>by simp only[xrG,and_self,if_true]) (fun a2 cap2 hnew3 hcap2=>?_));(refine Qrs 10 7 0 rfl rfl ?_);(refine Q8oa 8 7 0 0 aT rfl rfl ⟨fun j _=>rfl,fun j _=>hbqq 8 o9 _ j,fun j _=>rfl,trivial⟩ (hc8 a2 cap2) (by show 0+aT<=N;omega) (.inr (by show cap2≠0;have hcap3:N<=cap2:=hcap2;omega)) (fun j _=>rfl) ?_);(refine Q8oa 9 7 0 aT dN rfl rfl ⟨fun j _=>rfl,fun j _=>hbqq 9 o9 _ j,fun j _=>rfl,trivial⟩ (hc9 a2 cap2) (by show aT+dN<=N;omega) (.inr (by show cap2≠aT;have hcap3:N<=cap2:=hcap2;omega)) (fun j _=>rfl) ?_)))
  | ((rw[hw1]))
  | fail)
 with_reducible refine Q4d (by kernel_rfl) ?_
 have hcN:N<=cap2:=hcap2
 have hca:aT<=cap2:=by omega
 have hleN:aT<=N:=by omega
 have hp1:zpl 0 aT=aT:=by rw[hzpl];exact Nat.zero_add _
 have hp2:zpl aT 1=aT+1:=by rw[hzpl]
 have hp3:zpl (aT+1) dN=N+1:=by rw[hzpl];show aT+1+dN=N+1;omega
 have hfin:RowLe ⟨zpl (zpl (zpl 0 aT) 1) dN,1,zjn (zpl (zpl 0 aT) 1) (zjn (zpl 0 aT) (zjn 0 (fun j=>Qte [] (j * 1) 1) (fun j=>[.bool (rr (j+0))])) (fun j=>Qte [.bool (rr aT)] (0+j * 1) 1)) (fun j=>[.bool (rr (j+aT))])⟩ ⟨N+1,1,fun j=>[.bool (ry j)]⟩:=by
  clear hp1 hp2 hp3
  subst hzpl hzjn
  refine ⟨by show 0+aT+1+dN=N+1;omega,rfl,fun j hj=>?_⟩
  show Qbc (rJn (0+aT+1) (rJn (0+aT) (rJn 0 (fun j=>Qte [] (j * 1) 1) (fun j=>[.bool (rr (j+0))])) (fun j=>Qte [.bool (rr aT)] (0+j * 1) 1)) (fun j=>[.bool (rr (j+aT))]) j) [.bool (ry j)]
  rw[Nat.zero_add]
  by_cases g1:j<aT
  · rw[hy1 j o9]
    simp only[rJn,if_pos (show j<aT+1 by omega),if_pos g1,Nat.not_lt_zero,if_false,Nat.sub_zero,Nat.add_zero]
    exact Qpa _
  · by_cases g2:j=aT
    · rw[g2,hy1 aT (Nat.le_refl _)]
      simp only[rJn,if_pos (show aT<aT+1 by omega),Nat.lt_irrefl,if_false,Nat.sub_self]
      exact Qpa [.bool (rr aT)]
    · rw[hy2 j o9]
      simp only[rJn,if_neg (show ¬j<aT+1 by omega)]
      rw[show j - (aT+1)+aT=j - 1 by omega]
      exact Qpa _
 refine Qx4 (σ:=Unit) (fun _=>Q3a (Q3a (Q3a (Q3a (Qwa ⟨pa,un,lA,ln,lc,lk,lt,bA,bn,bc,sA,sn,sc,s,jA,jn,jc,ja,jk,jo,jf,jx,je,jd⟩) 4 (tqG nn mm s ja A B)) 6 (xrG (Gf (a,cap)) N rr a2 cap2)) 8 (Q0na (Q3a (Q3a (Qwa ⟨pa,un,lA,ln,lc,lk,lt,bA,bn,bc,sA,sn,sc,s,jA,jn,jc,ja,jk,jo,jf,jx,je,jd⟩) 4 (tqG nn mm s ja A B)) 6 (xrG (Gf (a,cap)) N rr a2 cap2) 7 0) 0 aT)) 9 (Q0na (Q3a (Q3a (Q3a (Qwa ⟨pa,un,lA,ln,lc,lk,lt,bA,bn,bc,sA,sn,sc,s,jA,jn,jc,ja,jk,jo,jf,jx,je,jd⟩) 4 (tqG nn mm s ja A B)) 6 (xrG (Gf (a,cap)) N rr a2 cap2)) 8 (Q0na (Q3a (Q3a (Qwa ⟨pa,un,lA,ln,lc,lk,lt,bA,bn,bc,sA,sn,sc,s,jA,jn,jc,ja,jk,jo,jf,jx,je,jd⟩) 4 (tqG nn mm s ja A B)) 6 (xrG (Gf (a,cap)) N rr a2 cap2) 7 0) 0 aT) 7 0) aT dN)) [122,123,124,125,126,127,128,129,130,131,132,133,134,135,136] (fun y=>[(14,.pt (.one (.rs 4)))]) (fun y=>[]) (fun y=>[some ⟨N+1,1,fun j=>[.bool (ry j)]⟩]) rfl ?_ (fun y=>?_)
 · skip
   repeat' (first
    | refine gov ?_
    | (((refine Qopa hT 0 8 0 7 0 rfl ?_ rfl rfl ?_ ?_ ?_ ?_ rfl rfl rfl (by show (if cap2<=cap2 then if aT<=cap2 then if 0<=aT then some (0,aT,cap2) else none else none else none)=some (0,aT,cap2);rw[if_pos (Nat.le_refl _),if_pos hca,if_pos (Nat.zero_le _)]) rfl ?_);(·kernel_rfl);(·kernel_rfl);(·kernel_rfl);(·kernel_rfl);(·rfl)))
    | (((refine Qopa hT 1 8 0 7 0 rfl ?_ rfl rfl ?_ ?_ ?_ ?_ rfl rfl rfl (by show (if cap2<=cap2 then if aT<=cap2 then if 0<=aT then some (0,aT,cap2) else none else none else none)=some (0,aT,cap2);rw[if_pos (Nat.le_refl _),if_pos hca,if_pos (Nat.zero_le _)]) rfl ?_);(·kernel_rfl);(·kernel_rfl);(·kernel_rfl);(·kernel_rfl);(·rfl)))
    | (((refine Qopa hT 2 8 0 7 0 rfl ?_ rfl rfl ?_ ?_ ?_ ?_ rfl rfl rfl (by show (if cap2<=cap2 then if aT<=cap2 then if 0<=aT then some (0,aT,cap2) else none else none else none)=some (0,aT,cap2);rw[if_pos (Nat.le_refl _),if_pos hca,if_pos (Nat.zero_le _)]) rfl ?_);(·kernel_rfl);(·kernel_rfl);(·kernel_rfl);(·kernel_rfl);(·rfl)))
    | (((refine Qopa hT 3 8 0 7 0 rfl ?_ rfl rfl ?_ ?_ ?_ ?_ rfl rfl rfl (by show (if cap2<=cap2 then if aT<=cap2 then if 0<=aT then some (0,aT,cap2) else none else none else none)=some (0,aT,cap2);rw[if_pos (Nat.le_refl _),if_pos hca,if_pos (Nat.zero_le _)]) rfl ?_);(·kernel_rfl);(·kernel_rfl);(·kernel_rfl);(·kernel_rfl);(·rfl)))
    | (((refine Qopa hT 4 8 0 7 0 rfl ?_ rfl rfl ?_ ?_ ?_ ?_ rfl rfl rfl (by show (if cap2<=cap2 then if aT<=cap2 then if 0<=aT then some (0,aT,cap2) else none else none else none)=some (0,aT,cap2);rw[if_pos (Nat.le_refl _),if_pos hca,if_pos (Nat.zero_le _)]) rfl ?_);(·kernel_rfl);(·kernel_rfl);(·kernel_rfl);(·kernel_rfl);(·rfl)))
    | (((refine Qopa hT 0 9 0 7 0 rfl ?_ rfl rfl ?_ ?_ ?_ ?_ rfl rfl rfl (by show (if cap2<=cap2 then if N<=cap2 then if aT<=N then some (aT,N,cap2) else none else none else none)=some (aT,N,cap2);rw[if_pos (Nat.le_refl _),if_pos hcN,if_pos hleN]) (by rw[<-hdN];rfl) ?_);(·kernel_rfl);(·kernel_rfl);(·kernel_rfl);(·kernel_rfl);(·rfl)))
    | (((refine Qopa hT 1 9 0 7 0 rfl ?_ rfl rfl ?_ ?_ ?_ ?_ rfl rfl rfl (by show (if cap2<=cap2 then if N<=cap2 then if aT<=N then some (aT,N,cap2) else none else none else none)=some (aT,N,cap2);rw[if_pos (Nat.le_refl _),if_pos hcN,if_pos hleN]) (by rw[<-hdN];rfl) ?_);(·kernel_rfl);(·kernel_rfl);(·kernel_rfl);(·kernel_rfl);(·rfl)))
    | (((refine Qopa hT 2 9 0 7 0 rfl ?_ rfl rfl ?_ ?_ ?_ ?_ rfl rfl rfl (by show (if cap2<=cap2 then if N<=cap2 then if aT<=N then some (aT,N,cap2) else none else none else none)=some (aT,N,cap2);rw[if_pos (Nat.le_refl _),if_pos hcN,if_pos hleN]) (by rw[<-hdN];rfl) ?_);(·kernel_rfl);(·kernel_rfl);(·kernel_rfl);(·kernel_rfl);(·rfl)))
    | (((refine Qopa hT 3 9 0 7 0 rfl ?_ rfl rfl ?_ ?_ ?_ ?_ rfl rfl rfl (by show (if cap2<=cap2 then if N<=cap2 then if aT<=N then some (aT,N,cap2) else none else none else none)=some (aT,N,cap2);rw[if_pos (Nat.le_refl _),if_pos hcN,if_pos hleN]) (by rw[<-hdN];rfl) ?_);(·kernel_rfl);(·kernel_rfl);(·kernel_rfl);(·kernel_rfl);(·rfl)))
    | (((refine Qopa hT 4 9 0 7 0 rfl ?_ rfl rfl ?_ ?_ ?_ ?_ rfl rfl rfl (by show (if cap2<=cap2 then if N<=cap2 then if aT<=N then some (aT,N,cap2) else none else none else none)=some (aT,N,cap2);rw[if_pos (Nat.le_refl _),if_pos hcN,if_pos hleN]) (by rw[<-hdN];rfl) ?_);(·kernel_rfl);(·kernel_rfl);(·kernel_rfl);(·kernel_rfl);(·rfl)))
    | refine goa ?_|refine go3 (fun hlt=>?_) (fun hge=>?_)|refine go2 (fun h=>?_) (fun h=>?_)|exact go0|refine god ?_|refine gof ?_|refine Qvha ?_ ?_
    | (((refine Qxoa hT 8 0 7 0 rfl rfl rfl rfl rfl rfl (by show (if cap2<=cap2 then if aT<=cap2 then if 0<=aT then some (0,aT,cap2) else none else none else none)=some (0,aT,cap2);rw[if_pos (Nat.le_refl _),if_pos hca,if_pos (Nat.zero_le _)]) rfl ?_)))
    | (((refine Qxoa hT 9 0 7 0 rfl rfl rfl rfl rfl rfl (by show (if cap2<=cap2 then if N<=cap2 then if aT<=N then some (aT,N,cap2) else none else none else none)=some (aT,N,cap2);rw[if_pos (Nat.le_refl _),if_pos hcN,if_pos hleN]) (by rw[<-hdN];rfl) ?_)))
    | (((with_reducible apply Qxa);(·exact Int.natCast_nonneg _);(·exact Int.ofNat_lt.2 hlt)))
    | (((with_reducible refine Q4c ?_ ?_);(·exact ⟨fun j hj=>⟨rfl,rfl⟩,(show zpl 0 aT<=1073741824 by rw[hp1];omega)⟩)))
    | (((with_reducible refine Q4c ?_ ?_);(·exact (show zpl (zpl 0 aT) 1<=1073741824 by rw[hp1,hp2];omega))))
    | (((with_reducible refine Q4c ?_ ?_);(·exact ⟨fun j hj=>⟨rfl,rfl⟩,(show zpl (zpl (zpl 0 aT) 1) dN<=1073741824 by rw[hp1,hp2,hp3];omega)⟩)))
    | (((with_reducible refine Qzh () rfl ?_ ?_ ?_);(·(refine Q8c ?_ ?_ ?_ ?_<;>(cbv;(try simp only[true_and,and_true]);(try ((repeat' apply And.intro)<;>(first|trivial|rfl|exact RowLe.rfl' _|exact hfin))))));(·(cbv;try rfl));(·simp)))
    | (fail)
    | fail)
 simp only
 repeat' (first
  | refine goa ?_|refine go3 (fun hlt=>?_) (fun hge=>?_)|refine go2 (fun h=>?_) (fun h=>?_)|exact go0|refine goz ?_|refine Qvha ?_ ?_
  | ((with_reducible apply Qbp (hf:=Try.call11));(·intro S;cbv;try rfl);(·intro wc S hbc hxc hrc;exact Q4ka (N+1) ry ry (fun _ _=>rfl) o9 _ wc _ _ (hrc 3 _ rfl) (hrc 4 _ rfl)))
  | ((with_reducible apply Qpu (hf:=Try.call11));(·intro S;cbv;try rfl);(·intro wc S hbc hxc hrc;exact Q4ka (N+1) ry ry (fun _ _=>rfl) o9 _ wc _ _ (hrc 3 _ rfl) (hrc 4 _ rfl)))
  | (refine' Qiha Try.call7 ?_ ?_;rotate_left;(·intro wc hbc hxc;exact alive11C wc))
  | fail)
 all_goals rfl
end Go.Proofs.Ytemnfncbgalljab

