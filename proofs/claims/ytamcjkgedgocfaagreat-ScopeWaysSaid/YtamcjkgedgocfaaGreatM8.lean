/- Texts joined: SyF SyG SyH. No condition. -/
import Derived.Test.YtamcjkgedgocfaaGreatM7
namespace Go.Proofs.YtamcjkgedgocfaaGreat
open Go.RowKit
set_option linter.unusedVariables false
set_option linter.unusedSimpArgs false
section
set_option maxRecDepth 100000
def nE (n:Nat) (r:Bool) (p:GPlace) (_:Bool):Bool:=r&&decide (p.l<n)
theorem wSyF_0 {p:Prop} (h:p:=by (first|(cbv;(try simp only[true_and,and_true]);(try ((repeat' apply And.intro)<;>(first|trivial|rfl|exact RowLe.rfl' _|decide|(rw[wrap_nat har _ (by omega)])|((rw[hy];simp_all[nE,rCm];done))|fail)));done)|fail)):Pf p:=⟨h⟩
set_option maxHeartbeats 1000000 in
theorem nearOn (F:GFun):OnOk (funX F) 145 Bool (fun r=>[.bool r]) (fun _=>F.dat) (nE F.ln) (fun _=>True) where
 call:=Tryz.call145
 re0:=fun _=>rfl
 re1:=fun _=>rfl
 bnd0:=fun _ _ _=>rfl
 bnd1:=fun _ _ _=>rfl
 eff:=by
  intro r p b _
  obtain ⟨pa,un,lA,ln,lc,lk,lt,bA,bn,bc,sA,sn,sc,s,jA,jn,jc,ja,jk,jo,jf,jx,je,jd⟩:=F
  obtain ⟨l,d,n⟩:=p
  obtain ⟨y,hy⟩:∃y,y=nE ln r ⟨l,d,n⟩ b:=⟨_,rfl⟩
  simp only[←hy]
  refine go_start_eff Tryz.func145 rfl rfl (fun w bs hlen=>?_)
  obtain ⟨nd,hnd,nt,hnt,ar,har,cm,hcm,mx,hmx,mn,hmn,ar01,ar12,zpl,hzpl,zjn,hzjn,zup,hzup,zmi,hzmi,zdp,hzdp,hT⟩:=t0_all
  repeat' (first
   | refine go1 ?_|refine go2 (fun h=>?_) (fun h=>?_)
   | ((with_reducible apply go_fin_effP hT hlen);(·(cbv;try rfl));(·(cbv;try rfl));(·rfl);(·exact wSyF_0);(·(cbv;try rfl)))
   | fail)
theorem argX {F:GFun} {w:World} (h:XOk ⟨[],funX F,[]⟩ ⟨w,[]⟩) (b:Nat):XOk ⟨[],OneR (F.jA b) (F.jn b) (F.jc b) 5 fun i=>(F.ja b i).sc,[]⟩ ⟨w,[]⟩:=by
 intro q i j hj
 obtain ⟨x,p,h1,h2,h3,vs,h4,h5⟩:=h 3 b j hj
 refine ⟨x,p,h1,h2,h3,vs,?_,h5⟩
 have e:toCs (funX F) (F.ja b j).sc=some vs:=by
  have h4':isL ⟨[],funX F,[]⟩ (F.ja b j).sc vs:=h4
  have:toCs (funX F) (F.ja b j).sc=some [.int .u8 (F.ja b j).k,.int .i64 (F.ja b j).n,.int .i64 (F.ja b j).p.l,.bool (F.ja b j).p.d,.int .u8 (F.ja b j).p.f]:=rfl
  rw[this,toCs_is rfl this h4']
 exact toCs_mk (c:=OneR (F.jA b) (F.jn b) (F.jc b) 5 fun i=>(F.ja b i).sc) e
section
variable {Q:Exit→Act→World→Prop} {w0:Base}
theorem go_nearS (F:GFun) (r y:Bool) (s:GStmt) (hy:y=stRun (nE F.ln) r s) {h:List (Option (List SC))} {t:List SV} {fr:List (List SV)} {rr:List (Option ORow)} {dst:Option Nat} {k:List Item}
 (hg:Goes Tryz.prog Q (funX F) w0 k (({ t:=t,h:=some F.dat::some [.bool y]::h,fr:=fr,r:=rr }:St).put dst (.tup []))):
 OutOk Tryz.prog Q (funX F) w0 (.call 147 [.pt (.agg s.sc),.pt (.one (.fn 145 [(1,0),(0,0)]))] dst k { t:=t,h:=some F.dat::some [.bool r]::h,fr:=fr,r:=rr }):=by
 subst hy
 exact go_call_eff [1,0] (inStmtE (nearOn F) r s (by simp[stAll])) Tryz.call147 (by simp only[reV,SV.re,SA.re,SC.re,reP,nth];exact ⟨leCL_refl _,rfl,trivial⟩) (hs0:=[[.bool r],F.dat]) rfl ⟨leCL_refl _,leCL_refl _,trivial⟩ rfl rfl rfl (by decide) rfl rfl hg
theorem go_nearJ (F:GFun) (b:Nat) (hj:F.jn b≤9223372036854775807) (r y:Bool) (hy:y=jmRun (nE F.ln) r (F.jk b) (F.jo b) (F.jd b) (F.jn b) (F.ja b)) {h:List (Option (List SC))} {t:List SV} {fr:List (List SV)} {rr:List (Option ORow)} {dst:Option Nat} {k:List Item}
 (hg:Goes Tryz.prog Q (funX F) w0 k (({ t:=t,h:=some F.dat::some [.bool y]::h,fr:=fr,r:=rr }:St).put dst (.tup []))):
 OutOk Tryz.prog Q (funX F) w0 (.call 148 [.pt (.agg [.int .u8 (F.jk b),.int .u8 (F.jo b).k,.int .i64 (F.jo b).n,.int .i64 (F.jo b).p.l,.bool (F.jo b).p.d,.int .u8 (F.jo b).p.f,.int .i64 (F.jf b),.int .i64 (F.jx b),.int .i64 (F.je b),.xs 3 b,.int .i64 (F.jd b).l,.bool (F.jd b).d,.int .u8 (F.jd b).f]),.pt (.one (.fn 145 [(1,0),(0,0)]))] dst k { t:=t,h:=some F.dat::some [.bool r]::h,fr:=fr,r:=rr }):=by
 subst hy
 exact go_call_eff [1,0] (inJumpE F b (nearOn F) r hj (by simp[jmAll])) Tryz.call148 (by simp only[reV,SV.re,SA.re,SC.re,reP,nth];exact ⟨leCL_refl _,rfl,trivial⟩) (hs0:=[[.bool r],F.dat]) rfl ⟨leCL_refl _,leCL_refl _,trivial⟩ rfl rfl rfl (by decide) rfl rfl hg
end
def stsRun (n:Nat) (s:Nat→GStmt):Nat→Bool→Bool
 | 0,r=>r
 | i+1,r=>stRun (nE n) (stsRun n s i r) (s i)
def blRun (F:GFun) (b:Nat) (r:Bool):Bool:=
 jmRun (nE F.ln) (stsRun F.ln (F.s b) (F.sn b) r) (F.jk b) (F.jo b) (F.jd b) (F.jn b) (F.ja b)&&(F.jump b).leads.all fun n=>decide (n<F.bn)
def rightB (F:GFun):Nat→Bool
 | 0=>headB F&&decide (0<F.bn)
 | b+1=>blRun F b (rightB F b)
def validB (F:GFun) (b:Nat):Bool:=allN (F.sn b) (fun i=>(F.s b i).ok)&&(F.jump b).ok
def madeB (F:GFun):Bool:=allN F.bn (validB F)&&rightB F F.bn
theorem wSyF_1 {p:Prop} (h:p:=by (first|(cbv;(try simp only[true_and,and_true]);(try ((repeat' apply And.intro)<;>(first|trivial|rfl|exact RowLe.rfl' _|decide|(rw[wrap_nat har _ (by omega)])|((rw[hR0];simp_all[rCm];done))|((rw[hS0];done))|((have hsb:=hs b;rw[wrap_nat har _ (by omega)]))|fail)));done)|fail)):Pf p:=⟨h⟩
set_option maxHeartbeats 8000000 in
theorem madeC (F:GFun) (w:World) (hF:F.At w):
 Calls Tryz.prog 105 #[F.val] w (Ret w (.bool (madeB F))):=by
 have hA:=hF
 obtain ⟨z0,hz0⟩:∃z,z=madeB F:=⟨_,rfl⟩
 obtain ⟨R,hR⟩:∃R,R=rightB F:=⟨_,rfl⟩
 obtain ⟨S,hS⟩:∃S:Nat→Nat→Bool,S=fun b i=>stsRun F.ln (F.s b) i (R b):=⟨_,rfl⟩
 obtain ⟨J,hJ⟩:∃J:Nat→Bool,J=fun b=>jmRun (nE F.ln) (S b (F.sn b)) (F.jk b) (F.jo b) (F.jd b) (F.jn b) (F.ja b):=⟨_,rfl⟩
 obtain ⟨V,hV⟩:∃V,V=validB F:=⟨_,rfl⟩
 have hS0:∀b,S b 0=R b:=fun b=>by rw[hS];rfl
 have hS1:∀b i,S b (i+1)=stRun (nE F.ln) (S b i) (F.s b i):=fun b i=>by rw[hS];rfl
 have hJ1:∀b,J b=jmRun (nE F.ln) (S b (F.sn b)) (F.jk b) (F.jo b) (F.jd b) (F.jn b) (F.ja b):=fun b=>by rw[hJ]
 have hR1:∀b,R (b+1)=(J b&&(F.jump b).leads.all fun n=>decide (n<F.bn)):=fun b=>by rw[hJ,hS,hR];rfl
 have hR0:R 0=(headB F&&decide (0<F.bn)):=by rw[hR];rfl
 have hVs:∀b i,i<F.sn b→(F.s b i).ok=false→V b=false:=fun b i hi h=>by rw[hV,validB,allN_false hi h];rfl
 have hVj:∀b,(F.jump b).ok=false→V b=false:=fun b h=>by rw[hV,validB,h];simp
 have hVt:∀b,(∀i,i<F.sn b→(F.s b i).ok=true)→(F.jump b).ok=true→V b=true:=fun b h1 h2=>by rw[hV,validB,allN_iff.2 h1,h2];rfl
 have hzf:∀b,b<F.bn→V b=false→false=z0:=fun b hb h=>by rw[hV] at h;rw[hz0,madeB,allN_false hb h];rfl
 have hzt:(∀b,b<F.bn→V b=true)→R F.bn=z0:=fun h=>by rw[hV] at h;rw[hz0,madeB,allN_iff.2 h,hR];rfl
 rw[←hz0]
 clear hz0 hS hJ hR hV
 have hH (wc:World) (hk:KB ⟨w,[]⟩ wc):=headC F wc (hA.later hk)
 obtain ⟨hd,hhd⟩:∃b,b=headB F:=⟨_,rfl⟩
 rw[←hhd] at hR0 hH
 have hXk (wc:World) (hk:KB ⟨w,[]⟩ wc) (b:Nat):=argX (hA.later hk).ok b
 clear hhd hA
 obtain ⟨pa,un,lA,ln,lc,lk,lt,bA,bn,bc,sA,sn,sc,s,jA,jn,jc,ja,jk,jo,jf,jx,je,jd⟩:=F
 obtain ⟨hX,hl,hb,hs,hj⟩:=hF
 simp only at hl hb hs hj
 simp only[] at hS1 hJ1 hR1 hR0 hVs hVj hVt hzf hzt hH hXk
 refine go_start (args:=[.pt (.agg (GFun.dat _))]) (c:=(funX _)) Tryz.func105 rfl hX rfl rfl ?_
 obtain ⟨nd,hnd,nt,hnt,ar,har,cm,hcm,mx,hmx,mn,hmn,ar01,ar12,zpl,hzpl,zjn,hzjn,zup,hzup,zmi,hzmi,zdp,hzdp,hT⟩:=t0_all
 repeat' (first
  | ((with_reducible apply go_ev hT 400);(·(cbv;try rfl));(fail_if_success with_reducible apply stuck_id);(try simp only[ar01,ar12]))
  | refine go1 ?_|refine gobt ?_|refine gobn ?_|refine go3 (fun hlt=>?_) (fun hge=>?_)|refine go2 (fun h=>?_) (fun h=>?_)|refine gof ?_
  | ((with_reducible apply go_call_bool (f:=144) (hf:=Tryz.call144));(·(cbv;try rfl));(·intro wc hbc hxc;exact hH wc hbc);intro z hz)
  | ((with_reducible apply go_call_int (f:=146) (hf:=Tryz.call146));(·(cbv;try rfl));(·intro wc hbc hxc;exact stmtChk (s b i) wc);intro z hz)
  | ((with_reducible apply go_inline (f:=79) (hf:=Tryz.func79) (hr:=Tryz.results79) (hcall:=Tryz.call79));(·rfl);(·(cbv;try rfl)))
  | ((with_reducible apply go_call_int (f:=112) (hf:=Tryz.call112));(·(cbv;try rfl));(·intro wc hbc hxc;exact jumpChk _ _ _ _ _ _ _ _ _ _ _ _ (jA b) (jn b) (jc b) (ja b) wc (by unfold maxLen;have:=hj b;omega) (hXk wc hbc b));intro z hz)
  | ((with_reducible refine go_loopk (σ:={b:Nat // b≤bn∧∀j,j<b→V j=true}) [2,6,8,9,10,12,26,27,28,29,30,31,32,33,34,35,36,37,38,39,40,41,42,43,44,45,46,47,48,49,50,51,52,53,54,55,56,57,58,59,60,61,62,63,64,65,66,67,68,69,70] (fun x=>[(25,.pt (.one (.int .i64 (.ofNat x.1))))]) (fun x=>[(1,[.bool (R x.1)])]) (fun x=>[]) (fun x=>bn - x.1) ⟨0,by omega,fun j hj=>by omega⟩ ?_ ?_ ?_ ?_);(·exact le_mkP wSyF_1 wSyF_1 wSyF_1 wSyF_1);(·(cbv;try rfl));(·simp);(rintro ⟨b,hb1,hbv⟩ mm hmm))
  | ((with_reducible refine go_loopk (σ:={i:Nat // i≤sn b∧∀j,j<i→(s b j).ok=true}) [2,8,33,34,35,36,37,38,39,40,41,42] (fun x=>[(32,.pt (.one (.int .i64 (.ofNat x.1))))]) (fun x=>[(1,[.bool (S b x.1)])]) (fun x=>[]) (fun x=>sn b - x.1) ⟨0,by omega,fun j hj=>by omega⟩ ?_ ?_ ?_ ?_);(·exact le_mkP wSyF_1 wSyF_1 wSyF_1 wSyF_1);(·(cbv;try rfl));(·simp);(rintro ⟨i,hi,hok⟩ mm hmm))
  | ((with_reducible refine go_stop ⟨i+1,by omega,all_succ hok (okI_inv hz h)⟩ ?_ ?_ ?_ ?_);(·exact Nat.lt_of_lt_of_eq (show sn b - (i+1)<sn b - i from by omega) (Eq.symm ‹_›));(·exact le_mkP wSyF_1 wSyF_1 wSyF_1 wSyF_1);(·(cbv;try rfl));(·simp))
  | (refine go_nearS _ _ _ (s b i) (hS1 b i) ?_)
  | ((have hi':i=sn b:=(by omega);subst hi';refine go_nearJ ⟨pa,un,lA,ln,lc,lk,lt,bA,bn,bc,sA,sn,sc,s,jA,jn,jc,ja,jk,jo,jf,jx,je,jd⟩ b (hj b) _ _ (hJ1 b) ?_))
  | (with_reducible apply go_rounds 4)
  | fail)
 rotate_left
 all_goals (try with_reducible refine bool_eq ?_)
 all_goals (try (first|exact hzf b ‹_› (hVs b i hlt (okI_inv' hz h))|exact hzf b hlt (hVj b (okI_inv' ‹_› ‹_›))|exact (show R b=z0 from (show b=bn by omega)▸hzt hbv)))
 all_goals (try have hjo:(GFun.jump ⟨pa,un,lA,ln,lc,lk,lt,bA,bn,bc,sA,sn,sc,s,jA,jn,jc,ja,jk,jo,jf,jx,je,jd⟩ b).ok=true:=okI_inv ‹_› ‹_›)
 all_goals (try have hv1:V b=true:=hVt b (fun j hj'=>hok j hj') hjo)
 rotate_right
 all_goals (try (have hbb:b=bn:=(by omega);have hbz:=hzt (fun j hj'=>hbv j (by omega));rw[hbb];exact hbz))
 all_goals (try with_reducible refine go_stop ⟨b+1,by omega,all_succ hbv hv1⟩ ?_ ?_ ?_ ?_)
 all_goals (first|exact Nat.lt_of_lt_of_eq (show bn - (b+1)<bn - b by omega) (Eq.symm ‹_›)|(simp;done)|(cbv;done)|skip)
 all_goals (try refine le_mk ?_ ?_ ?_ ?_)
 all_goals (cbv;(try simp only[true_and,and_true]);(try ((repeat' apply And.intro)<;>(first|trivial|rfl|(rw[wrap_nat har _ (by omega)])|skip))))
 all_goals (try (rw[hR1];simp_all[rCm,GJump.leads,GFun.jump];done))
 all_goals
  rw[hR1]
  have hx:¬jx b=je b:=of_decide_eq_false ‹_›
  have h2:jk b=2:=of_decide_eq_true ‹_›
  have hJb:J b=true:=by assumption
  have h':=h
  subst hcm
  have hy:¬je b=jx b:=fun h=>hx h.symm
  simp only[rCm,Int.ofNat_eq_natCast] at h'⊢
  simp only[GJump.leads,GFun.jump,h2,hJb,List.all]
  simp[hx,hy,h']
end
section
def arrC (f:Nat→Int):List SC:=[.int .i64 (f 0),.int .i64 (f 1),.int .i64 (f 2),.int .i64 (f 3),.int .i64 (f 4),.int .i64 (f 5),.int .i64 (f 6),.int .i64 (f 7),.int .i64 (f 8),.int .i64 (f 9),.int .i64 (f 10),.int .i64 (f 11),.int .i64 (f 12),.int .i64 (f 13),.int .i64 (f 14),.int .i64 (f 15)]
def bump (f:Nat→Int) (l:Int) (j:Nat):Int:=if Int.ofNat j=l then rAr .add .i64 (f j) 1 else f j
def cE (x:(Nat→Int)×(Nat→Int)) (p:GPlace) (b:Bool):(Nat→Int)×(Nat→Int):=
 (bump x.1 p.l,if b=true∧p.d=false∧p.f=0 then bump x.2 p.l else x.2)
theorem wSyG_0 {p:Prop} (h:p:=by (first|(cbv;(try simp only[true_and,and_true]);(try ((repeat' apply And.intro)<;>(first|trivial|rfl|exact RowLe.rfl' _|decide|(rw[wrap_nat har _ (by omega)])|((rw[hy];simp_all[cE,bump];done))|fail)));done)|fail)):Pf p:=⟨h⟩
set_option maxRecDepth 100000 in
set_option maxHeartbeats 1000000 in
theorem countOn (c:Nat→Nat→Row):OnOk c 149 ((Nat→Int)×(Nat→Int)) (fun x=>arrC x.1) (fun x=>arrC x.2) cE (fun p=>0≤p.l∧p.l<16) where
 call:=Tryz.call149
 re0:=fun _=>rfl
 re1:=fun _=>rfl
 bnd0:=fun _ _ _=>rfl
 bnd1:=fun _ _ _=>rfl
 eff:=by
  intro x p b hp
  obtain ⟨f,g⟩:=x
  obtain ⟨l,d,n⟩:=p
  simp only at hp
  obtain ⟨y,hy⟩:∃y,y=cE (f,g) ⟨l,d,n⟩ b:=⟨_,rfl⟩
  simp only[←hy]
  have hl:l=0∨l=1∨l=2∨l=3∨l=4∨l=5∨l=6∨l=7∨l=8∨l=9∨l=10∨l=11∨l=12∨l=13∨l=14∨l=15:=by omega
  clear hp
  rcases hl with rfl|rfl|rfl|rfl|rfl|rfl|rfl|rfl|rfl|rfl|rfl|rfl|rfl|rfl|rfl|rfl
  all_goals
   skip
   refine go_start_eff Tryz.func149 rfl rfl (fun w bs hlen=>?_)
   obtain ⟨nd,hnd,nt,hnt,ar,har,cm,hcm,mx,hmx,mn,hmn,ar01,ar12,zpl,hzpl,zjn,hzjn,zup,hzup,zmi,hzmi,zdp,hzdp,hT⟩:=t0_all
   repeat' (first
    | refine go1 ?_|refine go2 (fun h=>?_) (fun h=>?_)|refine gof ?_
    | ((with_reducible apply go_fin_effP hT hlen);(·(cbv;try rfl));(·(cbv;try rfl));(·rfl);(·exact wSyG_0);(·(cbv;try rfl)))
    | (((with_reducible apply go_ask);(·rfl);(·rfl)))
    | (((with_reducible apply go_askS);(·simp);(·rfl)))
    | fail)
end
section
def twoB (s:GStmt):Bool:=s.k==1&&s.r.k==4&&s.r.bo==3
set_option maxRecDepth 100000 in
set_option maxHeartbeats 1000000 in
theorem twoC (s:GStmt) (w:World):
 Calls Tryz.prog 150 #[s.val] w (Ret w (.bool (twoB s))):=by
 obtain ⟨k,⟨ql,qd,qf⟩,⟨rk,rop,rbo,⟨ak,an,⟨al,ad,af⟩⟩,⟨bk,bn,⟨bl,bd,bf⟩⟩,⟨pl,pd,pf⟩⟩,⟨ck,cn,⟨cl,cd,cf⟩⟩,l⟩:=s
 unfold twoB
 refine go_start (args:=[.pt (.agg (GStmt.sc _))]) (c:=NoRows) Tryz.func150 rfl (noRows_ok _) rfl rfl ?_
 obtain ⟨nd,hnd,nt,hnt,ar,har,cm,hcm,mx,hmx,mn,hmn,ar01,ar12,zpl,hzpl,zjn,hzjn,zup,hzup,zmi,hzmi,zdp,hzdp,hT⟩:=t0_all
 repeat' (first
  | refine go1 ?_|refine go2 (fun h=>?_) (fun h=>?_)
  | fail)
 all_goals
  clear ar01 ar12 hT
  subst hnd hnt hmx hmn
  refine bool_eq ?_
 all_goals grind
def arrB (f:Nat→Bool):List SC:=[.bool (f 0),.bool (f 1),.bool (f 2),.bool (f 3),.bool (f 4),.bool (f 5),.bool (f 6),.bool (f 7),.bool (f 8),.bool (f 9),.bool (f 10),.bool (f 11),.bool (f 12),.bool (f 13),.bool (f 14),.bool (f 15)]
def turn {α:Type} (f:Nat→α) (o:Nat) (v:α) (j:Nat):α:=if j=o then v else f j
theorem lt16 {o:Nat} (h:o<16):o=0∨o=1∨o=2∨o=3∨o=4∨o=5∨o=6∨o=7∨o=8∨o=9∨o=10∨o=11∨o=12∨o=13∨o=14∨o=15:=by omega
theorem arrC_get (f:Nat→Int) {o:Nat} (h:o<16):(arrC f)[o]? =some (.int .i64 (f o)):=by
 rcases lt16 h with rfl|rfl|rfl|rfl|rfl|rfl|rfl|rfl|rfl|rfl|rfl|rfl|rfl|rfl|rfl|rfl<;>rfl
theorem arrB_get (f:Nat→Bool) {o:Nat} (h:o<16):(arrB f)[o]? =some (.bool (f o)):=by
 rcases lt16 h with rfl|rfl|rfl|rfl|rfl|rfl|rfl|rfl|rfl|rfl|rfl|rfl|rfl|rfl|rfl|rfl<;>rfl
theorem arrC_put (f:Nat→Int) (v:Int) {o:Nat} (h:o<16):pasteL (arrC f) o [.int .i64 v]=arrC (turn f o v):=by
 rcases lt16 h with rfl|rfl|rfl|rfl|rfl|rfl|rfl|rfl|rfl|rfl|rfl|rfl|rfl|rfl|rfl|rfl<;>rfl
theorem bump_turn (f:Nat→Int) (o:Nat):bump f (Int.ofNat o)=turn f o (rAr .add .i64 (f o) 1):=by
 funext j
 unfold bump turn
 by_cases h:j=o
 · subst h;simp
 · have:¬Int.ofNat j=Int.ofNat o:=fun e=>h (Int.ofNat.inj e)
   rw[if_neg this,if_neg h]
theorem leH_setN {h:List (Option (List SC))} {b:Nat} {cs cs':List SC} (hc:leCL cs cs'):leH (setN h b (some cs)) (setN h b (some cs')):=by
 have hr:∀h:List (Option (List SC)),leH h h:=by
  intro h
  induction h with
  | nil=>trivial
  | cons x xs ih=>exact ⟨by cases x<;>simp[leB,leCL_refl],ih⟩
 induction h generalizing b with
 | nil=>cases b<;>simp[setN,leH]
 | cons x xs ih=>
   cases b with
   | zero=>exact ⟨hc,hr _⟩
   | succ b=>exact ⟨by cases x<;>simp[leB,leCL_refl],ih⟩
theorem arrB_putL (f:Nat→Bool) (v:Bool) {o:Nat} (h:o<16):leCL (pasteL (arrB f) o [.lit v]) (arrB (turn f o v)):=by
 rcases lt16 h with rfl|rfl|rfl|rfl|rfl|rfl|rfl|rfl|rfl|rfl|rfl|rfl|rfl|rfl|rfl|rfl<;>simp[arrB,pasteL,leCL,leCell,turn]
theorem off0 (n:Nat):(match 0,n with|n,Nat.zero=>n|a,Nat.succ b=>(Nat.add a b).succ:Nat)=n:=by
 cases n with
 | zero=>rfl
 | succ n=>show (Nat.add 0 n).succ=n.succ;simp
theorem off2 (L:Int):(match 0,match 0,match L with|Int.ofNat n=>n|Int.negSucc _=>0 with|n,Nat.zero=>n|a,Nat.succ b=>(Nat.add a b).succ with|n,Nat.zero=>n|a,Nat.succ b=>(Nat.add a b).succ:Nat)=L.toNat:=(off0 _).trans (off0 _)
theorem leS_refl' (x:SV):leS x x:=by
 cases x with
 | pt a=>cases a with
   | one c=>cases c<;>simp[leS,leA,leCell]
   | agg l=>exact leCL_refl l
 | tup l=>simp[leS]
theorem leR_refl':∀l:List (Option ORow),leR l l
 | []=>trivial
 | none::xs=>⟨trivial,leR_refl' xs⟩
 | some _::xs=>⟨RowLe.rfl' _,leR_refl' xs⟩
theorem leT_refl':∀l:List SV,leT l l
 | []=>trivial
 | x::xs=>⟨leS_refl' x,leT_refl' xs⟩
theorem leF_refl':∀l:List (List SV),leF l l
 | []=>trivial
 | x::xs=>⟨leT_refl' x,leF_refl' xs⟩
theorem go_askB {P:Program} {Q:Exit→Act→World→Prop} {c:Nat→Nat→Row} {w0:Base} {b o:Nat} {cs:List SC} {x:SC} {k:List Item} {st:St} (cs':List SC) (ho:o<cs.length) (hcs:leCL (pasteL cs o [x]) cs')
 (hb:({ st with h:=setN st.h b (some cs') }:St).bnd=true) (hm:w0.mo.length≤(setN st.h b (some cs')).length) (h:Goes P Q c w0 k { st with h:=setN st.h b (some cs') }):OutOk P Q c w0 (.askS b o cs x none k st):=
 go_askS _ ho rfl (go_le { st with h:=setN st.h b (some cs') } (le_mk (leT_refl' _) (leH_setN hcs) (leF_refl' _) (leR_refl' _)) hb hm h)
end
end Go.Proofs.YtamcjkgedgocfaaGreat
