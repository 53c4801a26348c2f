/- Texts joined: SyI SyJ SyK. No condition. -/
import Derived.Test.YtamcjkgedgocfaaGreatM8
namespace Go.Proofs.YtamcjkgedgocfaaGreat
open Go.RowKit
set_option linter.unusedVariables false
set_option linter.unusedSimpArgs false
section
section
variable {Q:Exit→Act→World→Prop} {w0:Base}
theorem go_cntS (F:GFun) (x y:(Nat→Int)×(Nat→Int)) (s:GStmt) (hy:y=stRun cE x s) (hD:stAll (fun p=>0≤p.l∧p.l<16) s) {c0 c1 c4:Option (List SC)} {h:List (Option (List SC))} {t:List SV} {fr:List (List SV)} {rr:List (Option ORow)} {dst:Option Nat} {k:List Item}
 (hg:Goes Tryz.prog Q (funX F) w0 k (({ t:=t,h:=c0::c1::some (arrC y.1)::some (arrC y.2)::c4::h,fr:=fr,r:=rr }:St).put dst (.tup []))):
 OutOk Tryz.prog Q (funX F) w0 (.call 147 [.pt (.agg s.sc),.pt (.one (.fn 149 [(2,0),(3,0)]))] dst k { t:=t,h:=c0::c1::some (arrC x.1)::some (arrC x.2)::c4::h,fr:=fr,r:=rr }):=by
 subst hy
 exact go_call_eff [2,3] (inStmtE (countOn (funX F)) x s hD) Tryz.call147 (by simp only[reV,SV.re,SA.re,SC.re,reP,nth];exact ⟨leCL_refl _,rfl,trivial⟩) (hs0:=[arrC x.1,arrC x.2]) rfl ⟨leCL_refl _,leCL_refl _,trivial⟩ rfl rfl rfl (by decide) rfl rfl hg
theorem go_cntJ (F:GFun) (b:Nat) (hj:F.jn b≤9223372036854775807) (x y:(Nat→Int)×(Nat→Int)) (hy:y=jmRun cE x (F.jk b) (F.jo b) (F.jd b) (F.jn b) (F.ja b)) (hD:jmAll (fun p=>0≤p.l∧p.l<16) (F.jk b) (F.jo b) (F.jd b) (F.jn b) (F.ja b)) {c0 c1 c4:Option (List SC)} {h:List (Option (List SC))} {t:List SV} {fr:List (List SV)} {rr:List (Option ORow)} {dst:Option Nat} {k:List Item}
 (hg:Goes Tryz.prog Q (funX F) w0 k (({ t:=t,h:=c0::c1::some (arrC y.1)::some (arrC y.2)::c4::h,fr:=fr,r:=rr }:St).put dst (.tup []))):
 OutOk Tryz.prog Q (funX F) w0 (.call 148 [.pt (.agg [.int .u8 (F.jk b),.int .u8 (F.jo b).k,.int .i64 (F.jo b).n,.int .i64 (F.jo b).p.l,.bool (F.jo b).p.d,.int .u8 (F.jo b).p.f,.int .i64 (F.jf b),.int .i64 (F.jx b),.int .i64 (F.je b),.xs 3 b,.int .i64 (F.jd b).l,.bool (F.jd b).d,.int .u8 (F.jd b).f]),.pt (.one (.fn 149 [(2,0),(3,0)]))] dst k { t:=t,h:=c0::c1::some (arrC x.1)::some (arrC x.2)::c4::h,fr:=fr,r:=rr }):=by
 subst hy
 exact go_call_eff [2,3] (inJumpE F b (countOn (funX F)) x hj hD) Tryz.call148 (by simp only[reV,SV.re,SA.re,SC.re,reP,nth];exact ⟨leCL_refl _,rfl,trivial⟩) (hs0:=[arrC x.1,arrC x.2]) rfl ⟨leCL_refl _,leCL_refl _,trivial⟩ rfl rfl rfl (by decide) rfl rfl hg
end
structure TS where
 c:(Nat→Int)×(Nat→Int)
 is:Nat→Bool
 sets:Nat→Int
def setB (s:GStmt):Bool:=twoB s&&!s.p.d&&decide (s.p.f=0)&&!decide (s.r.p.l=s.p.l)
def stTwo (x:TS) (s:GStmt):TS:=
 ⟨stRun cE x.c s,if twoB s=true then turn x.is s.p.l.toNat true else x.is,if setB s=true then turn x.sets s.p.l.toNat (rAr .add .i64 (x.sets s.p.l.toNat) 1) else x.sets⟩
def stsTwo (s:Nat→GStmt):Nat→TS→TS
 | 0,x=>x
 | i+1,x=>stTwo (stsTwo s i x) (s i)
def blTwo (F:GFun) (b:Nat) (x:TS):TS:=
 let y:=stsTwo (F.s b) (F.sn b) x
 ⟨jmRun cE y.c (F.jk b) (F.jo b) (F.jd b) (F.jn b) (F.ja b),y.is,y.sets⟩
def allTwo (F:GFun):Nat→TS
 | 0=>⟨(fun _=>0,fun _=>0),fun _=>false,fun _=>0⟩
 | b+1=>blTwo F b (allTwo F b)
def okTwo (pa:Int) (x:TS):Bool:=allN 16 fun t=>!(x.is t&&(decide (Int.ofNat t≤pa)||!decide (x.c.1 t=2)||!decide (x.c.2 t=1)||!decide (x.sets t=1)))
def arrV (f:Nat→Bool):Value:=.agg #[.bool (f 0),.bool (f 1),.bool (f 2),.bool (f 3),.bool (f 4),.bool (f 5),.bool (f 6),.bool (f 7),.bool (f 8),.bool (f 9),.bool (f 10),.bool (f 11),.bool (f 12),.bool (f 13),.bool (f 14),.bool (f 15)]
def twosB (F:GFun):Bool:=okTwo F.pa (allTwo F F.bn)
def GFun.In (F:GFun):Prop:=
 (∀b i,b<F.bn→i<F.sn b→stAll (fun p=>0≤p.l∧p.l<16) (F.s b i))∧
 (∀b,b<F.bn→jmAll (fun p=>0≤p.l∧p.l<16) (F.jk b) (F.jo b) (F.jd b) (F.jn b) (F.ja b))
theorem leaf_false {G:Nat→Bool} {i:Nat} {z:Bool} (_h:∀j,j<i→G j=true) (h16:i<16) (hz:z=allN 16 G) (hg:G i=false):z=false:=hz.trans (allN_false h16 hg)
theorem wSyI_0 {p:Prop} (h:p:=by (first|(cbv;(try simp only[true_and,and_true]);(try ((repeat' apply And.intro)<;>(first|trivial|rfl|exact RowLe.rfl' _|decide|(rw[wrap_nat har _ (by omega)])|((rw[c3];done))|((rw[i3];done))|((rw[s3];done))|((rw[c0];done))|((rw[i0];done))|((rw[s0];done))|((rw[i1];simp_all;done))|((rw[s1];simp_all[setB];done))|((have hsb:=hs b;rw[wrap_nat har _ (by omega)]))|fail)));done)|fail)):Pf p:=⟨h⟩
set_option maxRecDepth 100000 in
set_option maxHeartbeats 8000000 in
theorem twosC (F:GFun) (w:World) (hF:F.At w) (hI:F.In):
 Calls Tryz.prog 106 #[F.val] w (Ret w (.tuple #[arrV (allTwo F F.bn).is,.bool (twosB F)])):=by
 obtain ⟨Is,Ij⟩:=hI
 obtain ⟨X,hX0⟩:∃X:Nat→TS,X=allTwo F:=⟨_,rfl⟩
 obtain ⟨Y,hY0⟩:∃Y:Nat→Nat→TS,Y=fun b i=>stsTwo (F.s b) i (X b):=⟨_,rfl⟩
 obtain ⟨XC,hXC⟩:∃g:Nat→(Nat→Int)×(Nat→Int),g=fun b=>(X b).c:=⟨_,rfl⟩
 obtain ⟨XI,hXI⟩:∃g:Nat→Nat→Bool,g=fun b=>(X b).is:=⟨_,rfl⟩
 obtain ⟨XS,hXS⟩:∃g:Nat→Nat→Int,g=fun b=>(X b).sets:=⟨_,rfl⟩
 obtain ⟨YC,hYC⟩:∃g:Nat→Nat→(Nat→Int)×(Nat→Int),g=fun b i=>(Y b i).c:=⟨_,rfl⟩
 obtain ⟨YI,hYI⟩:∃g:Nat→Nat→Nat→Bool,g=fun b i=>(Y b i).is:=⟨_,rfl⟩
 obtain ⟨YS,hYS⟩:∃g:Nat→Nat→Nat→Int,g=fun b i=>(Y b i).sets:=⟨_,rfl⟩
 have c0:∀b,YC b 0=XC b:=fun b=>by rw[hYC,hXC,hY0];rfl
 have i0:∀b,YI b 0=XI b:=fun b=>by rw[hYI,hXI,hY0];rfl
 have s0:∀b,YS b 0=XS b:=fun b=>by rw[hYS,hXS,hY0];rfl
 have c1:∀b i,YC b (i+1)=stRun cE (YC b i) (F.s b i):=fun b i=>by rw[hYC,hY0];rfl
 have i1:∀b i,YI b (i+1)=if twoB (F.s b i)=true then turn (YI b i) (F.s b i).p.l.toNat true else YI b i:=fun b i=>by rw[hYI,hY0];rfl
 have s1:∀b i,YS b (i+1)=if setB (F.s b i)=true then turn (YS b i) (F.s b i).p.l.toNat (rAr .add .i64 (YS b i (F.s b i).p.l.toNat) 1) else YS b i:=fun b i=>by rw[hYS,hY0];rfl
 have c2:∀b,XC (b+1)=jmRun cE (YC b (F.sn b)) (F.jk b) (F.jo b) (F.jd b) (F.jn b) (F.ja b):=fun b=>by rw[hXC,hYC,hY0,hX0];rfl
 have i2:∀b,XI (b+1)=YI b (F.sn b):=fun b=>by rw[hXI,hYI,hY0,hX0];rfl
 have s2:∀b,XS (b+1)=YS b (F.sn b):=fun b=>by rw[hXS,hYS,hY0,hX0];rfl
 have c3:XC 0=(fun _=>0,fun _=>0):=by rw[hXC,hX0];rfl
 have i3:XI 0=fun _=>false:=by rw[hXI,hX0];rfl
 have s3:XS 0=fun _=>0:=by rw[hXS,hX0];rfl
 have e1:(allTwo F F.bn).is=XI F.bn:=by rw[hXI,hX0]
 obtain ⟨z0,hz0⟩:∃z,z=twosB F:=⟨_,rfl⟩
 obtain ⟨G,hG⟩:∃G:Nat→Bool,G=fun t=>!(XI F.bn t&&(decide (Int.ofNat t≤F.pa)||!decide ((XC F.bn).1 t=2)||!decide ((XC F.bn).2 t=1)||!decide (XS F.bn t=1))):=⟨_,rfl⟩
 have hz1:z0=allN 16 fun t=>!(XI F.bn t&&(decide (Int.ofNat t≤F.pa)||!decide ((XC F.bn).1 t=2)||!decide ((XC F.bn).2 t=1)||!decide (XS F.bn t=1))):=by rw[hz0,hXI,hXC,hXS,hX0];rfl
 have hQ:∀b i,b<F.bn→i<F.sn b→twoB (F.s b i)=true→0≤(F.s b i).p.l∧(F.s b i).p.l<16:=fun b i hb hi h=>by
  have h1:=(Is b i hb hi).2.2
  have h2:(F.s b i).k=1:=by simp only[twoB,Bool.and_eq_true,beq_iff_eq] at h;exact h.1.1
  exact (h1 h2).1
 have hzG:z0=allN 16 G:=by rw[hz1,hG]
 have hGf1:∀t,XI F.bn t=true→rCm .leq (Int.ofNat t) F.pa=true→G t=false:=fun t h1 h2=>by
  have h2:decide (Int.ofNat t≤F.pa)=true:=h2
  simp only[hG,h1,h2];rfl
 have hGf2:∀t,XI F.bn t=true→decide ((XC F.bn).1 t=2)=false→G t=false:=fun t h1 h2=>by simp only[hG,h1,h2];simp
 have hGf3:∀t,XI F.bn t=true→decide ((XC F.bn).2 t=1)=false→G t=false:=fun t h1 h2=>by simp only[hG,h1,h2];simp
 have hGf4:∀t,XI F.bn t=true→decide (XS F.bn t=1)=false→G t=false:=fun t h1 h2=>by simp only[hG,h1,h2];simp
 have hGt1:∀t,XI F.bn t=false→G t=true:=fun t h1=>by simp only[hG,h1];rfl
 have hGt2:∀t,rCm .leq (Int.ofNat t) F.pa=false→decide ((XC F.bn).1 t=2)=true→decide ((XC F.bn).2 t=1)=true→decide (XS F.bn t=1)=true→G t=true:=fun t h1 h2 h3 h4=>by
  have h1:decide (Int.ofNat t≤F.pa)=false:=h1
  simp only[hG,h1,h2,h3,h4];simp
 clear hz1 hG
 rw[e1,←hz0]
 clear hz0 hX0 hY0 hXC hXI hXS hYC hYI hYS e1
 obtain ⟨pa,un,lA,ln,lc,lk,lt,bA,bn,bc,sA,sn,sc,s,jA,jn,jc,ja,jk,jo,jf,jx,je,jd⟩:=F
 obtain ⟨hX,hl,hb,hs,hj⟩:=hF
 simp only at hl hb hs hj
 simp only[] at Is Ij c1 i1 s1 c2 i2 s2 hzG hQ hGf1 hGf2 hGf3 hGf4 hGt1 hGt2
 refine go_start (args:=[.pt (.agg (GFun.dat _))]) (c:=(funX _)) Tryz.func106 rfl hX rfl rfl ?_
 obtain ⟨nd,hnd,nt,hnt,ar,har,cm,hcm,mx,hmx,mn,hmn,ar01,ar12,zpl,hzpl,zjn,hzjn,zup,hzup,zmi,hzmi,zdp,hzdp,hT⟩:=t0_all
 simp only[←hcm] at hGf1 hGt2
 have hl16:∀t:Nat,cm .lss (.ofNat t) 16=true→t<16:=fun t h=>by
  rw[hcm] at h
  have:=of_decide_eq_true (show decide ((t:Int)<16)=true from h)
  omega
 repeat' (first
  | refine go1 ?_|refine go3 (fun hlt=>?_) (fun hge=>?_)|refine go2 (fun h=>?_) (fun h=>?_)|refine gof ?_
  | ((with_reducible apply go_call_bool (f:=150) (hf:=Tryz.call150));(·(cbv;try rfl));(·intro wc hbc hxc;exact twoC (s b i) wc);intro z hz)
  | ((with_reducible refine go_loopk (σ:={b:Nat // b≤bn}) [9,11,19,20,21,22,23,24,25,26,27,28,29,30,31,32,33,34,35,36,37,38,39,40,41,42,43,44,45,46,47,48,49,50,51,52,53,54,55,56,57,58,59,60,61,62,63,64,65,66,67,68,69,70,71,72,73,74] (fun x=>[(18,.pt (.one (.int .i64 (.ofNat x.1))))]) (fun x=>[(1,arrB (XI x.1)),(2,arrC (XC x.1).1),(3,arrC (XC x.1).2),(4,arrC (XS x.1))]) (fun x=>[]) (fun x=>bn - x.1) ⟨0,by omega⟩ ?_ ?_ ?_ ?_);(·exact le_mkP wSyI_0 wSyI_0 wSyI_0 wSyI_0);(·(cbv;try rfl));(·simp);(rintro ⟨b,hb1⟩ mm hmm))
  | ((with_reducible refine go_loopk (σ:={i:Nat // i≤sn b}) [11,26,27,28,29,30,31,32,33,34,35,36,37,38,39,40,41,42,43,44,45,46,47,48,49,50,51,52,53,54,55,56,57,58,59,60,61,62,63,64,65,66,67,68,69] (fun x=>[(25,.pt (.one (.int .i64 (.ofNat x.1))))]) (fun x=>[(1,arrB (YI b x.1)),(2,arrC (YC b x.1).1),(3,arrC (YC b x.1).2),(4,arrC (YS b x.1))]) (fun x=>[]) (fun x=>sn b - x.1) ⟨0,by omega⟩ ?_ ?_ ?_ ?_);(·exact le_mkP wSyI_0 wSyI_0 wSyI_0 wSyI_0);(·(cbv;try rfl));(·simp);(rintro ⟨i,hi⟩ mm hmm))
  | (refine go_cntS _ (YC b i) (YC b (i+1)) (s b i) (c1 b i) (Is b i ‹_› ‹_›) ?_)
  | ((have hi':i=sn b:=(by omega);subst hi';refine go_cntJ ⟨pa,un,lA,ln,lc,lk,lt,bA,bn,bc,sA,sn,sc,s,jA,jn,jc,ja,jk,jo,jf,jx,je,jd⟩ b (hj b) (YC b (sn b)) (XC (b+1)) (c2 b) (Ij b ‹_›) ?_))
  | (((with_reducible apply go_need);(·exact (hQ b i ‹_› ‹_› (by simp_all)).1);(·have hq:=(hQ b i ‹_› ‹_› (by simp_all)).2;omega)))
  | (((with_reducible apply go_ask (.int .i64 (YS b i (s b i).p.l.toNat)));(·have hq:=(hQ b i ‹_› ‹_› (by simp_all));exact Eq.trans (congrArg (fun o=>(arrC (YS b i))[o]?) (off2 (s b i).p.l)) (arrC_get (YS b i) (by omega)));(·rfl)))
  | (((with_reducible apply go_askS (arrC (YS b (i+1))));(·have hq:=(hQ b i ‹_› ‹_› (by simp_all));exact lt_of_eq_of_lt (off2 (s b i).p.l) (by show _<16;omega));(·have hq:=(hQ b i ‹_› ‹_› (by simp_all));exact Eq.trans (congrArg (fun o=>pasteL (arrC (YS b i)) o [.int .i64 (ar .add .i64 (YS b i (s b i).p.l.toNat) 1)]) (off2 (s b i).p.l)) (by rw[arrC_put _ _ (by omega),s1,har,if_pos (by simp_all[setB])]))))
  | (((with_reducible apply go_askB (arrB (YI b (i+1))));(·have hq:=(hQ b i ‹_› ‹_› (by simp_all));exact lt_of_eq_of_lt (off2 (s b i).p.l) (by show _<16;omega));(·have hq:=(hQ b i ‹_› ‹_› (by simp_all));have hp:=arrB_putL (YI b i) true (o:=(s b i).p.l.toNat) (by omega);rw[i1,if_pos (by simp_all)];exact Eq.mpr (congrArg (fun o=>leCL (pasteL (arrB (YI b i)) o [.lit true]) (arrB (turn (YI b i) (s b i).p.l.toNat true))) (off2 (s b i).p.l)) hp);(·rfl);(·simp)))
  | (((with_reducible refine go_stop ⟨b+1,by omega⟩ ?_ ?_ ?_ ?_);(·exact Nat.lt_of_lt_of_eq (show bn - (b+1)<bn - b by omega) (Eq.symm ‹_›));(·(refine le_mk ?_ ?_ ?_ ?_<;>(cbv;(try simp only[true_and,and_true]);(try ((repeat' apply And.intro)<;>(first|trivial|rfl|(rw[wrap_nat har _ (by omega)])|(rw[i2])|(rw[s2])))))));(·(cbv;try rfl));(·simp)))
  | ((with_reducible refine go_stop ⟨i+1,by omega⟩ ?_ ?_ ?_ ?_);(·exact Nat.lt_of_lt_of_eq (show sn b - (i+1)<sn b - i from by omega) (Eq.symm ‹_›));(·exact le_mkP wSyI_0 wSyI_0 wSyI_0 wSyI_0);(·(cbv;try rfl));(·simp))
  | ((with_reducible refine go_loopk (σ:={t:Nat // t≤16∧∀j,j<t→G j=true}) [3,12,13,77,78,79,80,81,82,83,84,85,86,87,88,89,90,91,92,93,94,95,96,97,98,99,100,101,102,103,104,105,106] (fun x=>[(76,.pt (.one (.int .i64 (.ofNat x.1))))]) (fun x=>[]) (fun x=>[]) (fun x=>16 - x.1) ⟨0,by omega,fun j hj=>by omega⟩ ?_ ?_ ?_ ?_);(·exact le_mkP wSyI_0 wSyI_0 wSyI_0 wSyI_0);(·(cbv;try rfl));(·simp);(rintro ⟨t,ht,htv⟩ mm hmm))
  | (((with_reducible apply go_need);(·exact Int.natCast_nonneg _);(·have hq:=hl16 t ‹_›;show (t:Int)<((16:Nat):Int);omega)))
  | ((with_reducible refine go_stop ⟨t+1,by have:=hl16 t ‹_›;omega,all_succ htv (by have hbb:b=bn:=(by omega);subst hbb;first|exact hGt1 _ ‹_›|exact hGt2 _ ‹_› ‹_› ‹_› ‹_›)⟩ ?_ ?_ ?_ ?_);(·subst hmm;exact Nat.lt_of_lt_of_eq (Nat.sub_lt_sub_left (hl16 t ‹_›) (Nat.lt_succ_self t)) rfl);(·exact le_mkP wSyI_0 wSyI_0 wSyI_0 wSyI_0);(·(cbv;try rfl));(·simp))
  | (((with_reducible apply go_ask (.bool (XI b t)));(·exact arrB_get (XI b) (by first|assumption|exact hl16 _ ‹_›|omega));(·rfl)))
  | (((with_reducible apply go_ask (.int .i64 ((XC b).1 t)));(·exact Eq.trans (congrArg (fun o=>(arrC (XC b).1)[o]?) ((off0 _).trans (off0 t))) (arrC_get (XC b).1 (by first|assumption|exact hl16 _ ‹_›|omega)));(·rfl)))
  | (((with_reducible apply go_ask (.int .i64 ((XC b).2 t)));(·exact Eq.trans (congrArg (fun o=>(arrC (XC b).2)[o]?) ((off0 _).trans (off0 t))) (arrC_get (XC b).2 (by first|assumption|exact hl16 _ ‹_›|omega)));(·rfl)))
  | (((with_reducible apply go_ask (.int .i64 (XS b t)));(·exact Eq.trans (congrArg (fun o=>(arrC (XS b))[o]?) ((off0 _).trans (off0 t))) (arrC_get (XS b) (by first|assumption|exact hl16 _ ‹_›|omega)));(·rfl)))
  | fail)
 all_goals
  have hbb:b=bn:=by omega
  subst hbb
  first
   | (have h16:=hl16 t ‹_›
      have e:z0=false:=leaf_false htv h16 hzG (by first|exact hGf1 _ ‹_› ‹_›|exact hGf2 _ ‹_› ‹_›|exact hGf3 _ ‹_› ‹_›|exact hGf4 _ ‹_› ‹_›)
      rw[e];rfl)
   | (have h16:t=16:=by
       have h1:cm .lss (.ofNat t) 16=false:=by assumption
       rw[hcm] at h1
       have h2:=of_decide_eq_false (show decide ((t:Int)<16)=false from h1)
       omega
      subst h16
      have e:z0=true:=hzG.trans (allN_iff.2 htv)
      rw[e];rfl)
 trace_state
end
section
theorem oper_in {o:GOper} (h:o.ok=true) (h1:o.k≠1):0≤o.p.l∧o.p.l<16:=by
 simp only[GOper.ok,GPlace.ok,Bool.or_eq_true,Bool.and_eq_true,beq_iff_eq,decide_eq_true_eq] at h
 grind
theorem place_in {p:GPlace} (h:p.ok=true):0≤p.l∧p.l<16:=by
 simp only[GPlace.ok,Bool.and_eq_true,decide_eq_true_eq] at h
 exact h.1
theorem ok_stAll {s:GStmt} (h:s.ok=true):stAll (fun p=>0≤p.l∧p.l<16) s:=by
 simp only[GStmt.ok,GRv.ok,Bool.or_eq_true,Bool.and_eq_true,beq_iff_eq,decide_eq_true_eq] at h
 refine ⟨fun hk=>?_,fun hk ha=>?_,fun hk=>⟨?_,fun hr=>?_,fun hr=>⟨fun ha=>?_,fun h1 hb=>?_⟩⟩⟩
 · show 0≤s.l∧s.l<16
   omega
 · refine oper_in ?_ ha
   grind
 · refine place_in ?_
   grind
 · refine place_in ?_
   grind
 · refine oper_in ?_ ha
   grind
 · refine oper_in ?_ hb
   grind
theorem ok_jmAll {k:Int} {a:GOper} {fn nx el:Int} {n:Nat} {g:Nat→GOper} {d:GPlace} (h:(GJump.mk k a fn nx el (argL n g) d).ok=true):jmAll (fun p=>0≤p.l∧p.l<16) k a d n g:=by
 simp only[GJump.ok,Bool.or_eq_true,Bool.and_eq_true,beq_iff_eq,decide_eq_true_eq] at h
 refine ⟨fun hk ha=>?_,fun hk=>⟨?_,fun i hi h1=>?_⟩⟩
 · refine oper_in ?_ ha
   grind
 · refine place_in ?_
   grind
 · refine oper_in ?_ h1
   have:(argL n g).all GOper.ok=true:=by grind
   rw[argL,List.all_map,List.all_eq_true] at this
   exact this i (List.mem_range.2 hi)
theorem valid_in (F:GFun) (h:allN F.bn (validB F)=true):F.In:=by
 refine ⟨fun b i hb hi=>ok_stAll ?_,fun b hb=>ok_jmAll (fn:=F.jf b) (nx:=F.jx b) (el:=F.je b) ?_⟩
 · have hv:=allN_iff.1 h b hb
   simp only[validB,Bool.and_eq_true] at hv
   exact allN_iff.1 hv.1 i hi
 · have hv:=allN_iff.1 h b hb
   simp only[validB,Bool.and_eq_true] at hv
   exact hv.2
theorem made_in (F:GFun) (h:madeB F=true):F.In:=by
 simp only[madeB,Bool.and_eq_true] at h
 exact valid_in F h.1
end
section
def fchkV (F:GFun):Int:=if largeB F then 4 else if !madeB F then 8 else if !twosB F then 12 else 0
set_option maxRecDepth 100000 in
set_option maxHeartbeats 4000000 in
theorem fnChk (F:GFun) (w:World) (hF:F.At w):
 Calls Tryz.prog 68 #[F.val] w (Ret w (.int .i64 (fchkV F))):=by
 have h1 (wc:World) (hk:KB ⟨w,[]⟩ wc):=largeC F wc (hF.later hk)
 have h2 (wc:World) (hk:KB ⟨w,[]⟩ wc):=madeC F wc (hF.later hk)
 have h3 (hm:madeB F=true) (wc:World) (hk:KB ⟨w,[]⟩ wc):=twosC F wc (hF.later hk) (made_in F hm)
 unfold fchkV
 obtain ⟨q1,hq1⟩:∃b,b=largeB F:=⟨_,rfl⟩
 obtain ⟨q2,hq2⟩:∃b,b=madeB F:=⟨_,rfl⟩
 obtain ⟨q3,hq3⟩:∃b,b=twosB F:=⟨_,rfl⟩
 obtain ⟨is,his⟩:∃v,v=(allTwo F F.bn).is:=⟨_,rfl⟩
 rw[←hq1] at h1⊢
 rw[←hq2] at h2⊢
 rw[←hq3] at h3⊢
 rw[←hq2,←his] at h3
 clear hq1 hq2 hq3 his
 obtain ⟨pa,un,lA,ln,lc,lk,lt,bA,bn,bc,sA,sn,sc,s,jA,jn,jc,ja,jk,jo,jf,jx,je,jd⟩:=F
 obtain ⟨hX,hl,hb,hs,hj⟩:=hF
 simp only at hl hb hs hj
 refine go_start (args:=[.pt (.agg (GFun.dat _))]) (c:=(funX _)) Tryz.func68 rfl hX rfl rfl ?_
 obtain ⟨nd,hnd,nt,hnt,ar,har,cm,hcm,mx,hmx,mn,hmn,ar01,ar12,zpl,hzpl,zjn,hzjn,zup,hzup,zmi,hzmi,zdp,hzdp,hT⟩:=t0_all
 repeat' (first
  | refine go1 ?_|refine go2 (fun h=>?_) (fun h=>?_)
  | ((with_reducible apply go_call_bool (f:=104) (hf:=Tryz.call104));(·(cbv;try rfl));(·intro wc hbc hxc;exact h1 wc hbc);intro z hz)
  | ((with_reducible apply go_call_bool (f:=105) (hf:=Tryz.call105));(·(cbv;try rfl));(·intro wc hbc hxc;exact h2 wc hbc);intro z hz)
  | ((with_reducible apply go_call (f:=106) (hf:=Tryz.call106));(·(cbv;try rfl));(·intro wc hbc hxc;exact h3 (by first|(rw[←hz];assumption)|simp_all) wc hbc))
  | fail)
 all_goals (refine int_eq ?_;clear hX hT h1 h2 h3;subst hnd hnt;simp_all)
 all_goals trace_state
end
end Go.Proofs.YtamcjkgedgocfaaGreat
