/- Texts joined: SvA SvB SvC SvE SvH SvI. No condition. -/
import Derived.Test.YtamcjkgedgocfaaGreatM7
import Derived.Test.YtamcjkgedgocfaaGreatM5
import Derived.Test.YtamcjkgedgocfaaGreatN3
import Derived.Test.YtamcjkgedgocfaaGreatN5
namespace Go.Proofs.YtamcjkgedgocfaaGreat
open Go.RowKit
set_option linter.unusedVariables false
set_option linter.unusedSimpArgs false
section
def tyP:List CK:=[.i .u8,.i .u8]
def opP:List CK:=[.i .u8,.i .i64,.i .i64,.b,.i .u8]
def blP:List CK:=[.s,.i .u8,.i .u8,.i .i64,.i .i64,.b,.i .u8,.i .i64,.i .i64,.i .i64,.s,.i .i64,.b,.i .u8]
def stP:List CK:=[.i .u8,.i .i64,.b,.i .u8,.i .u8,.i .u8,.i .u8,.i .u8,.i .i64,.i .i64,.b,.i .u8,.i .u8,.i .i64,.i .i64,.b,.i .u8,.i .i64,.b,.i .u8,.i .u8,.i .i64,.i .i64,.b,.i .u8,.i .i64]
def decP (cs:List SC) (o:Nat):GPlace:=⟨numC (nthC cs o),booC (nthC cs (o+1)),numC (nthC cs (o+2))⟩
def decO (cs:List SC) (o:Nat):GOper:=⟨numC (nthC cs o),numC (nthC cs (o+1)),decP cs (o+2)⟩
def decR (cs:List SC) (o:Nat):GRv:=⟨numC (nthC cs o),numC (nthC cs (o+1)),numC (nthC cs (o+2)),decO cs (o+3),decO cs (o+8),decP cs (o+13)⟩
def decS (cs:List SC) (o:Nat):GStmt:=⟨numC (nthC cs o),decP cs (o+1),decR cs (o+4),decO cs (o+20),numC (nthC cs (o+25))⟩
def litF (h:List (Option (List SC))) (B:Nat→Nat) (pa:Int) (un:Bool) (l b:SC):GFun where
 pa:=pa
 un:=un
 lA:=adrC B l
 ln:=lenC l
 lc:=capC l
 lk:=fun i=>numC (nthC (cellsOf h l) (i * 2))
 lt:=fun i=>numC (nthC (cellsOf h l) (i * 2+1))
 bA:=adrC B b
 bn:=lenC b
 bc:=capC b
 sA:=fun i=>adrC B (nthC (cellsOf h b) (i * 14))
 sn:=fun i=>lenC (nthC (cellsOf h b) (i * 14))
 sc:=fun i=>capC (nthC (cellsOf h b) (i * 14))
 s:=fun i j=>decS (cellsOf h (nthC (cellsOf h b) (i * 14))) (j * 26)
 jA:=fun i=>adrC B (nthC (cellsOf h b) (i * 14+10))
 jn:=fun i=>lenC (nthC (cellsOf h b) (i * 14+10))
 jc:=fun i=>capC (nthC (cellsOf h b) (i * 14+10))
 ja:=fun i j=>decO (cellsOf h (nthC (cellsOf h b) (i * 14+10))) (j * 5)
 jk:=fun i=>numC (nthC (cellsOf h b) (i * 14+1))
 jo:=fun i=>decO (cellsOf h b) (i * 14+2)
 jf:=fun i=>numC (nthC (cellsOf h b) (i * 14+7))
 jx:=fun i=>numC (nthC (cellsOf h b) (i * 14+8))
 je:=fun i=>numC (nthC (cellsOf h b) (i * 14+9))
 jd:=fun i=>decP (cellsOf h b) (i * 14+11)
def litOk (h:List (Option (List SC))) (l b:SC):Bool:=
 rowOk h tyP l&&rowOk h blP b&&decide ((cellsOf h b).length≤lenC b * 14)&&(List.range (lenC b)).all fun i=>rowOk h stP (nthC (cellsOf h b) (i * 14))&&rowOk h opP (nthC (cellsOf h b) (i * 14+10))
theorem nthC_none {cs:List SC} {i:Nat} (h:cs.length≤i):nthC cs i=.any:=by
 unfold nthC
 rw[nth_eq,List.getElem?_eq_none h]
theorem litF_at {c:Nat→Nat→Row} {w:World} {S:Nat→Value} {B:Nat→Nat} {st:St} (hM:MemIs c w S B st) {pa:Int} {un:Bool} {l b:SC} (hok:litOk st.h l b=true):(litF st.h B pa un l b).At w:=by
 simp only[litOk,Bool.and_eq_true,decide_eq_true_eq,List.all_eq_true,List.mem_range] at hok
 obtain ⟨⟨⟨h1,h2⟩,h3⟩,h4⟩:=hok
 have hs:∀i,rowOk st.h stP (nthC (cellsOf st.h b) (i * 14))=true∨nthC (cellsOf st.h b) (i * 14)=.any:=fun i=>by
  by_cases hi:i<lenC b
  · exact .inl (h4 i hi).1
  · exact .inr (nthC_none (by omega))
 have hj:∀i,rowOk st.h opP (nthC (cellsOf st.h b) (i * 14+10))=true∨nthC (cellsOf st.h b) (i * 14+10)=.any:=fun i=>by
  by_cases hi:i<lenC b
  · exact .inl (h4 i hi).2
  · exact .inr (nthC_none (by omega))
 refine ⟨?_,?_,?_,fun i=>?_,fun i=>?_⟩
 · intro q i j hq
   match q with
   | 0=>
     obtain ⟨g,p,ha,hlt,hcell⟩:=rowOk_at hM h1 (j:=j) hq
     exact ⟨g,p,ha,hlt,by simp,valsL B tyP (cellsOf st.h l) (j * tyP.length),(by repeat' (first|exact True.intro|exact rfl|refine And.intro ?_ ?_)),hcell⟩
   | 1=>
     obtain ⟨g,p,ha,hlt,hcell⟩:=rowOk_at hM h2 (j:=j) hq
     exact ⟨g,p,ha,hlt,by simp,valsL B blP (cellsOf st.h b) (j * blP.length),(by repeat' (first|exact True.intro|exact rfl|refine And.intro ?_ ?_)),hcell⟩
   | 2=>
     rcases hs i with h|h
     · obtain ⟨g,p,ha,hlt,hcell⟩:=rowOk_at hM h (j:=j) hq
       exact ⟨g,p,ha,hlt,by simp,valsL B stP (cellsOf st.h (nthC (cellsOf st.h b) (i * 14))) (j * stP.length),(by repeat' (first|exact True.intro|exact rfl|refine And.intro ?_ ?_)),hcell⟩
     · have hq':j<lenC (nthC (cellsOf st.h b) (i * 14)):=hq
       rw[h] at hq'
       simp[lenC] at hq'
   | q+3=>
     rcases hj i with h|h
     · obtain ⟨g,p,ha,hlt,hcell⟩:=rowOk_at hM h (j:=j) hq
       exact ⟨g,p,ha,hlt,by simp,valsL B opP (cellsOf st.h (nthC (cellsOf st.h b) (i * 14+10))) (j * opP.length),(by repeat' (first|exact True.intro|exact rfl|refine And.intro ?_ ?_)),hcell⟩
     · have hq':j<lenC (nthC (cellsOf st.h b) (i * 14+10)):=hq
       rw[h] at hq'
       simp[lenC] at hq'
 · have:=rowOk_n h1;show lenC l≤_;omega
 · have:=rowOk_n h2;show lenC b≤_;omega
 · show lenC (nthC (cellsOf st.h b) (i * 14))≤_
   rcases hs i with h|h
   · have:=rowOk_n h;omega
   · rw[h];simp[lenC]
 · show lenC (nthC (cellsOf st.h b) (i * 14+10))≤_
   rcases hj i with h|h
   · have:=rowOk_n h;omega
   · rw[h];simp[lenC]
end
section
def GFun.Ok (F:GFun):Prop:=fchkV F=0
namespace GFun.Ok
variable {F:GFun}
theorem large (h:F.Ok):largeB F=false:=by
 unfold GFun.Ok fchkV at h
 split at h
 · omega
 · rename_i g;simpa using g
theorem made (h:F.Ok):madeB F=true:=by
 have hl:=h.large
 unfold GFun.Ok fchkV at h
 rw[hl] at h
 cases hm:madeB F with
 | true=>rfl
 | false=>rw[hm] at h;simp at h
theorem twos (h:F.Ok):twosB F=true:=by
 have hl:=h.large
 have hm:=h.made
 unfold GFun.Ok fchkV at h
 rw[hl,hm] at h
 cases ht:twosB F with
 | true=>rfl
 | false=>rw[ht] at h;simp at h
theorem valid (h:F.Ok):allN F.bn (validB F)=true:=by
 have:=h.made
 simp only[madeB,Bool.and_eq_true] at this
 exact this.1
theorem okS (h:F.Ok) {b i:Nat} (hb:b<F.bn) (hi:i<F.sn b):(F.s b i).ok=true:=by
 have:=allN_iff.1 h.valid b hb
 simp only[validB,Bool.and_eq_true] at this
 exact allN_iff.1 this.1 i hi
theorem okJ (h:F.Ok) {b:Nat} (hb:b<F.bn):(F.jump b).ok=true:=by
 have:=allN_iff.1 h.valid b hb
 simp only[validB,Bool.and_eq_true] at this
 exact this.2
theorem head (h:F.Ok):headB F=true:=by
 have:=h.made
 rw[madeB,rightB_eq] at this
 simp only[Bool.and_eq_true] at this
 exact this.2.1.1
theorem bpos (h:F.Ok):0<F.bn:=by
 have:=h.made
 rw[madeB,rightB_eq] at this
 simp only[Bool.and_eq_true,decide_eq_true_eq] at this
 exact this.2.1.2
theorem near (h:F.Ok) {b:Nat} (hb:b<F.bn):nearB F b=true:=by
 have:=h.made
 rw[madeB,rightB_eq] at this
 simp only[Bool.and_eq_true] at this
 exact allN_iff.1 this.2.2 b hb
theorem ln16 (h:F.Ok):F.ln≤16:=large_ln h.large
theorem lpos (h:F.Ok):0<F.ln:=by
 have:=h.head
 simp only[headB,Bool.and_eq_true,Bool.not_eq_true',beq_eq_false_iff_ne] at this
 omega
theorem bn24 (h:F.Ok):F.bn≤24:=by
 have:=h.large
 simp only[largeB,Bool.or_eq_false_iff,decide_eq_false_iff_not] at this
 omega
theorem sn24 (h:F.Ok) {b:Nat} (hb:b<F.bn):F.sn b≤24:=by
 have:=h.large
 simp only[largeB,Bool.or_eq_false_iff,decide_eq_false_iff_not,Bool.not_eq_false'] at this
 exact of_decide_eq_true (allN_iff.1 this.2 b hb)
theorem jn8 (h:F.Ok) {b:Nat} (hb:b<F.bn):F.jn b≤8:=jok_n (h.okJ hb)
theorem small (h:F.Ok):F.Sm:=⟨fun b hb=>by have:=h.sn24 hb;omega,by have:=h.bn24;omega,by have:=h.ln16;omega,fun b hb=>by have:=h.jn8 hb;omega⟩
theorem ins (h:F.Ok):F.In:=valid_in F h.valid
theorem stIn (h:F.Ok) {b i:Nat} (hb:b<F.bn) (hi:i<F.sn b):∀q∈stPl (F.s b i),0≤q.1.l∧q.1.l<F.ln:=fun q hq=>by
 have h1:=h.near hb
 simp only[nearB,Bool.and_eq_true] at h1
 have h2:=allN_iff.1 h1.1.1 i hi
 simp only[plOk,List.all_eq_true,decide_eq_true_eq] at h2
 exact ⟨(stPl_in (h.ins.1 b i hb hi) q hq).1,h2 q hq⟩
theorem jmIn (h:F.Ok) {b:Nat} (hb:b<F.bn):∀q∈jmPlB F b,0≤q.1.l∧q.1.l<F.ln:=fun q hq=>by
 have h1:=h.near hb
 simp only[nearB,Bool.and_eq_true] at h1
 have h2:=h1.1.2
 simp only[plOk,List.all_eq_true,decide_eq_true_eq] at h2
 exact ⟨(jmPl_in (h.ins.2 b hb) q hq).1,h2 q hq⟩
theorem lead (h:F.Ok) {b:Nat} (hb:b<F.bn):∀n∈(F.jump b).leads,0≤n∧n<F.bn:=fun n hn=>by
 have h1:=h.near hb
 simp only[nearB,Bool.and_eq_true,List.all_eq_true,decide_eq_true_eq] at h1
 refine ⟨?_,h1.2 n hn⟩
 have hj:=h.okJ hb
 simp only[GJump.ok,blk,Bool.or_eq_true,Bool.and_eq_true,beq_iff_eq,decide_eq_true_eq] at hj
 unfold GJump.leads at hn
 split at hn
 · simp at hn
 · split at hn
   · simp only[List.mem_cons,List.not_mem_nil,or_false] at hn
     rename_i g1 g2
     simp only[Bool.or_eq_true,beq_iff_eq,Bool.and_eq_true] at g1 g2
     grind
   · simp only[List.mem_cons,List.not_mem_nil,or_false] at hn
     rename_i g1 g2
     simp only[Bool.or_eq_true,beq_iff_eq] at g1
     grind
theorem nearS (h:F.Ok):F.Near:=fun b i hb hi hk=>by
 have h1:=h.stIn hb hi
 have hs:=h.okS hb hi
 have hl:=h.lpos
 have z:(0:Int)≤0∧(0:Int)<F.ln:=⟨by omega,by omega⟩
 have hr:(F.s b i).r.ok=true:=by
  simp only[GStmt.ok,Bool.or_eq_true,Bool.and_eq_true,beq_iff_eq] at hs
  grind
 have mem:∀q,q∈stPl (F.s b i)↔q∈(if (F.s b i).r.k=4∨(F.s b i).r.k=5 then [((F.s b i).p,false),((F.s b i).r.p,false)] else if (F.s b i).r.k=1 then ((F.s b i).p,false)::opPl true (F.s b i).r.a else ((F.s b i).p,false)::(opPl false (F.s b i).r.a++opPl false (F.s b i).r.b)):=fun q=>by
  unfold stPl
  rw[if_neg (by omega),if_neg (by omega),if_pos hk]
 have hop:∀(may:Bool) (o:GOper),o.ok=true→(∀q∈opPl may o,0≤q.1.l∧q.1.l<(F.ln:Int))→0≤o.p.l∧o.p.l<F.ln:=fun may o ho hq=>by
  by_cases g:o.k=1
  · simp only[GOper.ok,GPlace.eqB,GPlace.zero,Bool.or_eq_true,Bool.and_eq_true,beq_iff_eq] at ho
    have e:o.p.l=0:=by grind
    rw[e];exact z
  · exact hq (o.p,_) (by unfold opPl;rw[if_neg g];exact List.mem_singleton.2 rfl)
 have zero:∀o:GOper,o.eqB .zero=true→0≤o.p.l∧o.p.l<F.ln:=fun o ho=>by
  rw[GOper.eqB_iff] at ho;subst ho;exact z
 have zeroP:∀p:GPlace,p.eqB .zero=true→0≤p.l∧p.l<F.ln:=fun p hp=>by
  rw[GPlace.eqB_iff] at hp;subst hp;exact z
 simp only[GRv.ok,Bool.or_eq_true,Bool.and_eq_true,beq_iff_eq] at hr
 by_cases g:(F.s b i).r.k=4∨(F.s b i).r.k=5
 · refine ⟨h1 _ ((mem _).2 (by rw[if_pos g];exact List.mem_cons_self:((F.s b i).p,false)∈_)),h1 _ ((mem _).2 (by rw[if_pos g];simp:((F.s b i).r.p,false)∈_)),zero _ ?_⟩
   grind
 · have hp:0≤(F.s b i).r.p.l∧(F.s b i).r.p.l<(F.ln:Int):=zeroP _ (by grind)
   by_cases g1:(F.s b i).r.k=1
   · refine ⟨h1 _ ((mem _).2 (by rw[if_neg g,if_pos g1];exact List.mem_cons_self:((F.s b i).p,false)∈_)),hp,hop true _ ?_ fun q hq=>h1 q ((mem _).2 (by rw[if_neg g,if_pos g1];exact List.mem_cons_of_mem _ hq))⟩
     grind
   · refine ⟨h1 _ ((mem _).2 (by rw[if_neg g,if_neg g1];exact List.mem_cons_self:((F.s b i).p,false)∈_)),hp,hop false _ ?_ fun q hq=>h1 q ((mem _).2 (by rw[if_neg g,if_neg g1];exact List.mem_cons_of_mem _ (List.mem_append_left _ hq)))⟩
     grind
theorem chk (h:F.Ok) (w:World) (hF:F.At w):Calls Tryz.prog 68 #[F.val] w (Ret w (.int .i64 0)):=by
 have:=fnChk F w hF
 rw[show fchkV F=0 from h] at this
 exact this
end GFun.Ok
end
section
set_option maxRecDepth 100000
def gsumI (sn:Nat→Nat):Nat→Int
 | 0=>0
 | i+1=>rAr .add .i64 (gsumI sn i) (rAr .add .i64 (.ofNat (sn i)) 1)
def greatB (F:GFun):Bool:=decide (120<gsumI F.sn (min F.bn 31))||decide (30<F.bn)||decide (30<F.ln)
def gfB (F:GFun):Bool:=decide (30<F.ln)||decide (30<F.bn)||!(allN F.bn fun b=>decide (F.sn b≤30)&&decide (F.jn b≤12))
theorem gtr_f {cm:BinOp→Int→Int→Bool} (hcm:cm=rCm) {x m:Nat} (h:cm .gtr (.ofNat x) (@OfNat.ofNat Int m _)=false):decide (x≤m)=true:=gtr_lit (hcm▸h)
theorem gtr_t {cm:BinOp→Int→Int→Bool} (hcm:cm=rCm) {x m:Nat} (h:cm .gtr (.ofNat x) (@OfNat.ofNat Int m _)=true):decide (x≤m)=false:=gtr_lit (hcm▸h)
theorem wSvC_0 {p:Prop} (h:p:=by (first|(cbv;(try simp only[true_and,and_true]);(try ((repeat' apply And.intro)<;>(first|trivial|rfl|exact RowLe.rfl' _|decide|(rw[wrap_nat har _ (by omega)])|((rw[g0];done))|((rw[g1,har];done))|fail)));done)|fail)):Pf p:=⟨h⟩
set_option maxHeartbeats 4000000 in
theorem greatC (F:GFun) (w:World) (hF:F.At w):
 Calls Tryz.prog 26 #[F.val] w (Ret w (.bool (greatB F))):=by
 obtain ⟨z0,hz0⟩:∃z,z=greatB F:=⟨_,rfl⟩
 obtain ⟨g,hg⟩:∃g,g=gsumI F.sn:=⟨_,rfl⟩
 rw[←hz0]
 rw[greatB,←hg] at hz0
 have g0:g 0=0:=by rw[hg];rfl
 have g1:∀i,g (i+1)=rAr .add .i64 (g i) (rAr .add .i64 (.ofNat (F.sn i)) 1):=fun i=>by rw[hg];rfl
 clear hg
 obtain ⟨pa,un,lA,ln,lc,lk,lt,bA,bn,bc,sA,sn,sc,s,jA,jn,jc,ja,jk,jo,jf,jx,je,jd⟩:=F
 obtain ⟨hX,hl,hb,hs,hj⟩:=hF
 simp only at hl hb hs hj
 simp only at hz0 g1
 refine go_start (args:=[.pt (.agg (GFun.dat _))]) (c:=(funX _)) Tryz.func26 rfl hX rfl rfl ?_
 obtain ⟨nd,hnd,nt,hnt,ar,har,cm,hcm,mx,hmx,mn,hmn,ar01,ar12,zpl,hzpl,zjn,hzjn,zup,hzup,zmi,hzmi,zdp,hzdp,hT⟩:=t0_all
 have h30:∀t:Nat,cm .leq (.ofNat t) 30=true→t≤30:=fun t h=>by
  rw[hcm] at h
  have:=of_decide_eq_true (show decide ((t:Int)≤30)=true from h)
  omega
 have n30:∀t:Nat,cm .leq (.ofNat t) 30=false→30<t:=fun t h=>by
  rw[hcm] at h
  have:=of_decide_eq_false (show decide ((t:Int)≤30)=false from h)
  omega
 repeat' (first
  | refine go1 ?_|refine go3 (fun hlt=>?_) (fun hge=>?_)|refine go2 (fun h=>?_) (fun h=>?_)|refine gof ?_
  | ((with_reducible refine go_loopk (σ:={i:Nat // i≤bn∧i≤31}) [5,6,7,8,9,10,11,12,13,14,15,16,17,18,19,20,21,22,23,24,25] (fun x=>[(3,.pt (.one (.int .i64 (g x.1)))),(4,.pt (.one (.int .i64 (.ofNat x.1))))]) (fun x=>[]) (fun x=>[]) (fun x=>bn - x.1) ⟨0,by omega,by omega⟩ ?_ ?_ ?_ ?_);(·exact le_mkP wSvC_0 wSvC_0 wSvC_0 wSvC_0);(·(cbv;try rfl));(·simp);(rintro ⟨i,hi,hi31⟩ mm hmm))
  | ((with_reducible refine go_stop ⟨i+1,by omega,by have:=h30 i ‹_›;omega⟩ ?_ ?_ ?_ ?_);(·exact Nat.lt_of_lt_of_eq (show bn - (i+1)<bn - i from by omega) (Eq.symm ‹_›));(·exact le_mkP wSvC_0 wSvC_0 wSvC_0 wSvC_0);(·(cbv;try rfl));(·simp))
  | fail)
 all_goals (refine bool_eq ?_)
 all_goals (have hm:min bn 31=i:=by first|omega|(have:=n30 i ‹_›;omega))
 all_goals (rw[hz0,hm];clear hX hT hz0 h30 n30;subst hcm)
 all_goals simp only[rCm] at *
 all_goals simp only[decide_eq_true_eq,decide_eq_false_iff_not,Int.ofNat_eq_natCast] at *
 all_goals grind
set_option maxHeartbeats 4000000 in
theorem gfC (F:GFun) (w:World) (hF:F.At w):
 Calls Tryz.prog 27 #[F.val] w (Ret w (.bool (gfB F))):=by
 obtain ⟨z0,hz0⟩:∃z,z=gfB F:=⟨_,rfl⟩
 rw[←hz0]
 unfold gfB at hz0
 obtain ⟨pa,un,lA,ln,lc,lk,lt,bA,bn,bc,sA,sn,sc,s,jA,jn,jc,ja,jk,jo,jf,jx,je,jd⟩:=F
 obtain ⟨hX,hl,hb,hs,hj⟩:=hF
 simp only at hl hb hs hj
 simp only at hz0
 obtain ⟨ga,hga⟩:∃b,b=allN bn fun b=>decide (sn b≤30)&&decide (jn b≤12):=⟨_,rfl⟩
 rw[←hga] at hz0
 have h1:∀b,b<bn→decide (sn b≤30)=false∨decide (jn b≤12)=false→ga=false:=fun b hb h=>hga.trans (allN_false hb (by rcases h with h|h<;>rw[h]<;>simp))
 have h2:(∀b,b<bn→decide (sn b≤30)=true∧decide (jn b≤12)=true)→ga=true:=fun h=>hga.trans (allN_iff.2 fun b hb=>by rw[(h b hb).1,(h b hb).2];rfl)
 clear hga
 refine go_start (args:=[.pt (.agg (GFun.dat _))]) (c:=(funX _)) Tryz.func27 rfl hX rfl rfl ?_
 obtain ⟨nd,hnd,nt,hnt,ar,har,cm,hcm,mx,hmx,mn,hmn,ar01,ar12,zpl,hzpl,zjn,hzjn,zup,hzup,zmi,hzmi,zdp,hzdp,hT⟩:=t0_all
 repeat' (first
  | refine go1 ?_|refine go3 (fun hlt=>?_) (fun hge=>?_)|refine go2 (fun h=>?_) (fun h=>?_)|refine gof ?_
  | ((with_reducible apply go_inline (f:=67) (hf:=Tryz.func67) (hr:=Tryz.results67) (hcall:=Tryz.call67));(·rfl);(·(cbv;try rfl)))
  | ((with_reducible refine go_loopk (σ:={b:Nat // b≤bn∧∀j,j<b→decide (sn j≤30)=true∧decide (jn j≤12)=true}) [2,14,15,16,17,18,19,20,21,22,23,24,25,26,27,28,29,30,31,32,33,34,35,36,37] (fun x=>[(3,.pt (.one (.int .i64 (.ofNat x.1))))]) (fun x=>[]) (fun x=>[]) (fun x=>bn - x.1) ⟨0,by omega,fun j hj=>by omega⟩ ?_ ?_ ?_ ?_);(·exact le_mkP gole gole gole gole);(·(cbv;try rfl));(·simp);(rintro ⟨b,hb1,hok⟩ mm hmm))
  | ((with_reducible refine go_stop ⟨b+1,by omega,all_succ hok (show decide (sn b≤30)=true∧decide (jn b≤12)=true from ⟨gtr_f hcm ‹_›,gtr_f hcm ‹_›⟩)⟩ ?_ ?_ ?_ ?_);(·exact Nat.lt_of_lt_of_eq (show bn - (b+1)<bn - b from by omega) (Eq.symm ‹_›));(·exact le_mkP gole gole gole gole);(·(cbv;try rfl));(·simp))
  | fail)
 all_goals (refine bool_eq ?_)
 all_goals
  try have e1:=h1 b ‹_› (.inl (gtr_t hcm ‹_›))
  try have e2:=h1 b ‹_› (.inr (gtr_t hcm ‹_›))
  try have e3:=h2 (fun j hj=>hok j (by omega))
  try clear hmm hok
  clear hX hT h1 h2
  subst hcm
  simp only[rCm] at *
  subst_vars
  simp only[decide_eq_true_eq,decide_eq_false_iff_not,Int.ofNat_eq_natCast] at *
  grind
end
section
theorem isAt_iff {F:GFun} {n:Nat}:isAt F n=true↔piN F n<F.sn (pbN F n):=by simp[isAt]
def conN (F:GFun) (n:Nat):List KCon:=if isAt F n=true∧(stAt F n).k=1 then ofL F.lk (stAt F n) (.ofNat n) (.ofNat (F.ln+(loanPts F n).length)) else []
def conTo (F:GFun):Nat→List KCon
 | 0=>[]
 | n+1=>conTo F n++conN F n
theorem loN_len (F:GFun):∀n,loN F.ln F.s F.sn (pbN F) (piN F) n=F.ln+(loanPts F n).length
 | 0=>rfl
 | n+1=>by
   simp only[loN,loanPts,loN_len F n,List.length_append,isAt_iff]
   by_cases h:piN F n<F.sn (pbN F n)
   · simp only[stAt,if_pos h]
     by_cases h':(F.s (pbN F n) (piN F n)).k=1∧(F.s (pbN F n) (piN F n)).r.k=4
     · rw[if_pos ⟨h,h'⟩,if_pos ⟨h,h'⟩];simp;omega
     · rw[if_neg (fun g=>h' g.2),if_neg (fun g=>h' g.2)];simp
   · rw[if_neg (fun g=>h g.1),if_neg (fun g=>h g.1)];simp
theorem conL_to (F:GFun):∀n,conL F.lk F.ln F.s F.sn (pbN F) (piN F) n=conTo F n
 | 0=>rfl
 | n+1=>by
   simp only[conL,conTo,conL_to F n,loN_len,conN,isAt_iff]
   congr 1
   by_cases h:piN F n<F.sn (pbN F n)
   · simp only[stAt,if_pos h]
   · rw[if_neg (fun g=>h g.1),if_neg (fun g=>h g.1)]
theorem allCon_to (F:GFun):allCon F=conTo F (stN F.sn F.bn):=conL_to F _
theorem conN_len (F:GFun) (n:Nat):(conN F n).length≤2:=by
 unfold conN
 split
 · exact ofL_len _ _ _ _
 · simp
theorem whole_mk {p:GPlace} (h:p.whole=true):p.d=false∧p.f=0:=by
 simpa [GPlace.whole] using h
structure ConOk (F:GFun) (n:Nat) (c:KCon):Prop where
 at_:c.at_=.ofNat n
 is:isAt F n=true
 k:(stAt F n).k=1
 to:(stAt F n).p.l=c.to
 d:(stAt F n).p.d=false
 f:(stAt F n).p.f=0
 why:(c.why=2∧c.fr=.ofNat (F.ln+(loanPts F n).length)∧(stAt F n).r.k=4)∨
  (c.why=3∧(stAt F n).r.k=4∧(stAt F n).r.p.d=true∧(stAt F n).r.p.l=c.fr∧isRefK (F.lk c.fr.toNat)=true)∨
  (c.why=1∧(stAt F n).r.k=1∧(stAt F n).r.a.k≠1∧(stAt F n).r.a.p.l=c.fr∧(stAt F n).r.a.p.d=false∧(stAt F n).r.a.p.f=0∧isRefK (F.lk c.fr.toNat)=true∧isRefK (F.lk c.to.toNat)=true)
theorem conN_ok {F:GFun} {n:Nat}:∀c∈conN F n,ConOk F n c:=fun c hc=>by
 unfold conN at hc
 split at hc
 · rename_i h
   unfold ofL at hc
   split at hc
   · rename_i hw
     have hw:=whole_mk hw
     split at hc
     · rename_i hr
       simp only[beq_iff_eq] at hr
       simp only[List.mem_cons] at hc
       rcases hc with rfl|hc
       · exact ⟨rfl,h.1,h.2,rfl,hw.1,hw.2,.inl ⟨rfl,rfl,hr⟩⟩
       · split at hc
         · rename_i g
           simp only[Bool.and_eq_true] at g
           simp only[List.mem_cons,List.not_mem_nil,or_false] at hc
           subst hc
           exact ⟨rfl,h.1,h.2,rfl,hw.1,hw.2,.inr (.inl ⟨rfl,hr,g.1,rfl,g.2⟩)⟩
         · simp at hc
     · split at hc
       · rename_i g
         simp only[Bool.and_eq_true,beq_iff_eq,bne_iff_ne,ne_eq] at g
         simp only[List.mem_cons,List.not_mem_nil,or_false] at hc
         subst hc
         have ha:=whole_mk g.1.1.2
         exact ⟨rfl,h.1,h.2,rfl,hw.1,hw.2,.inr (.inr ⟨rfl,g.1.1.1.1,g.1.1.1.2,rfl,ha.1,ha.2,g.1.2,g.2⟩)⟩
       · simp at hc
   · simp at hc
 · simp at hc
theorem conN_past {F:GFun} {n:Nat} {j:Nat} (hj:j<(conN F n).length) (h3:((conN F n).getD j .zero).why=3):j=1∧((conN F n).getD 0 .zero).why=2:=by
 unfold conN at hj h3⊢
 split at hj
 · rename_i h
   rw[if_pos h] at h3⊢
   unfold ofL at hj h3⊢
   split at hj
   · rename_i hw
     rw[if_pos hw] at h3⊢
     split at hj
     · rename_i hr
       rw[if_pos hr] at h3⊢
       split at hj
       · rename_i g
         rw[if_pos g] at h3⊢
         simp only[List.length_cons,List.length_nil] at hj
         have:j=0∨j=1:=by omega
         rcases this with rfl|rfl
         · simp at h3
         · exact ⟨rfl,rfl⟩
       · rename_i g
         rw[if_neg g] at h3⊢
         simp only[List.length_cons,List.length_nil] at hj
         have:j=0:=by omega
         subst this
         simp at h3
     · rename_i hr
       rw[if_neg hr] at h3⊢
       split at hj
       · rename_i g
         rw[if_pos g] at h3⊢
         simp only[List.length_cons,List.length_nil] at hj
         have:j=0:=by omega
         subst this
         simp at h3
       · simp at hj
   · simp at hj
 · simp at hj
structure ConAt (F:GFun) (n:Nat) (L:List KCon) (i:Nat) (a:Nat):Prop where
 lt:a<n
 ok:ConOk F a (L.getD i .zero)
 up:0<i→(L.getD (i - 1) .zero).at_≤.ofNat a
 past:(L.getD i .zero).why=3→0<i∧(L.getD (i - 1) .zero).at_=.ofNat a∧(L.getD (i - 1) .zero).why=2
theorem getD_app {α:Type} (l m:List α) (d:α) {j:Nat} (h:j<l.length):(l++m).getD j d=l.getD j d:=by
 simp[List.getD,List.getElem?_append_left h]
theorem getD_app2 {α:Type} (l m:List α) (d:α) (j:Nat):(l++m).getD (l.length+j) d=m.getD j d:=by
 simp[List.getD,List.getElem?_append_right]
theorem getD_mem {α:Type} {l:List α} {d:α} {j:Nat} (h:j<l.length):l.getD j d∈l:=by
 simp only[List.getD,List.getElem?_eq_getElem h,Option.getD_some]
 exact List.getElem_mem h
theorem conTo_at {F:GFun}:∀{n i:Nat},i<(conTo F n).length→∃a,ConAt F n (conTo F n) i a
 | 0,i,h=>by simp[conTo] at h
 | n+1,i,h=>by
   simp only[conTo]
   by_cases g:i<(conTo F n).length
   · obtain ⟨a,h1,h2,h3,h4⟩:=conTo_at g
     refine ⟨a,by omega,?_,fun hi=>?_,fun hw=>?_⟩
     · rw[getD_app _ _ _ g];exact h2
     · rw[getD_app _ _ _ (by omega)];exact h3 hi
     · rw[getD_app _ _ _ g] at hw
       rw[getD_app _ _ _ (by omega)];exact h4 hw
   · obtain ⟨j,rfl⟩:∃j,i=(conTo F n).length+j:=⟨i - (conTo F n).length,by omega⟩
     simp only[conTo,List.length_append] at h
     have hj:j<(conN F n).length:=by omega
     refine ⟨n,by omega,?_,fun hi=>?_,fun hw=>?_⟩
     · rw[getD_app2];exact conN_ok _ (getD_mem hj)
     · cases j with
       | zero=>
         simp only[Nat.add_zero] at hi⊢
         rw[getD_app _ _ _ (by omega)]
         obtain ⟨a,h1,h2,_,_⟩:=conTo_at (F:=F) (n:=n) (i:=(conTo F n).length - 1) (by omega)
         rw[h2.at_]
         simp only[Int.ofNat_eq_natCast];omega
       | succ j=>
         rw[show (conTo F n).length+(j+1) - 1=(conTo F n).length+j by omega,getD_app2]
         rw[(conN_ok _ (getD_mem (show j<(conN F n).length by omega))).at_]
         exact Int.le_refl _
     · rw[getD_app2] at hw
       obtain ⟨rfl,h2⟩:=conN_past hj hw
       refine ⟨by omega,?_,?_⟩
       · rw[show (conTo F n).length+1 - 1=(conTo F n).length+0 by omega,getD_app2]
         exact (conN_ok _ (getD_mem (show 0<(conN F n).length by omega))).at_
       · rw[show (conTo F n).length+1 - 1=(conTo F n).length+0 by omega,getD_app2];exact h2
theorem loanPts_at {F:GFun} {a:Nat} (h1:isAt F a=true) (h2:(stAt F a).k=1) (h3:(stAt F a).r.k=4):∀n,a<n→(loanPts F a).length<(loanPts F n).length∧(loanPts F n).getD (loanPts F a).length 0=a
 | 0,h=>by omega
 | n+1,h=>by
   rcases Nat.lt_or_eq_of_le (Nat.le_of_lt_succ h) with g|rfl
   · obtain ⟨e1,e2⟩:=loanPts_at h1 h2 h3 n g
     simp only[loanPts,List.length_append]
     exact ⟨by omega,by rw[getD_app _ _ _ e1];exact e2⟩
   · simp only[loanPts]
     rw[if_pos ⟨h1,h2,h3⟩]
     refine ⟨by simp,?_⟩
     simp
theorem stN_le_of {sn:Nat→Nat} {a b:Nat} (h:a≤b):stN sn a≤stN sn b:=by
 rcases Nat.lt_or_eq_of_le h with h|rfl
 · exact Nat.le_of_lt (stN_mono sn h)
 · exact Nat.le_refl _
theorem stN_inj {sn:Nat→Nat} {a b i j:Nat} (hi:i≤sn a) (hj:j≤sn b) (h:stN sn a+i=stN sn b+j):a=b∧i=j:=by
 have e:a=b:=by
  rcases Nat.lt_trichotomy a b with g|g|g
  · have:=stN_le_of (sn:=sn) (show a+1≤b from g);simp only[stN] at this;omega
  · exact g
  · have:=stN_le_of (sn:=sn) (show b+1≤a from g);simp only[stN] at this;omega
 subst e
 exact ⟨rfl,by omega⟩
theorem stN_lt {sn:Nat→Nat} {b bn i:Nat} (hb:b<bn) (hi:i≤sn b):stN sn b+i<stN sn bn:=by
 have:=stN_le_of (sn:=sn) (show b+1≤bn from hb)
 simp only[stN] at this;omega
theorem at_num {F:GFun} {b i:Nat} (hb:b<F.bn) (hi:i≤F.sn b):pbN F (stN F.sn b+i)=b∧piN F (stN F.sn b+i)=i:=by
 obtain ⟨h1,h2,h3⟩:=num_pt (stN_lt hb hi)
 obtain ⟨e1,e2⟩:=stN_inj h2 hi h3.symm
 exact ⟨e1,e2⟩
def cntIs (F:GFun):Nat→Nat
 | 0=>0
 | n+1=>cntIs F n+if isAt F n=true then 1 else 0
theorem cntIs_blk {F:GFun} {b:Nat} (hb:b<F.bn):∀i,i≤F.sn b→cntIs F (stN F.sn b+i)=cntIs F (stN F.sn b)+i
 | 0,_=>rfl
 | i+1,h=>by
   have e:=at_num hb (show i≤F.sn b by omega)
   have hi:isAt F (stN F.sn b+i)=true:=isAt_iff.2 (by rw[e.1,e.2];omega)
   rw[←Nat.add_assoc]
   simp only[cntIs,if_pos hi]
   rw[cntIs_blk hb i (by omega)];omega
theorem cntIs_st {F:GFun}:∀b,b≤F.bn→cntIs F (stN F.sn b)+b=stN F.sn b
 | 0,_=>rfl
 | b+1,h=>by
   have ih:=cntIs_st (F:=F) b (by omega)
   have e:=at_num (F:=F) (b:=b) (by omega) (Nat.le_refl _)
   have hi:¬isAt F (stN F.sn b+F.sn b)=true:=fun h=>by
    have:=isAt_iff.1 h
    rw[e.1,e.2] at this;omega
   simp only[stN,cntIs,if_neg hi]
   rw[cntIs_blk (by omega) _ (Nat.le_refl _)];omega
theorem conTo_len2 (F:GFun):∀n,(conTo F n).length≤2 * cntIs F n
 | 0=>Nat.le_refl _
 | n+1=>by
   have:=conTo_len2 F n
   have h2:=conN_len F n
   simp only[conTo,List.length_append,cntIs]
   by_cases h:isAt F n=true
   · rw[if_pos h];omega
   · rw[if_neg h]
     have:conN F n=[]:=by unfold conN;rw[if_neg (fun g=>h g.1)]
     rw[this];simpa using by assumption
theorem stN_25 {sn:Nat→Nat} {n:Nat} (hs:∀b,b<n→sn b≤24):∀b,b≤n→stN sn b≤b * 25
 | 0,_=>Nat.le_refl _
 | b+1,h=>by have:=stN_25 hs b (by omega);have:=hs b (by omega);simp only[stN];omega
theorem GFun.Ok.pts {F:GFun} (h:F.Ok):stN F.sn F.bn≤600:=by
 have:=stN_25 (sn:=F.sn) (fun b hb=>h.sn24 hb) F.bn (Nat.le_refl _)
 have:=h.bn24;omega
theorem GFun.Ok.cons {F:GFun} (h:F.Ok):(allCon F).length≤1152:=by
 rw[allCon_to]
 have h1:=conTo_len2 F (stN F.sn F.bn)
 have h2:=cntIs_st (F:=F) F.bn (Nat.le_refl _)
 have h3:=stN_25 (sn:=F.sn) (fun b hb=>h.sn24 hb) F.bn (Nat.le_refl _)
 have:=h.bn24;omega
theorem stAt_is {F:GFun} {n:Nat} (hn:n<stN F.sn F.bn) (h:isAt F n=true):pbN F n<F.bn∧piN F n<F.sn (pbN F n)∧stAt F n=F.s (pbN F n) (piN F n):=by
 have:=isAt_iff.1 h
 exact ⟨(num_pt hn).1,this,by unfold stAt;rw[if_pos this]⟩
theorem GFun.Ok.nearAt {F:GFun} (h:F.Ok) {n:Nat} (hn:n<stN F.sn F.bn) (hi:isAt F n=true) (hk:(stAt F n).k=1):(0≤(stAt F n).p.l∧(stAt F n).p.l<F.ln)∧(0≤(stAt F n).r.p.l∧(stAt F n).r.p.l<F.ln)∧(0≤(stAt F n).r.a.p.l∧(stAt F n).r.a.p.l<F.ln):=by
 obtain ⟨h1,h2,h3⟩:=stAt_is hn hi
 rw[h3] at hk⊢
 exact h.nearS _ _ h1 h2 hk
end
section
def GFun.ins (F:GFun) (b0 i0:Nat) (t:GStmt):GFun:={ F with
 sn:=fun b=>if b=b0 then F.sn b+1 else F.sn b
 s:=fun b i=>if b=b0 then (if i<i0 then F.s b i else if i=i0 then t else F.s b (i - 1)) else F.s b i }
section
variable {F:GFun} {b0 i0:Nat} {t:GStmt}
def KCon.shift (n:Nat) (c:KCon):KCon:=if (n:Int)≤c.at_ then ⟨c.fr,c.to,c.at_+1,c.why⟩ else c
end
end
section
theorem RowIs.rowG {c:Nat→Nat→Row} {w:World} {R:ORow} {a:Option Addr} {cap:Nat} (h:RowIs c w R (.slice a R.n cap)) {j:Nat} (hj:j<R.n):
 ∃b p,a=some ⟨b,p,none⟩∧b<w.heap.size∧∃vs,isL ⟨[],c,[]⟩ (R.el j) vs∧∀(t:Nat) (v:Value),vs[t]? =some v→w.cell? ⟨b,p+(j * R.es+t),none⟩=some v:=by
 obtain ⟨xs,hO,hE,hb⟩:=h
 rcases hO.2.2 with ⟨_,h0⟩|⟨g,o,cap',cur,ty,hv,hg,rest⟩
 · omega
 · cases hv
   refine ⟨g,o,rfl,hb g rfl,_,hE j hj,fun t v ht=>?_⟩
   simp only[List.getElem?_take,List.getElem?_drop] at ht
   split at ht
   · exact hO.cell ht
   · cases ht
section
variable (F:GFun) (lA:Option Addr) (lc:Nat) (bA:Option Addr) (bc:Nat) (sA:Nat→Option Addr) (sc:Nat→Nat) (jA:Nat→Option Addr) (jc:Nat→Nat)
end
end
end Go.Proofs.YtamcjkgedgocfaaGreat
