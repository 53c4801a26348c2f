/- Texts joined: ScK ScL ScM ScN ScO. No condition. -/
import Derived.Test.YtamcjkgedgocfaaGreatC1
import Derived.Test.YtamcjkgedgocfaaGreatX1
namespace Go.Proofs.YtamcjkgedgocfaaGreat
open Go.RowKit
set_option linter.unusedVariables false
set_option linter.unusedSimpArgs false
section
section
variable {P:Program} {T:Tb} {c:Nat→Nat→Row} {w0:Base}
def resX (T:Tb) (e:Nat→Nat→Row) (st:St):List ResultVar→Option (List SA)
 | []=>some []
 | r::l=>match resV T e st r,resX T e st l with
   | some (.pt x),some xs=>some (x::xs)
   | _,_=>none
theorem resX_cons {e:Nat→Nat→Row} {st:St} {r:ResultVar} {l:List ResultVar} {xs:List SA} (h:resX T e st (r::l)=some xs):∃x ys,xs=x::ys∧resV T e st r=some (.pt x)∧resX T e st l=some ys:=by
 unfold resX at h
 split at h
 · rename_i x ys h1 h2
   cases h
   exact ⟨x,ys,rfl,h1,h2⟩
 · cases h
theorem resX_six (hT:TOk P T) {e:Env} {st:St} {a:Act} {s:List Act} {w:World} {fn:Func} {r1 r2 r3 r4 r5 r6:ResultVar} {l:List SA} (F:Fit e w0 st a s w) (hr:fn.results.toList=[r1,r2,r3,r4,r5,r6]) (h:resX T e.chi st [r1,r2,r3,r4,r5,r6]=some l):∃v,(results fn a.tmps).run P w=.ok v w∧(SV.tup l).is e v:=by
 obtain ⟨x1,y1,rfl,g1,h⟩:=resX_cons h
 obtain ⟨x2,y2,rfl,g2,h⟩:=resX_cons h
 obtain ⟨x3,y3,rfl,g3,h⟩:=resX_cons h
 obtain ⟨x4,y4,rfl,g4,h⟩:=resX_cons h
 obtain ⟨x5,y5,rfl,g5,h⟩:=resX_cons h
 obtain ⟨x6,y6,rfl,g6,h⟩:=resX_cons h
 cases h
 obtain ⟨v1,h1,i1⟩:=resV_is hT F g1
 obtain ⟨v2,h2,i2⟩:=resV_is hT F g2
 obtain ⟨v3,h3,i3⟩:=resV_is hT F g3
 obtain ⟨v4,h4,i4⟩:=resV_is hT F g4
 obtain ⟨v5,h5,i5⟩:=resV_is hT F g5
 obtain ⟨v6,h6,i6⟩:=resV_is hT F g6
 have hr':fn.results=#[r1,r2,r3,r4,r5,r6]:=by apply Array.ext';rw[hr]
 exact ⟨.tuple #[v1,v2,v3,v4,v5,v6],by simp[results_eq,hr',resOf,h1,h2,h3,h4,h5,h6],_,rfl,i1,i2,i3,i4,i5,i6,trivial⟩
theorem go_ret_six {α:Type} (hT:TOk P T) {w:World} {Y:Inhabited Exs} {fn:Func} {st:St} {r1 r2 r3 r4 r5 r6:ResultVar} {l:List SA} {x:α→SV} {G:α→Nat→Nat→Row} (A:α) {r:α→List ORow} {sel:List RSrc} (hres:fn.results.toList=[r1,r2,r3,r4,r5,r6]) (h:resX T c st [r1,r2,r3,r4,r5,r6]=some l) (hs:selV (.tup l) (x A)=sel) (hx:chkV sel (.tup l) (x A)) (hr:srcPs st sel (r A)) (hn:ndS sel=true)
 (hG:∀p i,PieceOf w c (G A p i)) (hp:plainR (r A)) (hxx:(x A).noX=true):OutOk P (bodyPost P fn (RetX w x r G)) c ⟨w,[]⟩ (.ret st):=⟨fun e s a w' hc F=>by
 rw[←hc] at h
 obtain ⟨v,hv1,hv⟩:=resX_six (P:=P) hT F hres h
 refine ⟨F.dfr,v,hv1,?_⟩
 obtain ⟨g,h1,h2,h3,h4⟩:=ret_rowsG F hc hv hx hr hn
 refine ⟨A,v,g,rfl,h2,h3.to hp,noXV_is hxx h4,⟨fun q i j hj=>?_⟩⟩
 obtain ⟨q0,i0,m,g1,g2,g3,g4,g5,g6⟩:=hG q i j hj
 subst hc
 obtain ⟨b,p,f1,f2,_,f4,f5,vs,f6,f7⟩:=F.ext.ok q0 i0 (j+m) g1
 refine ⟨b,p+m * (G A q i).size,g6 b p f1,g5 b p f1,f2,fun u hu hb=>?_,vs,plainL_is g4 (by rw[g3];exact f6),fun t v ht=>?_⟩
 · rcases h1 u hu b hb with ⟨q',h⟩|⟨k,h⟩
   · exact f5 q' h
   · exact f4 k h
 · rw[←f7 t v ht,←g2,Nat.add_mul];congr 2;omega⟩
end
theorem selC_vv (v u:Value):selC (.val v) (.val u)=[]:=by
 cases v with
 | slice a n c=>cases a<;>cases n<;>cases c<;>rfl
 | _=>rfl
theorem kSel (v u:Value):selV (.tup [.one (.rs 0),.one (.rs 1),.one (.rs 2),.one (.val v),.one (.rs 4),.one (.lit true)]) (.tup [.one (.rs 0),.one (.rs 1),.one (.rs 2),.one (.val u),.one (.rs 3),.one (.lit true)])=[.own 0,.own 1,.own 2,.own 4]:=by
 have h:=selC_vv v u
 show appL [RSrc.own 0] (appL [RSrc.own 1] (appL [RSrc.own 2] (appL (selC (.val v) (.val u)) (appL [RSrc.own 4] (appL [] [])))))=_
 rw[h];rfl
theorem chkC_vv (sel:List RSrc) (v u:Value):chkC sel (.val v) (.val u)=((SC.val v).free=true∧leCell (.val v) (.val u)):=by
 cases v with
 | slice a n c=>cases a<;>cases n<;>cases c<;>rfl
 | _=>rfl
theorem kChk (v:Value):chkV [.own 0,.own 1,.own 2,.own 4] (.tup [.one (.rs 0),.one (.rs 1),.one (.rs 2),.one (.val v),.one (.rs 4),.one (.lit true)]) (.tup [.one (.rs 0),.one (.rs 1),.one (.rs 2),.one (.val v),.one (.rs 3),.one (.lit true)]):=by
 refine ⟨rfl,rfl,rfl,?_,rfl,⟨rfl,rfl⟩,trivial⟩
 show chkC _ (.val v) (.val v)
 rw[chkC_vv]
 exact ⟨rfl,rfl⟩
abbrev KA:=AdF×AdF×AdF×AdF×(Option Addr×Nat)
def kFam (P N:Nat) (nn:Nat→Nat) (sI sU rs kb:Nat→Nat→Bool) (A:KA):Nat→Nat→Row:=fun p i=>
 if p=0 then rrG A.1 nn sI 0 i else if p=1 then rrG A.2.1 nn sU 0 i else if p=2 then rrG A.2.2.1 nn rs 0 i else if p=3 then rrG A.2.2.2.1 nn kb 0 i
 else if p=4∧i=0 then ⟨A.2.2.2.2.1,P,A.2.2.2.2.2,1,fun j=>[.val (.slice (A.2.2.1 j).1 N (A.2.2.1 j).2)]⟩ else ⟨none,0,0,0,fun _=>[]⟩
set_option maxRecDepth 100000 in
set_option maxHeartbeats 16000000 in
theorem knownC (F:GFun) (w:World) (hF:F.At w) (hO:F.Ok) (hD:F.Fd):
 Calls Tryz.prog 43 #[F.val] w (RetX w (fun A:KA=>.tup [.one (.rs 0),.one (.rs 1),.one (.rs 2),.one (.val (.slice A.2.2.2.2.1 (lnC F) A.2.2.2.2.2)),.one (.rs 3),.one (.lit true)])
  (fun A=>[⟨lnC F,6,fun j=>[.int .i64 (.ofNat (lpN F j)),.int .i64 (stAt F (lpN F j)).r.p.l,.bool (stAt F (lpN F j)).r.p.d,.int .u8 (stAt F (lpN F j)).r.p.f,.int .u8 (stAt F (lpN F j)).r.bo,.int .i64 (lnL F (lpN F j))]⟩,⟨lnC F,1,fun j=>[.val (.slice (A.1 j).1 (stN F.sn F.bn) (A.1 j).2)]⟩,⟨lnC F,1,fun j=>[.val (.slice (A.2.1 j).1 (stN F.sn F.bn) (A.2.1 j).2)]⟩,⟨lnC F,1,fun j=>[.val (.slice (A.2.2.2.1 j).1 (stN F.sn F.bn) (A.2.2.2.1 j).2)]⟩])
  (kFam (lnC F) (stN F.sn F.bn) (nnN (lnC F) (stN F.sn F.bn)) (scI F) (scU F) (fun j k=>regF F (j+F.ln) k) (killB F))):=by
 have hL0 (wc:World) (hk:KB ⟨w,[]⟩ wc) {c:Nat→Nat→Row}:=Calls.to (c':=c) (lnR_plain F) rfl (loansC21 F wc (hF.later hk) hO)
 have hA0 (wc:World) (hk:KB ⟨w,[]⟩ wc):=scopeR F wc (hF.later hk) hO hD
 have hU0 (wc:World) (hk:KB ⟨w,[]⟩ wc):=usedR F wc (hF.later hk) hO hD
 have hG0 (wc:World) (hk:KB ⟨w,[]⟩ wc):=regionsC F wc (hF.later hk) hO hD
 have hK0 (wc:World) (hk:KB ⟨w,[]⟩ wc) {c:Nat→Nat→Row} (k:Nat) (hk2:k<lnC F):=Calls.to (c':=c) (r:=[⟨stN F.sn F.bn,1,fun j=>[.bool (killB F k j)]⟩]) ⟨fun _ _=>rfl,trivial⟩ rfl (killsC21 F wc (hF.later hk) hO hD k hk2)
 have hSz (wc:World) (hk:KB ⟨w,[]⟩ wc):=sizeC F wc (hF.later hk) hO.small
 have hS0:=fun (wc:World) (hk:KB ⟨w,[]⟩ wc) (c:Nat→Nat→Row) (A:AdF) (v:Value) (f:Nat→Nat→Bool) hx hA hv=>shapedC F hO wc (hF.later hk) c A v f hx hA hv
 have hN9:=hO.pts
 have hN0:=pts_pos hO
 have hP9:lnC F≤600:=Nat.le_trans (loanPts_len F _) hN9
 have hl16:=hO.ln16
 have hRN:regN F=F.ln+lnC F:=rfl
 have hlp0:∀k,k<lnC F→lpN F k<stN F.sn F.bn:=fun k hk=>(lpN_ok hk).1
 have hlo0:∀k,k<lnC F→lnL F (lpN F k)<F.ln:=fun k hk=>by
  obtain ⟨g1,g2,g3,g4⟩:=lpN_ok hk
  obtain ⟨g5,g6⟩:=stAt_in g2
  have hn:=hO.nearS _ _ (num_pt g1).1 g5 (by rw[←g6];exact g3)
  have hlp:=hO.lpos
  unfold lnL
  split
  · rw[g6];exact hn.1.2
  · omega
 obtain ⟨N,hN⟩:∃N,N=stN F.sn F.bn:=⟨_,rfl⟩
 obtain ⟨P,hP⟩:∃P,P=lnC F:=⟨_,rfl⟩
 obtain ⟨rN,hrN⟩:∃x,x=regN F:=⟨_,rfl⟩
 obtain ⟨lp,hlp⟩:∃f:Nat→Nat,f=lpN F:=⟨_,rfl⟩
 obtain ⟨el,hel⟩:∃f:Nat→Int,f=fun j=>(stAt F (lpN F j)).r.p.l:=⟨_,rfl⟩
 obtain ⟨ed,hed⟩:∃f:Nat→Bool,f=fun j=>(stAt F (lpN F j)).r.p.d:=⟨_,rfl⟩
 obtain ⟨ef,hef⟩:∃f:Nat→Int,f=fun j=>(stAt F (lpN F j)).r.p.f:=⟨_,rfl⟩
 obtain ⟨eb,heb⟩:∃f:Nat→Int,f=fun j=>(stAt F (lpN F j)).r.bo:=⟨_,rfl⟩
 obtain ⟨lo,hlo⟩:∃f:Nat→Int,f=fun j=>lnL F (lpN F j):=⟨_,rfl⟩
 obtain ⟨sI,hsI⟩:∃f:Nat→Nat→Bool,f=scI F:=⟨_,rfl⟩
 obtain ⟨sU,hsU⟩:∃f:Nat→Nat→Bool,f=scU F:=⟨_,rfl⟩
 obtain ⟨rf,hrf⟩:∃f:Nat→Nat→Bool,f=regF F:=⟨_,rfl⟩
 obtain ⟨kb,hkb⟩:∃f:Nat→Nat→Bool,f=killB F:=⟨_,rfl⟩
 obtain ⟨nn,hnn⟩:∃f:Nat→Nat,f=nnN (lnC F) (stN F.sn F.bn):=⟨_,rfl⟩
 obtain ⟨nr,hnr⟩:∃f:Nat→Nat,f=nnN (regN F) (stN F.sn F.bn):=⟨_,rfl⟩
 obtain ⟨rs,hrs⟩:∃f:Nat→Nat→Bool,f=fun j k=>regF F (j+F.ln) k:=⟨_,rfl⟩
 rw[←hrs]
 have hrsf:∀j k,rs j k=rf (j+F.ln) k:=fun j k=>by rw[hrs,hrf]
 obtain ⟨tk,tkh,tku,htk,tk0,tkp,tkz,tk3,tk4,tkup,tk1,tk2,tkN,tkA⟩:=famLettersG (fun _=>N) (fun j k=>[.bool (kb j k)]) (fun _ _=>rfl)
 have hL (wc:World) (hk:KB ⟨w,[]⟩ wc) {c:Nat→Nat→Row}:Calls Tryz.prog 64 #[F.val] wc (RetR wc c (.tup [.one (.rs 0),.one (.int .i64 0)]) [⟨P,6,fun j=>[.int .i64 (.ofNat (lp j)),.int .i64 (el j),.bool (ed j),.int .u8 (ef j),.int .u8 (eb j),.int .i64 (lo j)]⟩]):=by
  rw[hP,hlp,hel,hed,hef,heb,hlo];exact hL0 wc hk
 have hA (wc:World) (hk:KB ⟨w,[]⟩ wc):Calls Tryz.prog 28 #[F.val] wc (RetX wc (fun _:AdF=>.tup [.one (.rs 0),.one (.int .i64 0)]) (fun A=>[⟨P,1,fun j=>[.val (.slice (A j).1 N (A j).2)]⟩]) (fun A=>rrG A nn sI)):=by rw[hP,hN,hnn,hsI];exact hA0 wc hk
 have hU (wc:World) (hk:KB ⟨w,[]⟩ wc):Calls Tryz.prog 30 #[F.val] wc (RetX wc (fun _:AdF=>.tup [.one (.rs 0),.one (.int .i64 0)]) (fun A=>[⟨P,1,fun j=>[.val (.slice (A j).1 N (A j).2)]⟩]) (fun A=>rrG A nn sU)):=by rw[hP,hN,hnn,hsU];exact hU0 wc hk
 have hG (wc:World) (hk:KB ⟨w,[]⟩ wc):Calls Tryz.prog 90 #[F.val] wc (RetX wc (fun _:AdF=>.tup [.one (.rs 0),.one (.int .i64 0)]) (fun A=>[⟨rN,1,fun j=>[.val (.slice (A j).1 N (A j).2)]⟩]) (fun A=>rrG A nr rf)):=by rw[hrN,hN,hnr,hrf];exact hG0 wc hk
 have hKl (wc:World) (hk:KB ⟨w,[]⟩ wc) {c:Nat→Nat→Row} (k:Nat) (hk2:k<P):Calls Tryz.prog 92 #[F.val,.int .i64 (.ofNat k)] wc (RetR wc c (.tup [.one (.rs 0),.one (.int .i64 0)]) [⟨N,1,fun j=>[.bool (kb k j)]⟩]):=by rw[hN,hkb];exact hK0 wc hk k (hP▸hk2)
 have hS (wc:World) (hk:KB ⟨w,[]⟩ wc) (c:Nat→Nat→Row) (A:AdF) (v:Value) (f:Nat→Nat→Bool) (hx:XOk ⟨[],c,[]⟩ ⟨wc,[]⟩) (hA:∀j,j<P→∃q i,c q i=⟨(A j).1,N,(A j).2,1,fun k=>[.bool (f j k)]⟩) (hv:SlIs wc v P N A):Calls Tryz.prog 91 #[F.val,v] wc (Ret wc (.bool true)):=
  hS0 wc hk c A v f hx (by rw[←hP,←hN];exact hA) (by rw[←hP,←hN];exact hv)
 have hnk:∀k,k<P→nn k=N:=fun k hk=>by rw[hP] at hk;rw[hnn,hN];exact nnN_lt hk
 have hrk:∀k,k<P→nr (k+F.ln)=N:=fun k hk=>by rw[hP] at hk;rw[hnr,hN];exact nnN_lt (by omega)
 have hrP:rN=F.ln+P:=by rw[hrN,hRN,hP]
 have hlpN:∀k,k<P→lp k<N:=fun k hk=>by rw[hlp,hN];exact hlp0 k (hP▸hk)
 have hloN:∀k,k<P→lo k<F.ln:=fun k hk=>by rw[hlo];exact hlo0 k (hP▸hk)
 have hk4:∀(A:AdF) i j,j<(rrG A nn kb 0 i).n→tk P A 0 i=rrG A nn kb 0 i:=fun A i j hj=>by
  rw[htk];subst hnn;rw[←hP,←hN] at hj⊢;exact nxG_rr 0 i j hj
 have hk5:∀(A:AdF) (f:Nat→Nat→Bool) i,(∃j,j<(rrG A nn f 0 i).n)→i<P:=fun A f i ⟨j,hj⟩=>by
  apply Classical.byContradiction;intro h
  unfold rrG at hj;rw[if_pos rfl,hnn,←hP] at hj
  unfold nnN at hj;rw[if_neg h] at hj;exact absurd hj (Nat.not_lt_zero _)
 rw[←hN] at hN9 hN0 hSz
 rw[←hP] at hP9
 rw[←hP,←hN]
 rw[show lpN F=lp from hlp.symm,show nnN P N=nn by rw[hnn,hP,hN],show scI F=sI from hsI.symm,show scU F=sU from hsU.symm,show killB F=kb from hkb.symm]
 rw[show (fun j=>[SC.int .i64 (.ofNat (lp j)),.int .i64 (stAt F (lp j)).r.p.l,.bool (stAt F (lp j)).r.p.d,.int .u8 (stAt F (lp j)).r.p.f,.int .u8 (stAt F (lp j)).r.bo,.int .i64 (lnL F (lp j))])=(fun j=>[.int .i64 (.ofNat (lp j)),.int .i64 (el j),.bool (ed j),.int .u8 (ef j),.int .u8 (eb j),.int .i64 (lo j)]) by subst hel hed hef heb hlo hlp;rfl]
 clear hrs hL0 hA0 hU0 hG0 hK0 hS0 hN hP hrN hlp hel hed hef heb hlo hsI hsU hrf hkb hnn hnr htk hRN hlp0 hlo0 hO hD
 obtain ⟨pa,un,lA,ln,lc,lk,lt,bA,bn,bc,sA,sn,sc,s,jA,jn,jc,ja,jk,jo,jf,jx,je,jd⟩:=F
 obtain ⟨hX,hl,hb,hs,hj⟩:=hF
 simp only at hl hb hs hj
 try simp only at hL hA hU hG hKl hSz hS hl16 hrP hrk hloN hrsf
 refine go_start (args:=[.pt (.agg (GFun.dat ⟨pa,un,lA,ln,lc,lk,lt,bA,bn,bc,sA,sn,sc,s,jA,jn,jc,ja,jk,jo,jf,jx,je,jd⟩))]) (c:=(funX ⟨pa,un,lA,ln,lc,lk,lt,bA,bn,bc,sA,sn,sc,s,jA,jn,jc,ja,jk,jo,jf,jx,je,jd⟩)) Tryz.func43 rfl hX rfl rfl ?_
 obtain ⟨nd,hnd,nt,hnt,ar,har,cm,hcm,mx,hmx,mn,hmn,ar01,ar12,zpl,hzpl,zjn,hzjn,zup,hzup,zmi,hzmi,zdp,hzdp,hT⟩:=t0_all
 have hc4:∀q i j,q<4→j<(funX ⟨pa,un,lA,ln,lc,lk,lt,bA,bn,bc,sA,sn,sc,s,jA,jn,jc,ja,jk,jo,jf,jx,je,jd⟩ q i).n→qbL 4 ((funX ⟨pa,un,lA,ln,lc,lk,lt,bA,bn,bc,sA,sn,sc,s,jA,jn,jc,ja,jk,jo,jf,jx,je,jd⟩ q i).el j)=true:=funX_qb _
 have rp:∀(A:AdF) (m:Nat→Nat) (f:Nat→Nat→Bool) p i j,j<(rrG A m f p i).n→plainL ((rrG A m f p i).el j)=true:=fun A m f p i j h=>rrG_plain p i j h
 have hc5:=fun A=>fam_up (K:=4) (G:=rrG A nn sI) hc4 (rp A nn sI)
 have hc6:=fun A B=>fam_up (K:=5) (G:=rrG B nn sU) (hc5 A) (rp B nn sU)
 have hc7:=fun A B C=>fam_up (K:=6) (G:=rrG C nr rf) (hc6 A B) (rp C nr rf)
 have ap:∀(C:AdF) a cap p i j,j<(alG rN (fun j=>[.val (.slice (C j).1 N (C j).2)]) a cap p i).n→plainL ((alG rN (fun j=>[.val (.slice (C j).1 N (C j).2)]) a cap p i).el j)=true:=fun C a cap p i j h=>alG_plain (fun _=>rfl) p i j h
 have hc8:=fun A B C a cap=>fam_up (K:=7) (G:=alG rN (fun j=>[.val (.slice (C j).1 N (C j).2)]) a cap) (hc7 A B C) (ap C a cap)
 have hsk:∀k (A:AdF) (a:Option Addr) (cap:Nat),RowLe ⟨zpl k 1,1,zjn k (fun j=>[.val (.slice (A j).1 N (A j).2)]) (fun j=>cutL [.val (.slice a N cap)] (0+j * 1) 1)⟩ ⟨k+1,1,fun j=>[.val (.slice (tku A k (a,cap) j).1 N (tku A k (a,cap) j).2)]⟩:=fun k A a cap=>by
  refine rowLe_snoc hzpl hzjn rfl (fun j hj=>?_) ?_
  · rw[tk1 A _ _ j hj];exact leCL_rfl _
  · rw[tk2];exact leCL_rfl _
 have hN00:∀j:Nat,NewA w ((fun _=>((none:Option Addr),0):AdF) j).1:=fun j b p h=>by cases h
 have e4:∀(c:Nat→Nat→Row) (A:AdF) (K:Nat) (f:Nat→Nat→Bool) j,j<P→c K j=rrG A nn f 0 j→c K j=⟨(A j).1,N,(A j).2,1,fun k=>[.bool (f j k)]⟩:=fun c A K f j hj e=>by
  rw[e];unfold rrG;rw[if_pos rfl,hnk j hj]
 have hS3:∀(wc:World) (_:KB ⟨w,[]⟩ wc) (c:Nat→Nat→Row) (A3:AdF) a3 c3 av cv,XOk ⟨[],c,[]⟩ ⟨wc,[]⟩→rN≤c3→(∀j,c 6 j=rrG A3 nr rf 0 j)→c 7 0=alG rN (fun j=>[.val (.slice (A3 j).1 N (A3 j).2)]) a3 c3 0 0→(if c3=ln then a3 else a3.map (·.add (ln * 1)))=av→c3 - ln=cv→Calls Tryz.prog 91 #[GFun.val ⟨pa,un,lA,ln,lc,lk,lt,bA,bn,bc,sA,sn,sc,s,jA,jn,jc,ja,jk,jo,jf,jx,je,jd⟩,.slice av P cv] wc (Ret wc (.bool true)):=fun wc hk c A3 a3 c3 av cv hx hcap h6 h7 hav hcv=>by
  refine hS wc hk c (fun j=>A3 (j+ln)) _ (fun j k=>rf (j+ln) k) hx (fun j hj=>⟨6,j+ln,?_⟩) ?_
  · rw[h6];unfold rrG;rw[if_pos rfl,hrk j hj]
  · have e:rN - ln=P:=by omega
    have h:=XOk.sl (A:=A3) (N:=N) (q:=7) (i:=0) (n:=rN) (cap:=c3) (m:=ln) (a:=a3) hx (by rw[h7];unfold alG;rw[if_pos ⟨rfl,rfl⟩]) (by omega) hcap
    rw[e,hav,hcv] at h
    exact h
 have hgK:∀(c:Nat→Nat→Row) (A1 A2 A3 A4:AdF) a3 c3 av cv,(∀j,c 4 j=rrG A1 nn sI 0 j)→(∀j,c 5 j=rrG A2 nn sU 0 j)→(∀j,c 6 j=rrG A3 nr rf 0 j)→c 7 0=alG rN (fun j=>[.val (.slice (A3 j).1 N (A3 j).2)]) a3 c3 0 0→(∀j,c 9 j=tk P A4 0 j)→rN≤c3→(if c3=ln then a3 else a3.map (·.add (ln * 1)))=av→c3 - ln=cv→
  (∀p i,(∃j,j<(rrG A1 nn sI p i).n)→NewA w (rrG A1 nn sI p i).a)→(∀p i,(∃j,j<(rrG A2 nn sU p i).n)→NewA w (rrG A2 nn sU p i).a)→(∀p i,(∃j,j<(rrG A3 nr rf p i).n)→NewA w (rrG A3 nr rf p i).a)→NewA w a3→(∀j,NewA w (A4 j).1)→∀p i,PieceOf w c (kFam P N nn sI sU rs kb (A1,A2,(fun j=>A3 (j+ln)),A4,(av,cv)) p i):=fun c A1 A2 A3 A4 a3 c3 av cv h4 h5 h6 h7 h9 hcap hav hcv n1 n2 n3 n7 n9 p i=>by
  unfold kFam
  by_cases p0:p=0
  · rw[if_pos p0];exact pieceSame 4 i (h4 i) (fun j hj=>rrG_plain 0 i j hj) (fun hj=>n1 0 i hj)
  rw[if_neg p0]
  by_cases p1:p=1
  · rw[if_pos p1];exact pieceSame 5 i (h5 i) (fun j hj=>rrG_plain 0 i j hj) (fun hj=>n2 0 i hj)
  rw[if_neg p1]
  by_cases p2:p=2
  · rw[if_pos p2]
    intro j hj
    have hi:=hk5 _ _ i ⟨j,hj⟩
    have e:rrG (fun j=>A3 (j+ln)) nn rs 0 i=rrG A3 nr rf 0 (i+ln):=by
     unfold rrG;rw[if_pos rfl,if_pos rfl,hrk i hi,hnk i hi]
     congr 1;funext x;rw[hrsf]
    refine pieceSame 6 (i+ln) ((h6 (i+ln)).trans e.symm) (fun j hj=>rrG_plain 0 i j hj) (fun ⟨j,hj⟩=>?_) j hj
    show NewA w (rrG (fun j=>A3 (j+ln)) nn rs 0 i).a
    have hj:j<(rrG (fun j=>A3 (j+ln)) nn rs 0 i).n:=hj
    rw[e] at hj⊢
    exact n3 0 (i+ln) ⟨j,hj⟩
  rw[if_neg p2]
  by_cases p3:p=3
  · rw[if_pos p3]
    intro j hj
    exact pieceSame 9 i ((h9 i).trans (hk4 A4 i j hj)) (fun j hj=>rrG_plain 0 i j hj) (fun _=>by unfold rrG;rw[if_pos rfl];exact n9 i) j hj
  rw[if_neg p3]
  by_cases p4:p=4∧i=0
  · rw[if_pos p4]
    intro j hj
    have hj:j<P:=hj
    have e7:c 7 0=⟨a3,rN,c3,1,fun j=>[.val (.slice (A3 j).1 N (A3 j).2)]⟩:=by rw[h7];unfold alG;rw[if_pos ⟨rfl,rfl⟩]
    refine ⟨7,0,ln,by rw[e7];show j+ln<rN;omega,by rw[e7],by rw[e7],rfl,by rw[e7];exact n7,fun b p0 h=>?_⟩
    rw[e7] at h
    have h:a3=some ⟨b,p0,none⟩:=h
    show av=some ⟨b,p0+ln * 1,none⟩
    rw[←hav,if_neg (by omega),h]
    simp[Addr.add]
  · rw[if_neg p4]
    intro j hj
    exact absurd hj (Nat.not_lt_zero _)
 have hv8:∀(c:Nat→Nat→Row) (el:Nat→List SC) a cap q i,8≤q→(chiG c 7 (alG rN el a cap) q i).n=0:=fun c el a cap q i h=>by
  rw[chiG_ge (by omega)]
  simp only[alG]
  rw[if_neg (by omega)]
 have hrP2:rN - ln=P:=by omega
 repeat' (first
  | (((with_reducible apply go_plan false hT 54 0 [0,1]);(·rfl);(·rfl);(·rfl);(·kernel_rfl);(·kernel_rfl);(·(cbv;try rfl));(·(cbv;try rfl))))
  | (((with_reducible apply go_litN 54 2 37 false);(·rfl);(·rfl);(·rfl);(·first|rfl|(rw[hnt];rfl)|(rw[hnt];simp;done))))
  | (((with_reducible apply go_plan false hT 54 2 [2,3,4]);(·rfl);(·rfl);(·rfl);(·kernel_rfl);(·kernel_rfl);(·(cbv;try rfl));(·(cbv;try rfl))))
  | (((with_reducible apply go_litN 54 5 40 false);(·rfl);(·rfl);(·rfl);(·first|rfl|(rw[hnt];rfl)|(rw[hnt];simp;done))))
  | (((with_reducible apply go_plan false hT 54 5 [5,6,7,8]);(·rfl);(·rfl);(·rfl);(·kernel_rfl);(·kernel_rfl);(·(cbv;try rfl));(·(cbv;try rfl))))
  | (((with_reducible apply go_litN 54 9 44 false);(·rfl);(·rfl);(·rfl);(·first|rfl|(rw[hnt];rfl)|(rw[hnt];simp;done))))
  | (((with_reducible apply go_plan false hT 54 9 [9,10,11,12]);(·rfl);(·rfl);(·rfl);(·kernel_rfl);(·kernel_rfl);(·(cbv;try rfl));(·(cbv;try rfl))))
  | (((with_reducible apply go_litN 54 13 48 false);(·rfl);(·rfl);(·rfl);(·first|rfl|(rw[hnt];rfl)|(rw[hnt];simp;done))))
  | (((with_reducible apply go_plan false hT 54 13 [13,14,15,16]);(·rfl);(·rfl);(·rfl);(·kernel_rfl);(·kernel_rfl);(·(cbv;try rfl));(·(cbv;try rfl))))
  | (((with_reducible apply go_one1 54 17 17);(·rfl);(·rfl);(·kernel_rfl);(with_reducible apply go_oneCall hT);(·(cbv;try rfl));(·(cbv;try rfl));(·(cbv;try rfl))))
  | (((with_reducible apply go_plan false hT 54 18 [18]);(·rfl);(·rfl);(·rfl);(·kernel_rfl);(·kernel_rfl);(·(cbv;try rfl));(·(cbv;try rfl))))
  | (((with_reducible apply go_litN 54 19 54 false);(·rfl);(·rfl);(·rfl);(·first|rfl|(rw[hnt];rfl)|(rw[hnt];simp;done))))
  | (((with_reducible apply go_plan false hT 54 19 [19,20,21,22]);(·rfl);(·rfl);(·rfl);(·kernel_rfl);(·kernel_rfl);(·(cbv;try rfl));(·(cbv;try rfl))))
  | (((with_reducible apply go_one1 54 23 23);(·rfl);(·rfl);(·kernel_rfl);(with_reducible apply go_oneCall hT);(·(cbv;try rfl));(·(cbv;try rfl));(·(cbv;try rfl))))
  | (((with_reducible apply go_plan false hT 54 24 [24]);(·rfl);(·rfl);(·rfl);(·kernel_rfl);(·kernel_rfl);(·(cbv;try rfl));(·(cbv;try rfl))))
  | (((with_reducible apply go_litN 54 25 60 false);(·rfl);(·rfl);(·rfl);(·first|rfl|(rw[hnt];rfl)|(rw[hnt];simp;done))))
  | (((with_reducible apply go_plan false hT 54 25 [25,26,27,28,29,30,31]);(·rfl);(·rfl);(·rfl);(·kernel_rfl);(·kernel_rfl);(·(cbv;try rfl));(·(cbv;try rfl))))
  | (((with_reducible apply go_litN 54 32 67 false);(·rfl);(·rfl);(·rfl);(·first|rfl|(rw[hnt];rfl)|(rw[hnt];simp;done))))
  | (((with_reducible apply go_plan false hT 54 32 [32,33,34,35,36,37,38,39,40,41,42]);(·rfl);(·rfl);(·rfl);(·kernel_rfl);(·kernel_rfl);(·(cbv;try rfl));(·(cbv;try rfl))))
  | (((with_reducible apply go_litN 54 43 78 false);(·rfl);(·rfl);(·rfl);(·(rw[f0,hnt];rfl))))
  | (((with_reducible apply go_plan false hT 54 43 [43,44,45,46,47,48,49]);(·rfl);(·rfl);(·rfl);(·kernel_rfl);(·kernel_rfl);(·(cbv;try rfl));(·(cbv;try rfl))))
  | (((with_reducible apply go_one1 54 50 50);(·rfl);(·rfl);(·kernel_rfl)))
  | (((with_reducible apply go_one1 54 51 51);(·rfl);(·rfl);(·kernel_rfl);(with_reducible apply go_oneCall hT);(·(cbv;try rfl));(·(cbv;try rfl));(·(cbv;try rfl))))
  | (((with_reducible apply go_plan false hT 54 52 [52]);(·rfl);(·rfl);(·rfl);(·kernel_rfl);(·kernel_rfl);(·(cbv;try rfl));(·(cbv;try rfl))))
  | (((with_reducible apply go_litN 54 53 88 false);(·rfl);(·rfl);(·rfl);(·first|rfl|(rw[hnt];rfl)|(rw[hnt];simp;done))))
  | (((with_reducible apply go_plan false hT 54 53 [53]);(·rfl);(·rfl);(·rfl);(·kernel_rfl);(·kernel_rfl);(·(cbv;try rfl));(·(cbv;try rfl))))
  | (((with_reducible apply go_planEnd 54);(·rfl);(·rfl);(·kernel_rfl)))
  | (((with_reducible apply go_plan false hT 38 0 [0,1]);(·rfl);(·rfl);(·rfl);(·kernel_rfl);(·kernel_rfl);(·(cbv;try rfl));(·(cbv;try rfl))))
  | (((with_reducible apply go_litN 38 2 103 false);(·rfl);(·rfl);(·rfl);(·first|rfl|(rw[hnt];rfl)|(rw[hnt];simp;done))))
  | (((with_reducible apply go_plan false hT 38 2 [2,3,4,5]);(·rfl);(·rfl);(·rfl);(·kernel_rfl);(·kernel_rfl);(·(cbv;try rfl));(·(cbv;try rfl))))
  | (((with_reducible apply go_one1 38 6 6);(·rfl);(·rfl);(·kernel_rfl);(with_reducible apply go_oneCall hT);(·(cbv;try rfl));(·(cbv;try rfl));(·(cbv;try rfl))))
  | (((with_reducible apply go_plan false hT 38 7 [7]);(·rfl);(·rfl);(·rfl);(·kernel_rfl);(·kernel_rfl);(·(cbv;try rfl));(·(cbv;try rfl))))
  | (((with_reducible apply go_litN 38 8 109 false);(·rfl);(·rfl);(·rfl);(·first|rfl|(rw[hnt];rfl)|(rw[hnt];simp;done))))
  | (((with_reducible apply go_plan false hT 38 8 [8,9,10,11]);(·rfl);(·rfl);(·rfl);(·kernel_rfl);(·kernel_rfl);(·(cbv;try rfl));(·(cbv;try rfl))))
  | (((with_reducible apply go_one1 38 12 12);(·rfl);(·rfl);(·kernel_rfl);(with_reducible apply go_oneNeed hT);(·(cbv;try rfl));(·(cbv;try rfl));(·(cbv;try rfl))))
  | (((with_reducible apply go_plan false hT 38 13 [13]);(·rfl);(·rfl);(·rfl);(·kernel_rfl);(·kernel_rfl);(·(cbv;try rfl));(·(cbv;try rfl))))
  | (((with_reducible apply go_one1 38 14 14);(·rfl);(·rfl);(·kernel_rfl);(with_reducible apply go_oneV hT);(·(cbv;try rfl));(·(cbv;try rfl));(·(cbv;try rfl))))
  | (((with_reducible apply go_plan false hT 38 15 [15]);(·rfl);(·rfl);(·rfl);(·kernel_rfl);(·kernel_rfl);(·(cbv;try rfl));(·(cbv;try rfl))))
  | (((with_reducible apply go_litN 38 16 117 false);(·rfl);(·rfl);(·rfl);(·assumption)))
  | (((with_reducible apply go_plan false hT 38 16 [16,17,18,19,23,24]);(·rfl);(·rfl);(·rfl);(·kernel_rfl);(·kernel_rfl);(·(cbv;try rfl));(·(cbv;try rfl))))
  | (((with_reducible apply go_one1 38 22 20);(·rfl);(·rfl);(·kernel_rfl);(with_reducible apply go_oneNeed hT);(·(cbv;try rfl));(·(cbv;try rfl));(·(cbv;try rfl))))
  | (((with_reducible apply go_plan false hT 38 23 [21]);(·rfl);(·rfl);(·rfl);(·kernel_rfl);(·kernel_rfl);(·(cbv;try rfl));(·(cbv;try rfl))))
  | (((with_reducible apply go_one1 38 24 22);(·rfl);(·rfl);(·kernel_rfl);(with_reducible apply go_oneV hT);(·(cbv;try rfl));(·(cbv;try rfl));(·(cbv;try rfl))))
  | (((with_reducible apply go_plan false hT 38 25 [25]);(·rfl);(·rfl);(·rfl);(·kernel_rfl);(·kernel_rfl);(·(cbv;try rfl));(·(cbv;try rfl))))
  | (((with_reducible apply go_litN 38 26 127 false);(·rfl);(·rfl);(·rfl);(·assumption)))
  | (((with_reducible apply go_plan false hT 38 26 [26,27,28,29,33,34,35]);(·rfl);(·rfl);(·rfl);(·kernel_rfl);(·kernel_rfl);(·(cbv;try rfl));(·(cbv;try rfl))))
  | (((with_reducible apply go_one1 38 33 30);(·rfl);(·rfl);(·kernel_rfl);(with_reducible apply go_oneNeed hT);(·(cbv;try rfl));(·(cbv;try rfl));(·(cbv;try rfl))))
  | (((with_reducible apply go_plan false hT 38 34 [31]);(·rfl);(·rfl);(·rfl);(·kernel_rfl);(·kernel_rfl);(·(cbv;try rfl));(·(cbv;try rfl))))
  | (((with_reducible apply go_one1 38 35 32);(·rfl);(·rfl);(·kernel_rfl);(with_reducible apply go_oneV hT);(·(cbv;try rfl));(·(cbv;try rfl));(·(cbv;try rfl))))
  | (((with_reducible apply go_plan false hT 38 36 [36]);(·rfl);(·rfl);(·rfl);(·kernel_rfl);(·kernel_rfl);(·(cbv;try rfl));(·(cbv;try rfl))))
  | (((with_reducible apply go_litN 38 37 138 false);(·rfl);(·rfl);(·rfl);(·assumption)))
  | (((with_reducible apply go_plan false hT 38 37 [37]);(·rfl);(·rfl);(·rfl);(·kernel_rfl);(·kernel_rfl);(·(cbv;try rfl));(·(cbv;try rfl))))
  | (((with_reducible apply go_planEnd 38);(·rfl);(·rfl);(·kernel_rfl)))
  | (((with_reducible apply go_plan false hT 15 0 [0,1,2,3,4,5,6,8,9,10,11]);(·rfl);(·rfl);(·rfl);(·kernel_rfl);(·kernel_rfl);(·(cbv;try rfl));(·(cbv;try rfl))))
  | (((with_reducible apply go_one1 15 11 7);(·rfl);(·rfl);(·kernel_rfl)))
  | (((with_reducible apply go_plan false hT 15 12 [12,13,14]);(·rfl);(·rfl);(·rfl);(·kernel_rfl);(·kernel_rfl);(·(cbv;try rfl));(·(cbv;try rfl))))
  | (((with_reducible apply go_planEnd 15);(·rfl);(·rfl);(·kernel_rfl)))
  | refine go1 ?_|refine gobt ?_|refine gobn ?_|refine go3 (fun hlt=>?_) (fun hge=>?_)|refine go2 (fun h=>?_) (fun h=>?_)|exact go0|refine gof ?_|(with_reducible refine fork_cons ?_ ?_)
  | ((with_reducible refine go_ob ?_ ?_);(·first|trivial|(refine ⟨trivial,?_⟩;omega)|(rw[hzpl];refine ⟨trivial,?_⟩;show _+_≤1073741824;omega)|(rw[hzpl];show _+_≤1073741824;omega)|((rw[hzpl];show k+1≤1073741824;omega))))
  | ((with_reducible apply go_callR (f:=64) (hf:=Tryz.call64));(·intro S;cbv;try rfl);(·intro wc S hbc hxc hrc;exact hL wc hbc);(·rfl))
  | (((with_reducible apply go_callX 4 (f:=28) (hf:=Tryz.call28));(·intro S;cbv;try rfl);(·intro wc S hbc hxc hrc;exact hA wc hbc);(·intro A;rfl);(·intro A;rfl);(·rfl);(·rfl);(·exact ⟨fun _ _=>rfl,trivial⟩);(·exact hc4);(·intro A;exact ⟨fun j hj=>rfl,trivial⟩);(·intro A p i j hj;exact rrG_plain p i j hj);(intro A1 hnew1;skip)))
  | (((with_reducible apply go_callX 5 (f:=30) (hf:=Tryz.call30));(·intro S;cbv;try rfl);(·intro wc S hbc hxc hrc;exact hU wc hbc);(·intro A;rfl);(·intro A;rfl);(·rfl);(·rfl);(·exact ⟨fun _ _=>rfl,fun _ _=>rfl,trivial⟩);(·exact hc5 A1);(·intro A;exact ⟨fun j hj=>rfl,trivial⟩);(·intro A p i j hj;exact rrG_plain p i j hj);(intro A2 hnew2;skip)))
  | (((with_reducible apply go_callX 6 (f:=90) (hf:=Tryz.call90));(·intro S;cbv;try rfl);(·intro wc S hbc hxc hrc;exact hG wc hbc);(·intro A;rfl);(·intro A;rfl);(·rfl);(·rfl);(·exact ⟨fun _ _=>rfl,fun _ _=>rfl,fun _ _=>rfl,trivial⟩);(·exact hc6 A1 A2);(·intro A;exact ⟨fun j hj=>rfl,trivial⟩);(·intro A p i j hj;exact rrG_plain p i j hj);(intro A3 hnew3;refine go_famZ 7 (G:=alG 0 (fun _=>[]) none 0) (fun p i=>by unfold alG;split<;>rfl) rfl rfl ⟨fun _ _=>rfl,fun _ _=>rfl,fun _ _=>rfl,fun _ _=>rfl,trivial⟩ (hc7 A1 A2 A3) ?_;refine go_freezeC 3 0 0 (fun a cap=>alG rN (fun j=>[.val (.slice (A3 j).1 N (A3 j).2)]) a cap) (R:=⟨rN,1,fun j=>[.val (.slice (A3 j).1 N (A3 j).2)]⟩) rfl (RowLe.rfl' _) rfl (fun v=>rfl) ⟨fun _ _=>rfl,fun _ _=>rfl,fun _ _=>rfl,trivial⟩ (fun j hj=>rfl) (hc7 A1 A2 A3) (fun p i j h=>alG_plain (fun _=>rfl) p i j h) rfl (fun a cap p i h=>by unfold alG;rw[if_neg h,if_neg h]) (fun a cap=>by unfold alG;rw[if_pos ⟨rfl,rfl⟩]) (fun a3 c3 hc3 hn3=>?_);obtain ⟨av,hav⟩:∃x,(if c3=ln then a3 else a3.map (·.add (ln * 1)))=x:=⟨_,rfl⟩;obtain ⟨cv,hcv⟩:∃x,c3 - ln=x:=⟨_,rfl⟩;refine go_boxT 1 8 rfl rfl rfl rfl rfl ⟨fun _ _=>rfl,fun _ _=>rfl,fun _ _=>rfl,trivial⟩ rfl (hc8 A1 A2 A3 a3 c3) (hv8 _ _ a3 c3) (fun b8 _=>?_);refine go_famZ 9 (G:=tk 0 (fun _=>(none,0))) (tk0 _) rfl rfl ⟨fun _ _=>rfl,fun _ _=>rfl,fun _ _=>rfl,trivial⟩ (box_qb (hc8 A1 A2 A3 a3 c3) rfl qbL_up) ?_)))
  | (((with_reducible refine go_drawE (id:=5) (by kernel_rfl) ?_);(have f0:decide (Int.ofNat rN=ar .add .i64 (Int.ofNat ln) (Int.ofNat P))=true:=by rw[add_nat har (by omega),hrP];exact decide_eq_true rfl)))
  | (((with_reducible apply go_callRv (dst:=some 53) (f:=91) (hf:=Tryz.call91));(·intro S;cbv;try rfl);(·intro wc S hbc hxc hrc;exact hS wc hbc _ A1 _ sI hxc (fun j hj=>⟨4,j,e4 _ A1 4 sI j hj rfl⟩) (hrc 1 _ rfl).sl);(with_reducible apply go_lit 53 true);(·rfl)))
  | (((with_reducible apply go_callRv (dst:=some 59) (f:=91) (hf:=Tryz.call91));(·intro S;cbv;try rfl);(·intro wc S hbc hxc hrc;exact hS wc hbc _ A2 _ sU hxc (fun j hj=>⟨5,j,e4 _ A2 5 sU j hj rfl⟩) (hrc 2 _ rfl).sl);(with_reducible apply go_lit 59 true);(·rfl)))
  | (((with_reducible apply go_callRv (dst:=some 87) (f:=91) (hf:=Tryz.call91));(·intro S;cbv;try rfl);(·intro wc S hbc hxc hrc;exact hS3 wc hbc _ A3 a3 c3 av cv hxc hc3 (fun j=>rfl) rfl hav hcv);(with_reducible apply go_lit 87 true);(·rfl)))
  | (((with_reducible apply go_aopCutV hT hav hrP2 hcv);(·rfl);(·rfl);(·rfl);(·rfl);(·rfl);(·rfl);(·omega)))
  | ((with_reducible apply go_row 6 1);(·(cbv;try rfl)))
  | (((with_reducible refine go_loopX (σ:={x:Nat×AdF // x.1≤P∧∀j,NewA w (x.2 j).1}) (fun x=>chiG (chiG (chiG (chiG (chiG (chiG (funX ⟨pa,un,lA,ln,lc,lk,lt,bA,bn,bc,sA,sn,sc,s,jA,jn,jc,ja,jk,jo,jf,jx,je,jd⟩) 4 (rrG A1 nn sI)) 5 (rrG A2 nn sU)) 6 (rrG A3 nr rf)) 7 (alG rN (fun j=>[.val (.slice (A3 j).1 N (A3 j).2)]) a3 c3)) 8 (boxG b8 [.int .i64 pa,.bool un,.xs 0 0,.xs 1 0])) 9 (tk x.1.1 x.1.2)) [14,15,90,91,92,93,94,95,96,97,98,99,100,101,102,103,104,105,106,107,108,109,110,111,112,113,114,115,116,117,118,119,120,121,122,123,124,125,126,127,128,129,130,131,132,133,134,135,136,137,138,139,140,141,142,143] (fun x=>[(13,.pt (.one (.int .i64 (.ofNat x.1.1))))]) (fun x=>[]) (fun x=>[(4,⟨x.1.1,1,fun j=>[.val (.slice (x.1.2 j).1 N (x.1.2 j).2)]⟩)]) (fun x=>P - x.1.1) ⟨(0,fun _=>(none,0)),Nat.zero_le _,hN00⟩ rfl rfl ?_ ?_ ?_ ?_);(·(refine le_mk ?_ ?_ ?_ ?_<;>(cbv;(try simp only[true_and,and_true]);(try ((repeat' apply And.intro)<;>(first|trivial|rfl|exact RowLe.rfl' _|exact rowLe_of rfl (fun j hj=>absurd hj (Nat.not_lt_zero _))|(rw[wrap_nat har _ (by omega)];done)|exact hsk _ _ _ _))))));(·(cbv;try rfl));(·simp);(rintro ⟨⟨k,A4⟩,hk0,hA4⟩ mm hmm);(have hk:k≤P:=hk0)))
  | (((with_reducible apply go_callR (f:=92) (hf:=Tryz.call92));(·intro S;cbv;try rfl);(·intro wc S hbc hxc hrc;exact hKl wc hbc k ‹_›);(·rfl);(refine go_freeze 5 0 k (fun a cap=>tkh k A4 (a,cap)) (R:=⟨N,1,fun x=>[.bool (kb k x)]⟩) rfl (RowLe.rfl' _) rfl (fun v=>rfl) ⟨fun _ _=>rfl,fun _ _=>rfl,fun _ _=>rfl,fun _ _=>rfl,trivial⟩ (fun j hj=>rfl) (box_qb (hc8 A1 A2 A3 a3 c3) rfl qbL_up) (fun p j x h=>tkp k A4 p j x h) (tkz k A4) (fun a cap p' i' h=>tk3 k A4 a cap p' i' h) (fun a cap=>tk4 k A4 a cap) (fun a1 c1 hn1=>?_))))
  | (((with_reducible refine go_drawE (id:=11) (by kernel_rfl) ?_);(have f1:cm .lss (Int.ofNat (lp k)) 0=false:=by rw[hcm];exact decide_eq_false (fun g=>absurd g (Int.not_lt.2 (Int.natCast_nonneg (lp k)))));(have f2:cm .geq (Int.ofNat (lp k)) (Int.ofNat N)=false:=by rw[hcm];exact decide_eq_false (by have:=hlpN k ‹_›;simp only[Int.ofNat_eq_natCast];omega));(have f3:cm .geq (lo k) (Int.ofNat ln)=false:=by rw[hcm];exact decide_eq_false (by have:=hloN k ‹_›;simp only[Int.ofNat_eq_natCast];omega))))
  | ((with_reducible apply go_call (f:=46) (hf:=Tryz.call46));(·(cbv;try rfl));(·intro wc hbc hxc;exact hSz wc hbc))
  | ((with_reducible apply go_callq (f:=46) (hf:=Tryz.call46));(·(cbv;try rfl));(·intro wc hbc hxc;exact hSz wc hbc))
  | (((with_reducible refine go_stopX (⟨(k+1,tku A4 k (a1,c1)),Nat.succ_le_of_lt ‹_›,tkN hA4 hn1⟩:{x:Nat×AdF // x.1≤P∧∀j,NewA w (x.2 j).1}) (by (show _=chiG _ 9 (tk (k+1) (tku A4 k (a1,c1))));rw[tkup]) ?_ ?_ ?_ ?_);(·exact Nat.lt_of_lt_of_eq (show P - (k+1)<P - k by omega) (Eq.symm ‹_›));(·(refine le_mk ?_ ?_ ?_ ?_<;>(cbv;(try simp only[true_and,and_true]);(try ((repeat' apply And.intro)<;>(first|trivial|rfl|exact RowLe.rfl' _|exact rowLe_of rfl (fun j hj=>absurd hj (Nat.not_lt_zero _))|(rw[wrap_nat har _ (by omega)];done)|exact hsk _ _ _ _))))));(·(cbv;try rfl));(·simp)))
  | ((with_reducible refine go_drawE (id:=14) (by kernel_rfl) ?_))
  | (((have ek:P=k:=Nat.le_antisymm ‹_› hk);(subst ek);(apply go_ret_six hT ((A1,A2,(fun j=>A3 (j+ln)),A4,(av,cv)):KA));(·rfl);(·(cbv;try rfl));(·exact kSel _ _);(·exact kChk _);(·(cbv;(try simp only[true_and,and_true]);(try ((repeat' apply And.intro)<;>(first|trivial|rfl|exact RowLe.rfl' _)))));(·rfl);(·exact hgK _ A1 A2 A3 A4 a3 c3 av cv (fun j=>rfl) (fun j=>rfl) (fun j=>rfl) rfl (fun j=>rfl) hc3 hav hcv hnew1 hnew2 hnew3 hn3 hA4);(·exact ⟨fun _ _=>rfl,fun _ _=>rfl,fun _ _=>rfl,fun _ _=>rfl,trivial⟩);(·rfl)))
  | fail)
 all_goals trace_state
end
section
section
variable {P:Program} {Q:Exit→Act→World→Prop} {c:Nat→Nat→Row} {w0:Base} {k:List Item} {st:St}
theorem go_rowX (K q0 i0:Nat) {a:Option Addr} {n cap:Nat} {el0 el:Nat→List SC} (h:c q0 i0=⟨a,n,cap,1,el0⟩) (hel:∀j,j<n→∀vs,isL ⟨[],c,[]⟩ (el0 j) vs→isL ⟨[],chiG c K (alG n el a cap),[]⟩ (el j) vs) (hk:noA k=true) (hn:st.qb K=true) (hr:qbR K st.r) (hc:∀q i j,q<K→j<(c q i).n→qbL K ((c q i).el j)=true)
 (hg:Goes P Q (chiG c K (alG n el a cap)) w0 k st):Goes P Q c w0 k st:=⟨fun e s a' w hce F=>by
 subst hce
 rw[KQ_chi hk]
 have key:∀j,j<n→∃b p,a=some ⟨b,p,none⟩∧b<w.heap.size∧b ∉ w0.mo∧(∀k,¬HasH e st k b)∧(∀q',¬HasR e st q' b)∧(w0.ex b=none)∧∃vs,isL ⟨[],e.chi,[]⟩ (el0 j) vs∧∀(t:Nat) (v:Value),vs[t]? =some v→w.cell? ⟨b,p+(j * 1+t),none⟩=some v:=fun j hj=>by
  have:=F.ext.ok q0 i0 j (by simp only[h];omega)
  have hx:=fun b p=>F.ext.exx q0 i0 j b p (by simp only[h];omega)
  simp only[h] at this hx
  obtain ⟨b,p,f1,f2,f3,f4,f5,vs,f6,f7⟩:=this
  subst f1
  exact ⟨b,p,rfl,f2,f3,f4,f5,hx b p rfl,vs,f6,f7⟩
 exact hg.run ⟨e.rho,chiG e.chi K (alG n el a cap),e.sg⟩ s a' w rfl (F.chi (K:=K) (c':=chiG e.chi K (alG n el a cap)) (fun q i hl=>(chiG_lt hl).symm) hn hr hc (fun q i j hl hj=>by
  rw[chiG_ge hl] at hj⊢
  by_cases g:q - K=0∧i=0
  · simp only[alG,if_pos g] at hj⊢
    obtain ⟨b,p,f1,f2,f3,f4,f5,_,vs,f6,f7⟩:=key j hj
    exact ⟨b,p,f1,f2,f3,f4,f5,vs,hel j hj vs f6,f7⟩
  · simp only[alG,if_neg g] at hj
    exact absurd hj (Nat.not_lt_zero _)) (fun q i j b p hl hj ha=>by
  rw[chiG_ge hl] at hj ha
  by_cases g:q - K=0∧i=0
  · simp only[alG,if_pos g] at hj ha
    obtain ⟨b',p',f1,_,_,_,_,f6,_⟩:=key j hj
    rw[ha] at f1;cases f1
    exact f6
  · simp only[alG,if_neg g] at hj
    exact absurd hj (Nat.not_lt_zero _)))⟩
theorem isA_xs {e:Env} {q i:Nat} {u:Value} (hu:u=.slice (e.chi q i).a (e.chi q i).n (e.chi q i).c):∀{l:List SA} {vs:List Value} (j:Nat),nth l j=some (.one (.val u))→isA e l vs→isA e (setN l j (.one (.xs q i))) vs
 | [],_,j,hj,_=>by cases j<;>cases hj
 | c::l,[],j,hj,h=>h.elim
 | c::l,v::vs,0,hj,h=>by
   have hj:c=.one (.val u):=by simpa [nth] using hj
   subst hj
   have h1:v=u:=h.1
   exact ⟨h1.trans hu,h.2⟩
 | c::l,v::vs,j+1,hj,h=>⟨h.1,isA_xs hu j hj h.2⟩
theorem go_slotT (d j q i:Nat) {l:List SA} {a:Option Addr} {n cap:Nat} (hd:nth st.t d=some (.tup l)) (hj:nth l j=some (.one (.val (.slice a n cap)))) (hq:(.slice (c q i).a (c q i).n (c q i).c:Value)=.slice a n cap)
 (h:Goes P Q c w0 k { st with t:=setN st.t d (.tup (setN l j (.one (.xs q i)))) }):Goes P Q c w0 k st:=⟨fun e s a' w hce F=>by
 rw[nth_eq] at hd
 obtain ⟨v,h1,vs,rfl,h2⟩:=isV_get F.tm hd
 have h3:isV e (setN st.t d (.tup (setN l j (.one (.xs q i))))) (a'.tmps.toList.set d (.tuple vs)):=isV_set F.tm d ⟨vs,rfl,isA_xs (by subst hce;exact hq.symm) j hj h2⟩
 have h4:a'.tmps.toList.set d (.tuple vs)=a'.tmps.toList:=by
  apply List.ext_getElem?
  intro j
  rw[List.getElem?_set]
  split
  · rename_i e;subst e;split
    · exact h1.symm
    · rename_i g;rw[List.getElem?_eq_none (by omega)]
  · rfl
 rw[h4] at h3
 have h5:=h.run e s a' w hce (F.turn rfl rfl F.fr F.dfr h3)
 exact h5⟩
end
end
section
end
section
theorem kFam_plain {P N:Nat} {nn:Nat→Nat} {sI sU rs kb:Nat→Nat→Bool} {A:KA} (p i j:Nat) (h:j<(kFam P N nn sI sU rs kb A p i).n):plainL ((kFam P N nn sI sU rs kb A p i).el j)=true:=by
 unfold kFam at h⊢
 by_cases p0:p=0
 · rw[if_pos p0] at h⊢;exact rrG_plain 0 i j h
 rw[if_neg p0] at h⊢
 by_cases p1:p=1
 · rw[if_pos p1] at h⊢;exact rrG_plain 0 i j h
 rw[if_neg p1] at h⊢
 by_cases p2:p=2
 · rw[if_pos p2] at h⊢;exact rrG_plain 0 i j h
 rw[if_neg p2] at h⊢
 by_cases p3:p=3
 · rw[if_pos p3] at h⊢;exact rrG_plain 0 i j h
 rw[if_neg p3] at h⊢
 by_cases p4:p=4∧i=0
 · rw[if_pos p4] at h⊢;rfl
 · rw[if_neg p4] at h;exact absurd h (Nat.not_lt_zero _)
end
section
theorem rowsAt_fam {w:World} {lo:Nat} {g:List Value} {r:List ORow} (h:RowsAt w NoRows lo g r) (i:Nat) {R:ORow} (hi:r[i]? =some R) (hp:∀j,j<R.n→plainL (R.el j)=true):∃a cap,g[i]? =some (.slice a R.n cap)∧∀j,j<R.n→∃b p,a=some ⟨b,p,none⟩∧lo≤b∧b<w.heap.size∧∃vs,isL ⟨[],NoRows,[]⟩ (R.el j) vs∧∀(t:Nat) (v:Value),vs[t]? =some v→w.cell? ⟨b,p+(j * R.es+t),none⟩=some v:=by
 obtain ⟨v,xs,h1,h2,h3,h4⟩:=h.row i R hi
 have hR:RowIs NoRows w R v:=⟨xs,h2,h3,fun b hb=>(h4 b hb).2⟩
 obtain ⟨a,cap,rfl⟩:=hR.form
 refine ⟨a,cap,h1,fun j hj=>?_⟩
 obtain ⟨b,p,e1,e2,vs,e3,e4⟩:=hR.row (c':=NoRows) hp hj
 subst e1
 exact ⟨b,p,rfl,(h4 b rfl).1,e2,vs,e3,e4⟩
abbrev XA:=KA×(Option Addr×Nat)×(Option Addr×Nat)×(Option Addr×Nat)×(Option Addr×Nat)
def xRow (n es:Nat) (el:Nat→List SC) (y:Option Addr×Nat) (i:Nat):Row:=if i=0 then ⟨y.1,n,y.2,es,el⟩ else ⟨none,0,0,0,fun _=>[]⟩
def xFam (P N:Nat) (nn:Nat→Nat) (sI sU rs kb:Nat→Nat→Bool) (le:Nat→List SC) (A:XA):Nat→Nat→Row:=fun p i=>
 if p<5 then kFam P N nn sI sU rs kb A.1 p i else if p=5 then xRow P 6 le A.2.1 i else if p=6 then xRow P 1 (fun j=>[.val (.slice (A.1.1 j).1 N (A.1.1 j).2)]) A.2.2.1 i
 else if p=7 then xRow P 1 (fun j=>[.val (.slice (A.1.2.1 j).1 N (A.1.2.1 j).2)]) A.2.2.2.1 i else if p=8 then xRow P 1 (fun j=>[.val (.slice (A.1.2.2.2.1 j).1 N (A.1.2.2.2.1 j).2)]) A.2.2.2.2 i else ⟨none,0,0,0,fun _=>[]⟩
theorem xRow_plain {n es:Nat} {el:Nat→List SC} (hp:∀j,plainL (el j)=true) {y:Option Addr×Nat} (i j:Nat) (h:j<(xRow n es el y i).n):plainL ((xRow n es el y i).el j)=true:=by
 unfold xRow at h⊢
 split at h
 · rename_i g;rw[if_pos g];exact hp j
 · exact absurd h (Nat.not_lt_zero _)
theorem xFam_plain {P N:Nat} {nn:Nat→Nat} {sI sU rs kb:Nat→Nat→Bool} {le:Nat→List SC} (hp:∀j,plainL (le j)=true) {A:XA} (p i j:Nat) (h:j<(xFam P N nn sI sU rs kb le A p i).n):plainL ((xFam P N nn sI sU rs kb le A p i).el j)=true:=by
 unfold xFam at h⊢
 by_cases p5:p<5
 · rw[if_pos p5] at h⊢;exact kFam_plain p i j h
 rw[if_neg p5] at h⊢
 by_cases q5:p=5
 · rw[if_pos q5] at h⊢;exact xRow_plain hp i j h
 rw[if_neg q5] at h⊢
 by_cases q6:p=6
 · rw[if_pos q6] at h⊢;exact xRow_plain (fun _=>rfl) i j h
 rw[if_neg q6] at h⊢
 by_cases q7:p=7
 · rw[if_pos q7] at h⊢;exact xRow_plain (fun _=>rfl) i j h
 rw[if_neg q7] at h⊢
 by_cases q8:p=8
 · rw[if_pos q8] at h⊢;exact xRow_plain (fun _=>rfl) i j h
 · rw[if_neg q8] at h;exact absurd h (Nat.not_lt_zero _)
theorem knownX {F:GFun} {w:World} {P N:Nat} {nn:Nat→Nat} {sI sU rs kb:Nat→Nat→Bool} {le:Nat→List SC} (hp:∀j,plainL (le j)=true)
 (hC:Calls Tryz.prog 43 #[F.val] w (RetX w (fun A:KA=>.tup [.one (.rs 0),.one (.rs 1),.one (.rs 2),.one (.val (.slice A.2.2.2.2.1 P A.2.2.2.2.2)),.one (.rs 3),.one (.lit true)])
   (fun A=>[⟨P,6,le⟩,⟨P,1,fun j=>[.val (.slice (A.1 j).1 N (A.1 j).2)]⟩,⟨P,1,fun j=>[.val (.slice (A.2.1 j).1 N (A.2.1 j).2)]⟩,⟨P,1,fun j=>[.val (.slice (A.2.2.2.1 j).1 N (A.2.2.2.1 j).2)]⟩]) (kFam P N nn sI sU rs kb))):
 Calls Tryz.prog 43 #[F.val] w (RetX w (fun A:XA=>.tup [.one (.val (.slice A.2.1.1 P A.2.1.2)),.one (.val (.slice A.2.2.1.1 P A.2.2.1.2)),.one (.val (.slice A.2.2.2.1.1 P A.2.2.2.1.2)),.one (.val (.slice A.1.2.2.2.2.1 P A.1.2.2.2.2.2)),.one (.val (.slice A.2.2.2.2.1 P A.2.2.2.2.2)),.one (.lit true)])
  (fun _=>[]) (xFam P N nn sI sU rs kb le)):=
 hC.mono fun en w' ⟨A,v,g,h1,h2,h3,h4,h5⟩=>by
  obtain ⟨a0,c0,r0,f0⟩:=rowsAt_fam h3 0 rfl (fun j _=>hp j)
  obtain ⟨a1,c1,r1,f1⟩:=rowsAt_fam h3 1 rfl (fun j _=>rfl)
  obtain ⟨a2,c2,r2,f2⟩:=rowsAt_fam h3 2 rfl (fun j _=>rfl)
  obtain ⟨a3,c3,r3,f3⟩:=rowsAt_fam h3 3 rfl (fun j _=>rfl)
  obtain ⟨⟨vs⟩,rfl,hv⟩:=h4
  match vs,hv with
  | [u0,u1,u2,u3,u4,u5],⟨g0,g1,g2,g3,g4,g5,_⟩=>
    have g0:g[0]? =some u0∧_:=g0
    replace g0:=g0.1
    have g1:g[1]? =some u1∧_:=g1
    replace g1:=g1.1
    have g2:g[2]? =some u2∧_:=g2
    replace g2:=g2.1
    have g4:g[3]? =some u4∧_:=g4
    replace g4:=g4.1
    rw[r0] at g0
    replace g0:=(Option.some.inj g0).symm
    rw[r1] at g1
    replace g1:=(Option.some.inj g1).symm
    rw[r2] at g2
    replace g2:=(Option.some.inj g2).symm
    rw[r3] at g4
    replace g4:=(Option.some.inj g4).symm
    refine ⟨(A,(a0,c0),(a1,c1),(a2,c2),(a3,c3)),_,[],h1,h2,⟨rfl,fun i R h=>(by simp at h),fun i j b v v' h=>(by simp at h)⟩,⟨_,rfl,g0,g1,g2,g3,g4,g5,trivial⟩,⟨fun q i j hj=>?_⟩⟩
    have row:∀{n es:Nat} {el:Nat→List SC} {a:Option Addr} {cp:Nat},(∀j,j<n→∃b p,a=some ⟨b,p,none⟩∧w.heap.size≤b∧b<w'.heap.size∧∃vs,isL ⟨[],NoRows,[]⟩ (el j) vs∧∀(t:Nat) (v:Value),vs[t]? =some v→w'.cell? ⟨b,p+(j * es+t),none⟩=some v)→∀i j,j<(xRow n es el (a,cp) i).n→∃b p,(xRow n es el (a,cp) i).a=some ⟨b,p,none⟩∧w.heap.size≤b∧b<w'.heap.size∧(∀u∈([]:List Value),u.ownBlock≠some b)∧∃vs,isL ⟨[],NoRows,[]⟩ ((xRow n es el (a,cp) i).el j) vs∧∀(t:Nat) (v:Value),vs[t]? =some v→w'.cell? ⟨b,p+(j * (xRow n es el (a,cp) i).size+t),none⟩=some v:=fun f i j hj=>by
     unfold xRow at hj⊢
     by_cases hi:i=0
     · simp only[if_pos hi] at hj⊢
       obtain ⟨b,p,e1,e2,e3,vs,e4,e5⟩:=f j hj
       exact ⟨b,p,e1,e2,e3,fun u hu=>(by cases hu),vs,e4,e5⟩
     · rw[if_neg hi] at hj;exact absurd hj (Nat.not_lt_zero _)
    unfold xFam at hj⊢
    by_cases p5:q<5
    · rw[if_pos p5] at hj⊢
      obtain ⟨b,p,e1,e2,e3,_,e4⟩:=h5.ok q i j hj
      exact ⟨b,p,e1,e2,e3,fun u hu=>(by cases hu),e4⟩
    rw[if_neg p5] at hj⊢
    by_cases q5:q=5
    · rw[if_pos q5] at hj⊢;exact row f0 i j hj
    rw[if_neg q5] at hj⊢
    by_cases q6:q=6
    · rw[if_pos q6] at hj⊢;exact row f1 i j hj
    rw[if_neg q6] at hj⊢
    by_cases q7:q=7
    · rw[if_pos q7] at hj⊢;exact row f2 i j hj
    rw[if_neg q7] at hj⊢
    by_cases q8:q=8
    · rw[if_pos q8] at hj⊢;exact row f3 i j hj
    · rw[if_neg q8] at hj;exact absurd hj (Nat.not_lt_zero _)
theorem quo64 {ar:BinOp→IntKind→Int→Int→Int} (har:ar=rAr) {x:Int} (h0:0≤x) (h1:x<1000):ar .quo .u64 x 0=x:=by
 subst har
 simp only[rAr,IntKind.wrap,IntKind.bits,IntKind.signed]
 simp
 omega
theorem seen_xs {c c':Nat→Nat→Row} {K j:Nat} {a:Option Addr} {n cap:Nat} (h:(c' K j).a=a∧(c' K j).n=n∧(c' K j).c=cap) (vs:List Value) (hv:isL ⟨[],c,[]⟩ [.val (.slice a n cap)] vs):isL ⟨[],c',[]⟩ [.xs K j] vs:=by
 match vs,hv with
 | [v],⟨g,_⟩=>
   refine ⟨?_,trivial⟩
   have g:v=.slice a n cap:=g
   show v=.slice (c' K j).a (c' K j).n (c' K j).c
   rw[h.1,h.2.1,h.2.2];exact g
theorem qbL_le {K:Nat} {l:List SC} (h:qbL K l=true):∀m,qbL (K+m) l=true
 | 0=>h
 | m+1=>qbL_up _ (qbL_le h m)
theorem fam_upN (m:Nat) {c:Nat→Nat→Row} {K:Nat} {G:Nat→Nat→Row} (hc:∀q i j,q<K→j<(c q i).n→qbL K ((c q i).el j)=true) (hG:∀p i j,j<(G p i).n→plainL ((G p i).el j)=true):∀q i j,q<K+m→j<(chiG c K G q i).n→qbL (K+m) ((chiG c K G q i).el j)=true:=fun q i j hq hj=>by
 by_cases g:q<K
 · rw[chiG_lt g] at hj⊢
   exact qbL_le (hc q i j g hj) m
 · rw[chiG_ge (by omega)] at hj⊢
   exact plainL_qb (hG _ _ _ hj)
theorem alG_qb {c:Nat→Nat→Row} {K n:Nat} {el:Nat→List SC} {a:Option Addr} {cap:Nat} (hc:∀q i j,q<K→j<(c q i).n→qbL K ((c q i).el j)=true) (hq:∀j,qbL (K+1) (el j)=true):∀q i j,q<K+1→j<(chiG c K (alG n el a cap) q i).n→qbL (K+1) ((chiG c K (alG n el a cap) q i).el j)=true:=fun q i j h hj=>by
 by_cases g:q<K
 · rw[chiG_lt g] at hj⊢
   exact qbL_up _ (hc q i j g hj)
 · rw[chiG_ge (by omega)] at hj⊢
   unfold alG at hj⊢
   split at hj
   · rename_i g2;rw[if_pos g2];exact hq j
   · exact absurd hj (Nat.not_lt_zero _)
theorem alG_n {c:Nat→Nat→Row} {K n:Nat} {el:Nat→List SC} {a:Option Addr} {cap:Nat}:∀q i,K+1≤q→(chiG c K (alG n el a cap) q i).n=0:=fun q i h=>by
 rw[chiG_ge (by omega)]
 simp only[alG]
 rw[if_neg (by omega)]
end
end Go.Proofs.YtamcjkgedgocfaaGreat
