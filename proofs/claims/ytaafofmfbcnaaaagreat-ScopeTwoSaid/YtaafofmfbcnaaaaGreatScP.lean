/- ScopeTwo, the walk. No condition. -/
import Derived.Test.YtaafofmfbcnaaaaGreatC2
namespace Go.Proofs.YtaafofmfbcnaaaaGreat
open Go.RowKit
set_option linter.unusedVariables false
set_option linter.unusedSimpArgs false
theorem wScP_1 {p:Prop} (h:p:=by (first|(cbv;(try simp only[true_and,and_true]);(try ((repeat' apply And.intro)<;>(first|trivial|rfl|exact RowLe.rfl' _|decide|(rw[wrap_nat har _ (by omega)];done)|((rw[wrap_nat har i (by have:=hslN n (by have:=hnk k ‹_›;omega);omega)];done))|fail)));done)|fail)):Pf p:=⟨h⟩
set_option maxRecDepth 100000 in
set_option maxHeartbeats 32000000 in
theorem twoL (F:GFun) (w:World) (hF:F.At w) (hK:F.Ty8) (hD:F.Fd):
 Calls Tryz.prog 10 #[F.val] w (Ret w (.bool true)):=by
 have h1 (wc:World) (hk:KB ⟨w,[]⟩ wc):=fit22C F wc (hF.later hk) hK
 by_cases hO:fit22B F=true
 case neg=>
  have e:fit22B F=false:=by simpa using hO
  rw[e] at h1
  clear hK hO e hD
  obtain ⟨pa,un,lA,ln,lc,lk,lt,bA,bn,bc,sA,sn,sc,s,jA,jn,jc,ja,jk,jo,jf,jx,je,jd⟩:=F
  obtain ⟨hX,hl,hb,hs,hj⟩:=hF
  simp only at hl hb hs hj
  refine go_start (args:=[.pt (.agg (GFun.dat _))]) (c:=(funX _)) Tryz.func10 rfl hX rfl rfl ?_
  obtain ⟨nd,hnd,nt,hnt,ar,har,cm,hcm,mx,hmx,mn,hmn,ar01,ar12,zpl,hzpl,zjn,hzjn,zup,hzup,zmi,hzmi,zdp,hzdp,hT⟩:=t0_all
  repeat' (first
   | refine go1 ?_|refine gobt ?_|refine gobn ?_|refine go3 (fun hlt=>?_) (fun hge=>?_)|refine go2 (fun h=>?_) (fun h=>?_)|exact go0|refine god ?_|refine gof ?_|refine gob ?_|(with_reducible refine fork_cons ?_ ?_)
   | ((with_reducible apply go_call (f:=50) (hf:=Tryz.call50));(·(cbv;try rfl));(·intro wc hbc hxc;exact alive22C wc))
   | ((with_reducible apply go_callq (f:=50) (hf:=Tryz.call50));(·(cbv;try rfl));(·intro wc hbc hxc;exact alive22C wc))
   | ((with_reducible apply go_call (f:=51) (hf:=Tryz.call51));(·(cbv;try rfl));(·intro wc hbc hxc;exact h1 wc hbc))
   | ((with_reducible apply go_callq (f:=51) (hf:=Tryz.call51));(·(cbv;try rfl));(·intro wc hbc hxc;exact h1 wc hbc))
   | fail)
  all_goals rfl
 rw[hO] at h1
 have hO:=fit22_ok hO
 have hKn0 (wc:World) (hk:KB ⟨w,[]⟩ wc):=knownC F wc (hF.later hk) hO hD
 have hUs0 (wc:World) (hk:KB ⟨w,[]⟩ wc) (n:Nat) (hn:n<stN F.sn F.bn):=lusesC F wc (hF.later hk) hO hD n hn
 have hNx0 (wc:World) (hk:KB ⟨w,[]⟩ wc) {c:Nat→Nat→Row} (n:Nat) (hn:n<stN F.sn F.bn):=Calls.to (c':=c) (r:=[natR (rsucc F n)]) ⟨fun _ _=>rfl,trivial⟩ rfl (rNextC F wc (hF.later hk) hO n hn)
 have hN9:=hO.pts
 have hN0:=pts_pos hO
 have hP9:lnC F≤600:=Nat.le_trans (loanPts_len F _) hN9
 have hl16:=hO.ln16
 have hlk0:∀k,k<lnC F→(stAt F (lpN F k)).r.bo=3→0≤lnL F (lpN F k)∧lnL F (lpN F k)<F.ln:=fun k hk h=>lnL_two hO hk h
 have hbit0:∀k n,k<lnC F→(stAt F (lpN F k)).r.bo=3→decide (rAr .and .u32 (rAr .shr .u32 (.ofNat (umN F n)) (lnL F (lpN F k))) 1=0)= !(wyF F k).tw n:=fun k n hk h=>wy_bit0 hO hk rfl h n
 have hsq0:∀n,n<stN F.sn F.bn→∀t,t<(rsucc F n).length→(rsucc F n).getD t 0<stN F.sn F.bn:=fun n hn t ht=>succN_lt hO hn _ ((rsucc_mem hn).1 (by rw[List.getD_eq_getElem?_getD,List.getElem?_eq_getElem ht];exact List.getElem_mem ht))
 have hsl0:∀n,n<stN F.sn F.bn→(rsucc F n).length≤2:=fun n _=>rsucc_len F n
 have hus0:∀k j,(stAt F (lpN F k)).r.bo≠3→scU F k j=false:=fun k j h=>two_unused h j
 have hui0:∀k j,scU F k j=true→scI F k j=true:=fun k j h=>two_in h
 have hnx0:∀k n,n<stN F.sn F.bn→scI F k n=true→killB F k n=false→(wyF F k).tw n=true→∀t,t<(rsucc F n).length→regF F (k+F.ln) ((rsucc F n).getD t 0)=true→scU F k ((rsucc F n).getD t 0)=true:=fun k n hn h1 h2 h3 t ht hr=>two_next hn h1 h2 h3 (by rw[List.getD_eq_getElem?_getD,List.getElem?_eq_getElem ht];exact List.getElem_mem ht) hr
 obtain ⟨N,hN⟩:∃N,N=stN F.sn F.bn:=⟨_,rfl⟩
 obtain ⟨P,hP⟩:∃P,P=lnC F:=⟨_,rfl⟩
 obtain ⟨lp,hlp⟩:∃f:Nat→Nat,f=lpN F:=⟨_,rfl⟩
 obtain ⟨el,hel⟩:∃f:Nat→Int,f=fun j=>(stAt F (lpN F j)).r.p.l:=⟨_,rfl⟩
 obtain ⟨ed,hed⟩:∃f:Nat→Bool,f=fun j=>(stAt F (lpN F j)).r.p.d:=⟨_,rfl⟩
 obtain ⟨ef,hef⟩:∃f:Nat→Int,f=fun j=>(stAt F (lpN F j)).r.p.f:=⟨_,rfl⟩
 obtain ⟨eb,heb⟩:∃f:Nat→Int,f=fun j=>(stAt F (lpN F j)).r.bo:=⟨_,rfl⟩
 obtain ⟨lo,hlo⟩:∃f:Nat→Int,f=fun j=>lnL F (lpN F j):=⟨_,rfl⟩
 obtain ⟨sI,hsI⟩:∃f:Nat→Nat→Bool,f=scI F:=⟨_,rfl⟩
 obtain ⟨sU,hsU⟩:∃f:Nat→Nat→Bool,f=scU F:=⟨_,rfl⟩
 obtain ⟨rs,hrs⟩:∃f:Nat→Nat→Bool,f=fun j k=>regF F (j+F.ln) k:=⟨_,rfl⟩
 obtain ⟨kb,hkb⟩:∃f:Nat→Nat→Bool,f=killB F:=⟨_,rfl⟩
 obtain ⟨tw,htw⟩:∃f:Nat→Nat→Bool,f=fun k n=>(wyF F k).tw n:=⟨_,rfl⟩
 obtain ⟨um,hum⟩:∃f:Nat→Nat,f=umN F:=⟨_,rfl⟩
 obtain ⟨sm,hsm⟩:∃f:Nat→Int,f=smN F:=⟨_,rfl⟩
 obtain ⟨sl,hsl⟩:∃f:Nat→Nat,f=fun n=>(rsucc F n).length:=⟨_,rfl⟩
 obtain ⟨sq,hsq⟩:∃f:Nat→Nat→Nat,f=fun n t=>(rsucc F n).getD t 0:=⟨_,rfl⟩
 obtain ⟨nn,hnn⟩:∃f:Nat→Nat,f=nnN (lnC F) (stN F.sn F.bn):=⟨_,rfl⟩
 have hKn (wc:World) (hk:KB ⟨w,[]⟩ wc):Calls Tryz.prog 52 #[F.val] wc (RetX wc (fun A:XA=>.tup [.one (.val (.slice A.2.1.1 P A.2.1.2)),.one (.val (.slice A.2.2.1.1 P A.2.2.1.2)),.one (.val (.slice A.2.2.2.1.1 P A.2.2.2.1.2)),.one (.val (.slice A.1.2.2.2.2.1 P A.1.2.2.2.2.2)),.one (.val (.slice A.2.2.2.2.1 P A.2.2.2.2.2)),.one (.lit true)]) (fun _=>[]) (xFam P N nn sI sU rs kb (fun j=>[.int .i64 (.ofNat (lp j)),.int .i64 (el j),.bool (ed j),.int .u8 (ef j),.int .u8 (eb j),.int .i64 (lo j)]))):=by
  subst hP hN hlp hel hed hef heb hlo hsI hsU hrs hkb hnn;exact knownX (fun _=>rfl) (hKn0 wc hk)
 have hUs (wc:World) (hk:KB ⟨w,[]⟩ wc) (n:Nat) (hn:n<N):Calls Tryz.prog 54 #[F.val,.int .i64 (.ofNat n)] wc (Ret wc (.tuple #[.int .u32 (.ofNat (um n)),.int .i64 (sm n),.int .i64 0])):=by rw[hum,hsm];exact hUs0 wc hk n (hN▸hn)
 have hNx (wc:World) (hk:KB ⟨w,[]⟩ wc) {c:Nat→Nat→Row} (n:Nat) (hn:n<N):Calls Tryz.prog 56 #[F.val,.int .i64 (.ofNat n)] wc (RetR wc c (.pt (.one (.rs 0))) [⟨sl n,1,fun j=>[.int .i64 (.ofNat (sq n j))]⟩]):=by rw[hsl,hsq];exact hNx0 wc hk n (hN▸hn)
 have hnk:∀k,k<P→nn k=N:=fun k hk=>by rw[hP] at hk;rw[hnn,hN];exact nnN_lt hk
 have hlk:∀k,k<P→eb k=3→0≤lo k∧lo k<F.ln:=by rw[hP,heb,hlo];exact hlk0
 have hbit:∀k n,k<P→eb k=3→decide (rAr .and .u32 (rAr .shr .u32 (.ofNat (um n)) (lo k)) 1=0)= !tw k n:=by rw[hP,heb,hum,hlo,htw];exact hbit0
 have hsqN:∀n,n<N→∀t,t<sl n→sq n t<N:=by rw[hN,hsl,hsq];exact hsq0
 have hslN:∀n,n<N→sl n≤2:=by rw[hN,hsl];exact hsl0
 have hus:∀k j,eb k≠3→sU k j=false:=by rw[heb,hsU];exact hus0
 have hui:∀k j,sU k j=true→sI k j=true:=by rw[hsU,hsI];exact hui0
 have hnx:∀k n,n<N→sI k n=true→kb k n=false→tw k n=true→∀t,t<sl n→rs k (sq n t)=true→sU k (sq n t)=true:=by rw[hN,hsI,hkb,htw,hsl,hrs,hsq,hsU];exact hnx0
 have hSz1:∀(wc:World) (c:Nat→Nat→Row) (B:AdF) (k:Nat),XOk ⟨[],c,[]⟩ ⟨wc,[]⟩→k<P→eb k≠3→c 5 k=⟨(B k).1,nn k,(B k).2,1,fun j=>[.bool (sU k j)]⟩→Calls Tryz.prog 60 #[.slice (B k).1 (nn k) (B k).2] wc (Ret wc (.int .i64 0)):=fun wc c B k hx hk hne h=>by
  have:=size18C (B k).1 (nn k) (B k).2 (sU k) (by rw[hnk k hk,hN];omega) wc (one_ok hx h)
  rw[cntB_none _ (fun j _=>hus k j hne)] at this;exact this
 have hWi1:∀(wc:World) (c:Nat→Nat→Row) (B A:AdF) (k:Nat),XOk ⟨[],c,[]⟩ ⟨wc,[]⟩→k<P→c 5 k=⟨(B k).1,nn k,(B k).2,1,fun j=>[.bool (sU k j)]⟩→c 4 k=⟨(A k).1,nn k,(A k).2,1,fun j=>[.bool (sI k j)]⟩→Calls Tryz.prog 61 #[.slice (B k).1 (nn k) (B k).2,.slice (A k).1 (nn k) (A k).2] wc (Ret wc (.tuple #[.bool true,.int .i64 0])):=fun wc c B A k hx hk h h'=>
  within18C (B k).1 (nn k) (B k).2 (sU k) (A k).1 (A k).2 (sI k) (by rw[hnk k hk,hN];omega) wc (two_ok hx h h') (fun j _ g=>hui k j g)
 rw[←hN] at hN9 hN0
 rw[←hP] at hP9
 clear hKn0 hUs0 hNx0 hlk0 hbit0 hsq0 hsl0 hN hP hlp hel hed hef heb hlo hsI hsU hrs hkb htw hum hsm hsl hsq hnn hO hD hK hus0 hui0 hnx0 hui
 obtain ⟨pa,un,lA,ln,lc,lk,lt,bA,bn,bc,sA,sn,sc,s,jA,jn,jc,ja,jk,jo,jf,jx,je,jd⟩:=F
 obtain ⟨hX,hl,hb,hs,hj⟩:=hF
 simp only at hl hb hs hj
 try simp only at h1 hKn hUs hNx hl16 hlk
 refine go_start (args:=[.pt (.agg (GFun.dat ⟨pa,un,lA,ln,lc,lk,lt,bA,bn,bc,sA,sn,sc,s,jA,jn,jc,ja,jk,jo,jf,jx,je,jd⟩))]) (c:=(funX ⟨pa,un,lA,ln,lc,lk,lt,bA,bn,bc,sA,sn,sc,s,jA,jn,jc,ja,jk,jo,jf,jx,je,jd⟩)) Tryz.func10 rfl hX rfl rfl ?_
 obtain ⟨nd,hnd,nt,hnt,ar,har,cm,hcm,mx,hmx,mn,hmn,ar01,ar12,zpl,hzpl,zjn,hzjn,zup,hzup,zmi,hzmi,zdp,hzdp,hT⟩:=t0_all
 have hc13:∀A,∀q i j,q<13→j<(chiG (funX ⟨pa,un,lA,ln,lc,lk,lt,bA,bn,bc,sA,sn,sc,s,jA,jn,jc,ja,jk,jo,jf,jx,je,jd⟩) 4 (xFam P N nn sI sU rs kb (fun j=>[.int .i64 (.ofNat (lp j)),.int .i64 (el j),.bool (ed j),.int .u8 (ef j),.int .u8 (eb j),.int .i64 (lo j)]) A) q i).n→qbL 13 ((chiG (funX ⟨pa,un,lA,ln,lc,lk,lt,bA,bn,bc,sA,sn,sc,s,jA,jn,jc,ja,jk,jo,jf,jx,je,jd⟩) 4 (xFam P N nn sI sU rs kb (fun j=>[.int .i64 (.ofNat (lp j)),.int .i64 (el j),.bool (ed j),.int .u8 (ef j),.int .u8 (eb j),.int .i64 (lo j)]) A) q i).el j)=true:=fun A=>fam_upN 9 (funX_qb _) (fun p i j hj=>xFam_plain (fun _=>rfl) p i j hj)
 have hc14:=fun A a cap=>alG_qb (K:=13) (n:=P) (el:=fun j=>[.xs 4 j]) (a:=a) (cap:=cap) (hc13 A) (fun _=>rfl)
 have hc15:=fun A a cap a' cap'=>alG_qb (K:=14) (n:=P) (el:=fun j=>[.xs 5 j]) (a:=a') (cap:=cap') (hc14 A a cap) (fun _=>rfl)
 have hc16:=fun A a cap a' cap' b bap=>alG_qb (K:=15) (n:=P) (el:=fun j=>[.xs 6 j]) (a:=b) (cap:=bap) (hc15 A a cap a' cap') (fun _=>rfl)
 have hc17:=fun A a cap a' cap' b bap d dap=>alG_qb (K:=16) (n:=P) (el:=fun j=>[.xs 7 j]) (a:=d) (cap:=dap) (hc16 A a cap a' cap' b bap) (fun _=>rfl)
 have nq:∀k,k<P→eb k=3→ar .quo .u64 (lo k) 0=lo k:=fun k hk he=>quo64 har (hlk k hk he).1 (by have:=(hlk k hk he).2;omega)
 have n3:∀k,k<P→eb k=3→0≤ar .quo .u64 (lo k) 0:=fun k hk he=>by rw[nq k hk he];exact (hlk k hk he).1
 have hnq:∀X:Int,0≤X→X<X.toNat+1:=fun X h=>by omega
 have hq3:∀k n i,k<P→n<N→i<sl n→(Int.ofNat (sq n i))<(nn k:Int):=fun k n i hk hn hi=>by
  have:=hsqN n hn i hi
  rw[hnk k hk];simp only[Int.ofNat_eq_natCast];omega
 have c1:∀k,k<P→eb k=3→cm .lss (lo k) 0=true→False:=fun k hk he h=>by rw[hcm] at h;exact absurd (of_decide_eq_true h) (Int.not_lt.2 (hlk k hk he).1)
 have c2:∀k n i,k<P→eb k=3→n<nn k→sI k n=true→kb k n=false→decide (ar .and .u32 (ar .shr .u32 (.ofNat (um n)) (ar .quo .u64 (lo k) 0)) 1=0)=false→i<sl n→rs k (sq n i)=true→sU k (sq n i)=false→False:=fun k n i hk he hn h1 h2 h3 hi h4 h5=>by
  have hb:=hbit k n hk he
  rw[nq k hk he,har] at h3
  rw[h3] at hb
  rw[hnx k n (by rw[←hnk k hk];exact hn) h1 h2 (by simpa using hb.symm) i hi h4] at h5
  cases h5
 repeat' (first
  | refine go1 ?_|refine gobt ?_|refine gobn ?_|refine go3 (fun hlt=>?_) (fun hge=>?_)|refine go2 (fun h=>?_) (fun h=>?_)|exact go0|refine god ?_|refine gof ?_|refine gob ?_|(with_reducible refine fork_cons ?_ ?_)
  | ((first|with_reducible apply go_fin_rowsP hT|with_reducible apply go_ret_rowsP hT);(·(cbv;try rfl));(·(cbv;try rfl));(·exact wScP_1);(·exact wScP_1);(·rfl))
  | ((with_reducible apply go_call (f:=50) (hf:=Tryz.call50));(·(cbv;try rfl));(·intro wc hbc hxc;exact alive22C wc))
  | ((with_reducible apply go_callq (f:=50) (hf:=Tryz.call50));(·(cbv;try rfl));(·intro wc hbc hxc;exact alive22C wc))
  | ((with_reducible apply go_call (f:=51) (hf:=Tryz.call51));(·(cbv;try rfl));(·intro wc hbc hxc;exact h1 wc hbc))
  | ((with_reducible apply go_callq (f:=51) (hf:=Tryz.call51));(·(cbv;try rfl));(·intro wc hbc hxc;exact h1 wc hbc))
  | (((with_reducible apply go_callX 4 (f:=52) (hf:=Tryz.call52));(·intro S;cbv;try rfl);(·intro wc S hbc hxc hrc;exact hKn wc hbc);(·intro A;rfl);(·intro A;rfl);(·rfl);(·rfl);(·trivial);(·exact funX_qb _);(·intro A;trivial);(·intro A p i j hj;exact xFam_plain (fun _=>rfl) p i j hj);(intro A hnew;refine go_rowX 13 10 0 (a:=A.2.2.1.1) (n:=P) (cap:=A.2.2.1.2) (el0:=fun j=>[.val (.slice (A.1.1 j).1 N (A.1.1 j).2)]) (el:=fun j=>[.xs 4 j]) rfl (fun j hj vs hv=>seen_xs ⟨rfl,hnk j hj,rfl⟩ vs hv) rfl rfl trivial (hc13 A) ?_;refine go_rowX 14 11 0 (a:=A.2.2.2.1.1) (n:=P) (cap:=A.2.2.2.1.2) (el0:=fun j=>[.val (.slice (A.1.2.1 j).1 N (A.1.2.1 j).2)]) (el:=fun j=>[.xs 5 j]) rfl (fun j hj vs hv=>seen_xs ⟨rfl,hnk j hj,rfl⟩ vs hv) rfl rfl trivial (hc14 A _ _) ?_;refine go_rowX 15 8 0 (a:=A.1.2.2.2.2.1) (n:=P) (cap:=A.1.2.2.2.2.2) (el0:=fun j=>[.val (.slice (A.1.2.2.1 j).1 N (A.1.2.2.1 j).2)]) (el:=fun j=>[.xs 6 j]) rfl (fun j hj vs hv=>seen_xs ⟨rfl,hnk j hj,rfl⟩ vs hv) rfl rfl trivial (hc15 A _ _ _ _) ?_;refine go_rowX 16 12 0 (a:=A.2.2.2.2.1) (n:=P) (cap:=A.2.2.2.2.2) (el0:=fun j=>[.val (.slice (A.1.2.2.2.1 j).1 N (A.1.2.2.2.1 j).2)]) (el:=fun j=>[.xs 7 j]) rfl (fun j hj vs hv=>seen_xs ⟨rfl,hnk j hj,rfl⟩ vs hv) rfl rfl trivial (hc16 A _ _ _ _ _ _) ?_;refine go_slotT 30 0 9 0 rfl rfl rfl ?_;refine go_slotT 30 1 13 0 rfl rfl rfl ?_;refine go_slotT 30 2 14 0 rfl rfl rfl ?_;refine go_slotT 30 3 15 0 rfl rfl rfl ?_;refine go_slotT 30 4 16 0 rfl rfl rfl ?_;refine go_boxT 1 17 rfl rfl rfl rfl rfl trivial rfl (hc17 A _ _ _ _ _ _ _ _) alG_n (fun b17 _=>?_))))
  | (((with_reducible refine go_drawE (id:=13) (by kernel_rfl) ?_);(have f0:=hlk k ‹_› (of_decide_eq_true (p:=eb k=3) ‹_›));(have f1:cm .lss (lo k) 0=false:=by rw[hcm];exact decide_eq_false (Int.not_lt.2 f0.1));(have f2:ar .quo .u64 (lo k) 0=lo k:=quo64 har f0.1 (by omega));(have f3:0≤ar .quo .u64 (lo k) 0:=by rw[f2];exact f0.1)))
  | ((with_reducible apply go_call (f:=60) (hf:=Tryz.call60));(·(cbv;try rfl));(·intro wc hbc hxc;exact (hSz1 wc _ A.1.2.1 k hxc ‹_› (of_decide_eq_false (p:=eb k=3) ‹_›) rfl)))
  | ((with_reducible apply go_callq (f:=60) (hf:=Tryz.call60));(·(cbv;try rfl));(·intro wc hbc hxc;exact (hSz1 wc _ A.1.2.1 k hxc ‹_› (of_decide_eq_false (p:=eb k=3) ‹_›) rfl)))
  | ((with_reducible apply go_call (f:=61) (hf:=Tryz.call61));(·(cbv;try rfl));(·intro wc hbc hxc;exact (hWi1 wc _ A.1.2.1 A.1.1 k hxc ‹_› rfl rfl)))
  | ((with_reducible apply go_callq (f:=61) (hf:=Tryz.call61));(·(cbv;try rfl));(·intro wc hbc hxc;exact (hWi1 wc _ A.1.2.1 A.1.1 k hxc ‹_› rfl rfl)))
  | ((with_reducible apply go_call (f:=54) (hf:=Tryz.call54));(·(cbv;try rfl));(·intro wc hbc hxc;exact (hUs wc hbc n (by have:=hnk k ‹_›;omega))))
  | ((with_reducible apply go_callq (f:=54) (hf:=Tryz.call54));(·(cbv;try rfl));(·intro wc hbc hxc;exact (hUs wc hbc n (by have:=hnk k ‹_›;omega))))
  | ((with_reducible apply go_callR (f:=56) (hf:=Tryz.call56));(·intro S;cbv;try rfl);(·intro wc S hbc hxc hrc;exact (hNx wc hbc n (by have:=hnk k ‹_›;omega)));(·rfl))
  | ((with_reducible refine go_loopk (σ:={k:Nat // k≤P}) [11,12,13,14,15,16,17,18,39,40,41,42,43,44,45,46,47,48,49,50,51,52,53,54,55,56,57,58,59,60,61,62,63,64,65,66,67,68,69,70,71,72,73,74,75,76,77,78,79,80,81,82,83,84,85,86,87,88,89,90,91,92,93,94,95,96,97,98,99,100,101,102,103,104,105,106,107,108,109,110,111,112,113,114,115,116,117,118,119,120,121,122,123,124,125,126,127,128,129,130,131,132,133,134,135,136,137,138,139,140,141,142,143,144,145,146,147,148,149,150,151,152,153,154,155,156,157,158,159,160,161] (fun x=>[(10,.pt (.one (.int .i64 (.ofNat x.1))))]) (fun x=>[]) (fun x=>[]) (fun x=>P - x.1) ⟨0,Nat.zero_le _⟩ ?_ ?_ ?_ ?_);(·exact le_mkP wScP_1 wScP_1 wScP_1 wScP_1);(·(cbv;try rfl));(·simp);(rintro ⟨k,hk⟩ mm hmm))
  | ((with_reducible refine go_loopk (σ:={n:Nat // n≤N}) [14,15,16,17,18,83,84,85,86,87,88,89,90,91,92,93,94,95,96,97,98,99,100,101,102,103,104,105,106,107,108,109,110,111,112,113,114,115,116,117,118,119,120,121,122,123,124,125,126,127,128,129,130,131,132,133,134,135,136,137,138,139,140,141,142,143,144,145,146,147,148,149,150,151,152,153,154,155,156,157,158,159,160,161] (fun x=>[(13,.pt (.one (.int .i64 (.ofNat x.1))))]) (fun x=>[]) (fun x=>[]) (fun x=>N - x.1) ⟨0,Nat.zero_le _⟩ ?_ ?_ ?_ ?_);(·exact le_mkP wScP_1 wScP_1 wScP_1 wScP_1);(·(cbv;try rfl));(·simp);(rintro ⟨n,hn⟩ mm hmm))
  | ((with_reducible refine go_loopk (σ:={i:Nat // i≤sl n}) [133,134,135,136,137,138,139,140,141,142,143,144,145,146,147,148,149,150,151,152,153,154,155,156,157,158,159,160,161] (fun x=>[(18,.pt (.one (.int .i64 (.ofNat x.1))))]) (fun x=>[]) (fun x=>[]) (fun x=>sl n - x.1) ⟨0,Nat.zero_le _⟩ ?_ ?_ ?_ ?_);(·exact le_mkP wScP_1 wScP_1 wScP_1 wScP_1);(·(cbv;try rfl));(·simp);(rintro ⟨i,hi⟩ mm hmm))
  | ((with_reducible refine go_stop (⟨k+1,Nat.succ_le_of_lt ‹_›⟩:{k:Nat // k≤P}) ?_ ?_ ?_ ?_);(·(exact Nat.lt_of_lt_of_eq (show P - (k+1)<P - k by omega) (Eq.symm ‹_›)));(·exact le_mkP wScP_1 wScP_1 wScP_1 wScP_1);(·(cbv;try rfl));(·simp))
  | ((with_reducible refine go_stop (⟨n+1,by have:=hnk k ‹_›;omega⟩:{n:Nat // n≤N}) ?_ ?_ ?_ ?_);(·(exact Nat.lt_of_lt_of_eq (show N - (n+1)<N - n by have:=hnk k ‹_›;omega) (Eq.symm ‹_›)));(·exact le_mkP wScP_1 wScP_1 wScP_1 wScP_1);(·(cbv;try rfl));(·simp))
  | ((with_reducible refine go_stop (⟨i+1,Nat.succ_le_of_lt ‹_›⟩:{i:Nat // i≤sl n}) ?_ ?_ ?_ ?_);(·(exact Nat.lt_of_lt_of_eq (show sl n - (i+1)<sl n - i by omega) (Eq.symm ‹_›)));(·exact le_mkP wScP_1 wScP_1 wScP_1 wScP_1);(·(cbv;try rfl));(·simp))
  | (((with_reducible apply go_need);(·exact n3 k ‹_› (of_decide_eq_true (p:=eb k=3) ‹_›));(·exact hnq _ (n3 k ‹_› (of_decide_eq_true (p:=eb k=3) ‹_›)))))
  | (((with_reducible apply go_need);(·exact Int.natCast_nonneg _);(·exact hq3 k n i ‹_› (by have:=hnk k ‹_›;omega) ‹_›)))
  | fail)
 all_goals first
  | rfl
  | exact (c1 k ‹_› (of_decide_eq_true (p:=eb k=3) ‹_›) ‹_›).elim
  | exact (c2 k n i ‹_› (of_decide_eq_true (p:=eb k=3) ‹_›) ‹_› ‹_› ‹_› ‹_› ‹_› ‹_› ‹_›).elim
  | trace_state
end Go.Proofs.YtaafofmfbcnaaaaGreat
