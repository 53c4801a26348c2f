/- ScopeWays, the walk (draft). No condition. -/
import Derived.Test.YtamcjkgedgocfaaGreatX1
import Derived.Test.YtamcjkgedgocfaaGreatC6
namespace Go.Proofs.YtamcjkgedgocfaaGreat
open Go.RowKit
set_option linter.unusedVariables false
set_option linter.unusedSimpArgs false
theorem wScY_2 {p:Prop} (h:p:=by (first|(cbv;(try simp only[true_and,and_true]);(try ((repeat' apply And.intro)<;>(first|trivial|rfl|exact RowLe.rfl' _|decide|(rw[wrap_nat har _ (by omega)];done)|((exact RF))|((rw[wrap_nat har _ (by omega)];done))|fail)));done)|fail)):Pf p:=⟨h⟩
theorem wScY_3 {p:Prop} (h:p:=by (first|(cbv;(try simp only[true_and,and_true]);(try ((repeat' apply And.intro)<;>(first|trivial|rfl|exact RowLe.rfl' _|decide|(rw[wrap_nat har _ (by omega)];done)|((exact RF))|((rw[wrap_nat har _ (by omega)];done))|fail)));done)|fail)):Pf p:=⟨h⟩
set_option maxRecDepth 100000 in
set_option maxHeartbeats 32000000 in
theorem scWaysL (F:GFun) (w:World) (hF:F.At w) (hK:F.Ty8) (hD:F.Fd) (a:Option Addr) (n cap:Nat) (f:Nat→Int) (hn0:n≤maxLen) (hA:RowAt w a n 1 (fun i=>[.int .i64 (f i)])):
 Calls Tryz.prog 6 #[F.val,.slice a n cap] w (Ret w (.bool true)):=by
 have hXC:=funC_ok (cap:=cap) hF hA
 have hn1:n≤9223372036854775807:=Nat.le_trans hn0 (by decide)
 have h1 (wc:World) (hk:KB ⟨w,[]⟩ wc):=fit22C F wc (hF.later hk) hK
 by_cases hO:fit22B F=true
 case neg=>
  have hq:fit22B F=false:=by simpa using hO
  rw[hq] at h1
  clear hK hO hA hD hq
  obtain ⟨pa,un,lA,ln,lc,lk,lt,bA,bn,bc,sA,sn,sc,s,jA,jn,jc,ja,jk,jo,jf,jx,je,jd⟩:=F
  obtain ⟨hX,hl,hb,hs,hj⟩:=hF
  simp only at hl hb hs hj
  try simp only at h1
  refine go_start (args:=[.pt (.agg (GFun.dat ⟨pa,un,lA,ln,lc,lk,lt,bA,bn,bc,sA,sn,sc,s,jA,jn,jc,ja,jk,jo,jf,jx,je,jd⟩)),.pt (.one (.xs 4 0))]) (c:=(funC ⟨pa,un,lA,ln,lc,lk,lt,bA,bn,bc,sA,sn,sc,s,jA,jn,jc,ja,jk,jo,jf,jx,je,jd⟩ a n cap f)) Tryz.func6 rfl hXC rfl rfl ?_
  obtain ⟨nd,hnd,nt,hnt,ar,har,cm,hcm,mx,hmx,mn,hmn,ar01,ar12,zpl,hzpl,zjn,hzjn,zup,hzup,zmi,hzmi,zdp,hzdp,hT⟩:=t0_all
  repeat' (first
   | refine go1 ?_|refine gobt ?_|refine gobn ?_|refine go3 (fun hlt=>?_) (fun hge=>?_)|refine go2 (fun h=>?_) (fun h=>?_)|exact go0|refine god ?_|refine gof ?_|refine gob ?_|(with_reducible refine fork_cons ?_ ?_)
   | ((with_reducible apply go_call (f:=41) (hf:=Tryz.call41));(·(cbv;try rfl));(·intro wc hbc hxc;exact alive22C wc))
   | ((with_reducible apply go_callq (f:=41) (hf:=Tryz.call41));(·(cbv;try rfl));(·intro wc hbc hxc;exact alive22C wc))
   | ((with_reducible apply go_call (f:=42) (hf:=Tryz.call42));(·(cbv;try rfl));(·intro wc hbc hxc;exact h1 wc hbc))
   | ((with_reducible apply go_callq (f:=42) (hf:=Tryz.call42));(·(cbv;try rfl));(·intro wc hbc hxc;exact h1 wc hbc))
   | fail)
  all_goals rfl
 rw[hO] at h1
 have hO:=fit22_ok hO
 by_cases hg:200<n
 case pos=>
  clear hK hO hA hD
  obtain ⟨pa,un,lA,ln,lc,lk,lt,bA,bn,bc,sA,sn,sc,s,jA,jn,jc,ja,jk,jo,jf,jx,je,jd⟩:=F
  obtain ⟨hX,hl,hb,hs,hj⟩:=hF
  simp only at hl hb hs hj
  try simp only at h1
  refine go_start (args:=[.pt (.agg (GFun.dat ⟨pa,un,lA,ln,lc,lk,lt,bA,bn,bc,sA,sn,sc,s,jA,jn,jc,ja,jk,jo,jf,jx,je,jd⟩)),.pt (.one (.xs 4 0))]) (c:=(funC ⟨pa,un,lA,ln,lc,lk,lt,bA,bn,bc,sA,sn,sc,s,jA,jn,jc,ja,jk,jo,jf,jx,je,jd⟩ a n cap f)) Tryz.func6 rfl hXC rfl rfl ?_
  obtain ⟨nd,hnd,nt,hnt,ar,har,cm,hcm,mx,hmx,mn,hmn,ar01,ar12,zpl,hzpl,zjn,hzjn,zup,hzup,zmi,hzmi,zdp,hzdp,hT⟩:=t0_all
  have c1:cm .gtr (.ofNat n) 200=true:=by rw[hcm];exact decide_eq_true (show (200:Int)<(n:Int) by omega)
  repeat' (first
   | refine go1 ?_|refine gobt ?_|refine gobn ?_|refine go3 (fun hlt=>?_) (fun hge=>?_)|refine go2 (fun h=>?_) (fun h=>?_)|exact go0|refine god ?_|refine gof ?_|refine gob ?_|(with_reducible refine fork_cons ?_ ?_)
   | ((with_reducible apply go_call (f:=41) (hf:=Tryz.call41));(·(cbv;try rfl));(·intro wc hbc hxc;exact alive22C wc))
   | ((with_reducible apply go_callq (f:=41) (hf:=Tryz.call41));(·(cbv;try rfl));(·intro wc hbc hxc;exact alive22C wc))
   | ((with_reducible apply go_call (f:=42) (hf:=Tryz.call42));(·(cbv;try rfl));(·intro wc hbc hxc;exact h1 wc hbc))
   | ((with_reducible apply go_callq (f:=42) (hf:=Tryz.call42));(·(cbv;try rfl));(·intro wc hbc hxc;exact h1 wc hbc))
   | fail)
  all_goals rfl
 have h40 (wc:World) (hk:KB ⟨w,[]⟩ wc):=livesC F wc (hF.later hk) hO hD
 have h60 (wc:World) (hk:KB ⟨w,[]⟩ wc) (x:Nat) (hx:x<stN F.sn F.bn):=lusesC F wc (hF.later hk) hO hD x hx
 have h7 (wc:World) (hk:KB ⟨w,[]⟩ wc):=sizeC F wc (hF.later hk) hO.small
 have h80 (wc:World) (hk:KB ⟨w,[]⟩ wc) (a:Nat) (ha:a<stN F.sn F.bn):=nextPC F wc (hF.later hk) hO (pbN F a) (piN F a) (num_pt ha).1 (num_pt ha).2.1
 have h100 (wc:World) (hk:KB ⟨w,[]⟩ wc) (b i:Nat) (hb:b<F.bn) (hi:i≤F.sn b):=numberC F wc (hF.later hk) hO b i hb hi
 have h110 (wc:World) (hk:KB ⟨w,[]⟩ wc) (a:Nat) (ha:a<stN F.sn F.bn):=pointNC F wc (hF.later hk) hO.small a ha
 have hKn0 (wc:World) (hk:KB ⟨w,[]⟩ wc):=knownC F wc (hF.later hk) hO hD
 have hN9:=hO.pts
 have hN0:=pts_pos hO
 have hP9:lnC F≤600:=Nat.le_trans (loanPts_len F _) hN9
 have hl16:=hO.ln16
 have hlk0:∀k,k<lnC F→(stAt F (lpN F k)).r.bo=3→0≤lnL F (lpN F k)∧lnL F (lpN F k)<F.ln:=fun k hk h=>lnL_two hO hk h
 have hbit10:∀k n,k<lnC F→(stAt F (lpN F k)).r.bo=3→decide (rAr .and .u32 (rAr .shr .u32 (.ofNat (umN F n)) (lnL F (lpN F k))) 1=1)=(wyF F k).tw n:=fun k n hk h=>wy_bit1 hO hk h n
 obtain ⟨N,hN⟩:∃N,N=stN F.sn F.bn:=⟨_,rfl⟩
 obtain ⟨P,hP⟩:∃P,P=lnC F:=⟨_,rfl⟩
 obtain ⟨lp,hlp⟩:∃f:Nat→Nat,f=lpN F:=⟨_,rfl⟩
 obtain ⟨el,hel⟩:∃f:Nat→Int,f=fun j=>(stAt F (lpN F j)).r.p.l:=⟨_,rfl⟩
 obtain ⟨ed,hed⟩:∃f:Nat→Bool,f=fun j=>(stAt F (lpN F j)).r.p.d:=⟨_,rfl⟩
 obtain ⟨ef,hef⟩:∃f:Nat→Int,f=fun j=>(stAt F (lpN F j)).r.p.f:=⟨_,rfl⟩
 obtain ⟨eb,heb⟩:∃f:Nat→Int,f=fun j=>(stAt F (lpN F j)).r.bo:=⟨_,rfl⟩
 obtain ⟨lo,hlo⟩:∃f:Nat→Int,f=fun j=>lnL F (lpN F j):=⟨_,rfl⟩
 obtain ⟨sI,hsI⟩:∃f:Nat→Nat→Bool,f=scI F:=⟨_,rfl⟩
 obtain ⟨sU,hsU⟩:∃f:Nat→Nat→Bool,f=scU F:=⟨_,rfl⟩
 obtain ⟨rs,hrs⟩:∃f:Nat→Nat→Bool,f=fun j k=>regF F (j+F.ln) k:=⟨_,rfl⟩
 obtain ⟨kb,hkb⟩:∃f:Nat→Nat→Bool,f=killB F:=⟨_,rfl⟩
 obtain ⟨nn,hnn⟩:∃f:Nat→Nat,f=nnN (lnC F) (stN F.sn F.bn):=⟨_,rfl⟩
 obtain ⟨pb,hpb⟩:∃f:Nat→Nat,f=pbN F:=⟨_,rfl⟩
 obtain ⟨pi,hpi⟩:∃f:Nat→Nat,f=piN F:=⟨_,rfl⟩
 obtain ⟨rm,hrm⟩:∃f:Nat→Nat,f=liM F:=⟨_,rfl⟩
 obtain ⟨um,hum⟩:∃f:Nat→Nat,f=umN F:=⟨_,rfl⟩
 obtain ⟨sm,hsm⟩:∃f:Nat→Int,f=smN F:=⟨_,rfl⟩
 obtain ⟨nl,hnl⟩:∃f:Nat→Nat,f=fun a=>(nextP F (pbN F a) (piN F a)).length:=⟨_,rfl⟩
 obtain ⟨q1',hq1⟩:∃f:Nat→Nat→Nat,f=fun a k=>((nextP F (pbN F a) (piN F a)).getD k (0,0)).1:=⟨_,rfl⟩
 obtain ⟨q2',hq2⟩:∃f:Nat→Nat→Nat,f=fun a k=>((nextP F (pbN F a) (piN F a)).getD k (0,0)).2:=⟨_,rfl⟩
 obtain ⟨nm,hnm⟩:∃f:Nat→Nat→Nat,f=nmN F:=⟨_,rfl⟩
 have hKn (wc:World) (hk:KB ⟨w,[]⟩ wc):Calls Tryz.prog 43 #[F.val] wc (RetX wc (fun A:XA=>.tup [.one (.val (.slice A.2.1.1 P A.2.1.2)),.one (.val (.slice A.2.2.1.1 P A.2.2.1.2)),.one (.val (.slice A.2.2.2.1.1 P A.2.2.2.1.2)),.one (.val (.slice A.1.2.2.2.2.1 P A.1.2.2.2.2.2)),.one (.val (.slice A.2.2.2.2.1 P A.2.2.2.2.2)),.one (.lit true)]) (fun _=>[]) (xFam P N nn sI sU rs kb (fun j=>[.int .i64 (.ofNat (lp j)),.int .i64 (el j),.bool (ed j),.int .u8 (ef j),.int .u8 (eb j),.int .i64 (lo j)]))):=by
  subst hP hN hlp hel hed hef heb hlo hsI hsU hrs hkb hnn;exact knownX (fun _=>rfl) (hKn0 wc hk)
 have h4 {c:Nat→Nat→Row} (wc:World) (hk:KB ⟨w,[]⟩ wc):Calls Tryz.prog 161 #[F.val] wc (RetR wc c (.tup [.one (.rs 0),.one (.int .i64 0)]) [⟨N,1,fun j=>[.int .u32 (.ofNat (rm j))]⟩]):=by
  rw[hrm,hN];exact Calls.to ⟨fun _ _=>rfl,trivial⟩ rfl (h40 wc hk)
 have h6 (wc:World) (hk:KB ⟨w,[]⟩ wc) (x:Nat) (hx:x<N):Calls Tryz.prog 45 #[F.val,.int .i64 (.ofNat x)] wc (Ret wc (.tuple #[.int .u32 (.ofNat (um x)),.int .i64 (sm x),.int .i64 0])):=by
  rw[hum,hsm];exact h60 wc hk x (hN▸hx)
 have h8 {c:Nat→Nat→Row} (wc:World) (hk:KB ⟨w,[]⟩ wc) (x:Nat) (hx:x<N):Calls Tryz.prog 17 #[F.val,.agg #[.int .i64 (.ofNat (pb x)),.int .i64 (.ofNat (pi x))]] wc (RetR wc c (.tup [.one (.rs 0),.one (.int .i64 0)]) [⟨nl x,2,fun j=>[.int .i64 (.ofNat (q1' x j)),.int .i64 (.ofNat (q2' x j))]⟩]):=by
  rw[hpb,hpi,hnl,hq1,hq2];exact Calls.to ⟨fun _ _=>rfl,trivial⟩ rfl (h80 wc hk x (hN▸hx))
 have h11 (wc:World) (hk:KB ⟨w,[]⟩ wc) (a:Nat) (ha:a<N):Calls Tryz.prog 44 #[F.val,.int .i64 (.ofNat a)] wc (Ret wc (.agg #[.int .i64 (.ofNat (pb a)),.int .i64 (.ofNat (pi a))])):=by
  rw[hpb,hpi];exact h110 wc hk a (hN▸ha)
 have h10 (wc:World) (hk:KB ⟨w,[]⟩ wc) (a k:Nat) (ha:a<N) (hk2:k<nl a):Calls Tryz.prog 15 #[F.val,.agg #[.int .i64 (.ofNat (q1' a k)),.int .i64 (.ofNat (q2' a k))]] wc (Ret wc (.tuple #[.int .i64 (.ofNat (nm a k)),.int .i64 0])):=by
  rw[hnl] at hk2
  have q:=nmN_ok hO (hN▸ha) hk2
  rw[hq1,hq2,hnm];exact h100 wc hk _ _ q.1 q.2.1
 have nl2:∀a,nl a≤2:=fun a=>by rw[hnl];exact nextP_len
 have nmL:∀a k,a<N→k<nl a→nm a k<N:=fun a k ha hk=>by
  rw[hnl] at hk;rw[hnm,hN];exact (nmN_ok hO (hN▸ha) hk).2.2.1
 have hnk:∀k,k<P→nn k=N:=fun k hk=>by rw[hP] at hk;rw[hnn,hN];exact nnN_lt hk
 obtain ⟨tw,htw⟩:∃f:Nat→Nat→Bool,f=fun k n=>(wyF F k).tw n:=⟨_,rfl⟩
 obtain ⟨J,hJ⟩:∃J:Nat→Nat→Nat→(Nat→Bool)→(Nat→Bool)→Prop,J=WysI F:=⟨_,rfl⟩
 have hlk:∀k,k<P→eb k=3→0≤lo k∧lo k<F.ln:=by rw[hP,heb,hlo];exact hlk0
 have hbit1:∀k n,k<P→eb k=3→decide (rAr .and .u32 (rAr .shr .u32 (.ofNat (um n)) (lo k)) 1=1)=tw k n:=by rw[hP,heb,hum,hlo,htw];exact hbit10
 have ht0:∀k n,eb k≠3→tw k n=false:=fun k n h=>by
  rw[heb] at h
  rw[htw];show (decide ((stAt F (lpN F k)).r.bo=3)&&_)=false
  rw[decide_eq_false h];rfl
 have j1:∀x m on wi,(∀j,j<P→(on j=true→sI j x=true)∧(wi j=true→sU j x=true))→J x m 0 on wi:=by rw[hP,hsI,hsU,hJ];exact fun x m on wi h=>WysI.first h
 have j2:∀x m k on wi,P≤k→J x m k on wi→∀j,j<P→(on j=true→sI j (nm x m)=true)∧(wi j=true→sU j (nm x m)=true):=by rw[hP,hsI,hsU,hJ,hnm];exact fun x m k on wi hk h=>WysI.last hk h
 have j3:∀x m k on wi on' wi',m<nl x→k<P→J x m k on wi→(∀j,j≠k→on' j=on j∧wi' j=wi j)→on' k=((on k||decide (lp k=x))&&!kb k x&&rs k (nm x m))→wi' k=((on k&&(wi k||tw k x))&&on' k)→J x m (k+1) on' wi':=by
  rw[hP,hlp,hkb,hrs,htw,hJ,hnm,hnl];exact fun x m k on wi on' wi' hm hk h h1 h2 h3=>WysI.step hm hk h h1 h2 h3
 have j4:∀(x m k:Nat) (on wi on' wi':Nat→Bool),m<nl x→k<P→J x m k on wi→(∀j,j≠k→on' j=on j∧wi' j=wi j)→on' k=((on k||decide (lp k=x))&&!kb k x&&rs k (nm x m))→wi' k=((on k&&(wi k||tw k x))&&on' k)→(on' k=true→sI k (nm x m)=true)∧(wi' k=true→sU k (nm x m)=true):=by
  rw[hP,hlp,hkb,hrs,htw,hJ,hnm,hnl,hsI,hsU]
  intro x m k on wi on' wi' hm hk h h1 h2 h3
  have:=WysI.step hm hk h h1 h2 h3 k hk
  rw[if_pos (Nat.lt_succ_self k)] at this
  exact this
 rw[←hN] at h7 hN9 hN0
 rw[←hP] at hP9
 clear hrm hum hsm hnl hq1 hq2 hnm hpb hpi h40 h60 h80 h100 h110 hN hP hlp hel hed hef heb hlo hsI hsU hrs hkb hnn hO hK hA hD hKn0 htw hJ hlk0 hbit10
 obtain ⟨pa,un,lA,ln,lc,lk,lt,bA,bn,bc,sA,sn,sc,s,jA,jn,jc,ja,jk,jo,jf,jx,je,jd⟩:=F
 obtain ⟨hX,hl,hb,hs,hj⟩:=hF
 simp only at hl hb hs hj
 try simp only at h4 h6 h7 h8 h10 h11 hKn hl16 hlk
 refine go_start (args:=[.pt (.agg (GFun.dat ⟨pa,un,lA,ln,lc,lk,lt,bA,bn,bc,sA,sn,sc,s,jA,jn,jc,ja,jk,jo,jf,jx,je,jd⟩)),.pt (.one (.xs 4 0))]) (c:=(funC ⟨pa,un,lA,ln,lc,lk,lt,bA,bn,bc,sA,sn,sc,s,jA,jn,jc,ja,jk,jo,jf,jx,je,jd⟩ a n cap f)) Tryz.func6 rfl hXC rfl rfl ?_
 obtain ⟨nd,hnd,nt,hnt,ar,har,cm,hcm,mx,hmx,mn,hmn,ar01,ar12,zpl,hzpl,zjn,hzjn,zup,hzup,zmi,hzmi,zdp,hzdp,hT⟩:=t0_all
 refine go_fam 5 rfl rfl trivial (funC_qb _ a n cap f) ?_
 have c0:cm .gtr (.ofNat n) 200=false:=by rw[hcm];exact decide_eq_false (show ¬(200:Int)<(n:Int) by omega)
 have hnz:∀{x},decide (Int.ofNat (nl x)=0)=false→0<nl x:=fun {x} g=>by
  have:=of_decide_eq_false g
  rcases Nat.eq_zero_or_pos (nl x) with h|h
  · exact absurd (congrArg Int.ofNat h) this
  · exact h
 obtain ⟨zr,hzr⟩:∃g:Int→Nat→Nat,g=fun m d=>m.toNat % d:=⟨_,rfl⟩
 have hzl:∀m {x},decide (Int.ofNat (nl x)=0)=false→zr m (nl x)<nl x:=fun m {x} g=>by
  rw[hzr];exact Nat.mod_lt _ (hnz g)
 have hfi:∀{i},cm .lss (f i) 0=false→0≤f i:=fun {i} h=>by
  rw[hcm] at h
  exact Int.not_lt.1 (of_decide_eq_false h)
 have hgN:∀{x} m,x<N→decide (Int.ofNat (nl x)=0)=false→cm .geq (.ofNat (nm x (zr m (nl x)))) (.ofNat N)=false:=fun {x} m h g=>by
  rw[hcm];exact decide_eq_false (Int.not_le.2 (Int.ofNat_lt.2 (nmL _ _ h (hzl m g))))
 have hg0:∀k:Nat,cm .lss (.ofNat k) 0=false:=fun k=>by rw[hcm];exact decide_eq_false (Int.not_lt.2 (Int.natCast_nonneg k))
 have hnq:∀X:Int,0≤X→X<X.toNat+1:=fun X h=>by omega
 have hm0:∀i,0≤mx 0 (f i):=fun i=>by
  rw[hmx];unfold rMx;split<;>omega
 have hc14:∀A,∀q i j,q<14→j<(chiG (chiG (funC ⟨pa,un,lA,ln,lc,lk,lt,bA,bn,bc,sA,sn,sc,s,jA,jn,jc,ja,jk,jo,jf,jx,je,jd⟩ a n cap f) 5 NoFam) 5 (xFam P N nn sI sU rs kb (fun j=>[.int .i64 (.ofNat (lp j)),.int .i64 (el j),.bool (ed j),.int .u8 (ef j),.int .u8 (eb j),.int .i64 (lo j)]) A) q i).n→qbL 14 ((chiG (chiG (funC ⟨pa,un,lA,ln,lc,lk,lt,bA,bn,bc,sA,sn,sc,s,jA,jn,jc,ja,jk,jo,jf,jx,je,jd⟩ a n cap f) 5 NoFam) 5 (xFam P N nn sI sU rs kb (fun j=>[.int .i64 (.ofNat (lp j)),.int .i64 (el j),.bool (ed j),.int .u8 (ef j),.int .u8 (eb j),.int .i64 (lo j)]) A) q i).el j)=true:=fun A=>fam_upN 9 (fam_qb (funC_qb _ a n cap f)) (fun p i j hj=>xFam_plain (fun _=>rfl) p i j hj)
 have hc15:=fun A b bap=>alG_qb (K:=14) (n:=P) (el:=fun j=>[.xs 5 j]) (a:=b) (cap:=bap) (hc14 A) (fun _=>rfl)
 have hc16:=fun A b bap d dap=>alG_qb (K:=15) (n:=P) (el:=fun j=>[.xs 6 j]) (a:=d) (cap:=dap) (hc15 A b bap) (fun _=>rfl)
 have hc17:=fun A b bap d dap e eap=>alG_qb (K:=16) (n:=P) (el:=fun j=>[.xs 7 j]) (a:=e) (cap:=eap) (hc16 A b bap d dap) (fun _=>rfl)
 have hc18:=fun A b bap d dap e eap g gap=>alG_qb (K:=17) (n:=P) (el:=fun j=>[.xs 8 j]) (a:=g) (cap:=gap) (hc17 A b bap d dap e eap) (fun _=>rfl)
 have hmk:0≤Int.ofNat P∧(P:Int)≤1073741824:=⟨Int.natCast_nonneg _,by omega⟩
 have RF:RowLe ⟨P,1,fun _=>[.lit false]⟩ ⟨P,1,fun j=>[.bool ((fun _=>false:Nat→Bool) j)]⟩:=rowLe_of rfl (fun j hj=>⟨rfl,trivial⟩)
 have RT:∀(S:Nat→Bool) (k:Nat) (v:Bool),RowLe ⟨P,1,zup (fun j=>[.bool (S j)]) k 0 [.lit v]⟩ ⟨P,1,fun j=>[.bool (turn S k v j)]⟩:=fun S k v=>by
  refine rowLe_up hzup rfl (fun j hj g=>⟨?_,trivial⟩) (fun _=>⟨?_,trivial⟩)
  · rw[WyG.turn_ne g];exact rfl
  · rw[WyG.turn_at];exact rfl
 have RB:∀(S:Nat→Bool) (k:Nat) (v:Bool),RowLe ⟨P,1,zup (fun j=>[.bool (S j)]) k 0 [.bool v]⟩ ⟨P,1,fun j=>[.bool (turn S k v j)]⟩:=fun S k v=>by
  refine rowLe_up hzup rfl (fun j hj g=>⟨?_,trivial⟩) (fun _=>⟨?_,trivial⟩)
  · rw[WyG.turn_ne g];exact rfl
  · rw[WyG.turn_at];exact rfl
 have nq:∀k,k<P→eb k=3→ar .quo .u64 (lo k) 0=lo k:=fun k hk he=>quo64 har (hlk k hk he).1 (by have:=(hlk k hk he).2;omega)
 have n3:∀k,k<P→eb k=3→0≤ar .quo .u64 (lo k) 0:=fun k hk he=>by rw[nq k hk he];exact (hlk k hk he).1
 have hnq:∀X:Int,0≤X→X<X.toNat+1:=fun X h=>by omega
 have c5:∀k,k<P→eb k=3→cm .geq (lo k) 0=true:=fun k hk he=>by rw[hcm];exact decide_eq_true (hlk k hk he).1
 repeat' (first
  | (((with_reducible refine go_drawE (id:=7) (by kernel_rfl) ?_);(with_reducible refine go_cutR (σ:=Unit) (fun _=>chiG (chiG (chiG (chiG (chiG (chiG (chiG (funC ⟨pa,un,lA,ln,lc,lk,lt,bA,bn,bc,sA,sn,sc,s,jA,jn,jc,ja,jk,jo,jf,jx,je,jd⟩ a n cap f) 5 NoFam) 5 (xFam P N nn sI sU rs kb (fun j=>[.int .i64 (.ofNat (lp j)),.int .i64 (el j),.bool (ed j),.int .u8 (ef j),.int .u8 (eb j),.int .i64 (lo j)]) A)) 14 (alG P (fun j=>[.xs 5 j]) A.2.2.1.1 A.2.2.1.2)) 15 (alG P (fun j=>[.xs 6 j]) A.2.2.2.1.1 A.2.2.2.1.2)) 16 (alG P (fun j=>[.xs 7 j]) A.1.2.2.2.2.1 A.1.2.2.2.2.2)) 17 (alG P (fun j=>[.xs 8 j]) A.2.2.2.2.1 A.2.2.2.2.2)) 18 (boxG b0 [.int .i64 pa,.bool un,.xs 0 0,.xs 1 0])) [49,50,51,52,53,54] (fun _=>[(12,.pt (.one (.rs 0))),(13,.pt (.one (.rs 1)))]) (fun _=>[]) (fun _=>[some ⟨P,1,fun _=>[.lit false]⟩,some ⟨P,1,fun _=>[.lit false]⟩]) rfl ?_ (fun _=>?_))))
  | refine gov ?_
  | (((with_reducible apply go_takeR 0 (zr (mx 0 (f i)) (nl x)) (m:=mx 0 (f i)));(·rfl);(·kernel_rfl);(·rfl);(·rfl);(·kernel_rfl);(·kernel_rfl);(·kernel_rfl);(·(cbv;try rfl));(·(cbv;try rfl));(·(cbv;try rfl));(·exact hm0 i);(·exact hnz ‹_›);(·rw[hzr])))
  | (((with_reducible apply go_takeR 1 (zr (mx 0 (f i)) (nl x)) (m:=mx 0 (f i)));(·rfl);(·kernel_rfl);(·rfl);(·rfl);(·kernel_rfl);(·kernel_rfl);(·kernel_rfl);(·(cbv;try rfl));(·(cbv;try rfl));(·(cbv;try rfl));(·exact hm0 i);(·exact hnz ‹_›);(·rw[hzr])))
  | refine go1 ?_|refine gobt ?_|refine gobn ?_|refine go3 (fun hlt=>?_) (fun hge=>?_)|refine go2 (fun h=>?_) (fun h=>?_)|exact go0
  | ((with_reducible apply go_drawQ [17,15]);(·rfl);(·rfl);(·kernel_rfl);(·kernel_rfl))
  | refine gode ?_|refine gof ?_|(with_reducible refine fork_cons ?_ ?_)
  | ((first|with_reducible apply go_fin_rowsP hT|with_reducible apply go_ret_rowsP hT);(·(cbv;try rfl));(·(cbv;try rfl));(·exact wScY_2);(·exact wScY_2);(·rfl))
  | ((with_reducible refine go_ob ?_ ?_);(·first|trivial|(refine ⟨trivial,?_⟩;omega)|(rw[hzpl];refine ⟨trivial,?_⟩;show _+_≤1073741824;omega)|(rw[hzpl];show _+_≤1073741824;omega)|((exact hmk))))
  | ((with_reducible apply go_call (f:=41) (hf:=Tryz.call41));(·(cbv;try rfl));(·intro wc hbc hxc;exact alive22C wc))
  | ((with_reducible apply go_callq (f:=41) (hf:=Tryz.call41));(·(cbv;try rfl));(·intro wc hbc hxc;exact alive22C wc))
  | ((with_reducible apply go_call (f:=42) (hf:=Tryz.call42));(·(cbv;try rfl));(·intro wc hbc hxc;exact h1 wc hbc))
  | ((with_reducible apply go_callq (f:=42) (hf:=Tryz.call42));(·(cbv;try rfl));(·intro wc hbc hxc;exact h1 wc hbc))
  | (((with_reducible apply go_callX 5 (f:=43) (hf:=Tryz.call43));(·intro S;cbv;try rfl);(·intro wc S hbc hxc hrc;exact hKn wc hbc);(·intro A;rfl);(·intro A;rfl);(·rfl);(·rfl);(·exact trivial);(·exact fam_qb (funC_qb _ a n cap f));(·intro A;trivial);(·intro A p i j hj;exact xFam_plain (fun _=>rfl) p i j hj);(intro A hnew;refine go_rowX 14 11 0 (a:=A.2.2.1.1) (n:=P) (cap:=A.2.2.1.2) (el0:=fun j=>[.val (.slice (A.1.1 j).1 N (A.1.1 j).2)]) (el:=fun j=>[.xs 5 j]) rfl (fun j hj vs hv=>seen_xs ⟨rfl,hnk j hj,rfl⟩ vs hv) rfl rfl trivial (hc14 A) ?_;refine go_rowX 15 12 0 (a:=A.2.2.2.1.1) (n:=P) (cap:=A.2.2.2.1.2) (el0:=fun j=>[.val (.slice (A.1.2.1 j).1 N (A.1.2.1 j).2)]) (el:=fun j=>[.xs 6 j]) rfl (fun j hj vs hv=>seen_xs ⟨rfl,hnk j hj,rfl⟩ vs hv) rfl rfl trivial (hc15 A _ _) ?_;refine go_rowX 16 9 0 (a:=A.1.2.2.2.2.1) (n:=P) (cap:=A.1.2.2.2.2.2) (el0:=fun j=>[.val (.slice (A.1.2.2.1 j).1 N (A.1.2.2.1 j).2)]) (el:=fun j=>[.xs 7 j]) rfl (fun j hj vs hv=>seen_xs ⟨rfl,hnk j hj,rfl⟩ vs hv) rfl rfl trivial (hc16 A _ _ _ _) ?_;refine go_rowX 17 13 0 (a:=A.2.2.2.2.1) (n:=P) (cap:=A.2.2.2.2.2) (el0:=fun j=>[.val (.slice (A.1.2.2.2.1 j).1 N (A.1.2.2.2.1 j).2)]) (el:=fun j=>[.xs 8 j]) rfl (fun j hj vs hv=>seen_xs ⟨rfl,hnk j hj,rfl⟩ vs hv) rfl rfl trivial (hc17 A _ _ _ _ _ _) ?_;refine go_slotT 40 0 10 0 rfl rfl rfl ?_;refine go_slotT 40 1 14 0 rfl rfl rfl ?_;refine go_slotT 40 2 15 0 rfl rfl rfl ?_;refine go_slotT 40 3 16 0 rfl rfl rfl ?_;refine go_slotT 40 4 17 0 rfl rfl rfl ?_;refine go_boxT 2 18 rfl rfl rfl rfl rfl trivial rfl (hc18 A _ _ _ _ _ _ _ _) alG_n (fun b0 _=>?_))))
  | (((with_reducible refine go_stopC () rfl ?_ ?_ ?_);(·(refine le_mk ?_ ?_ ?_ ?_<;>(cbv;(try simp only[true_and,and_true]);(try ((repeat' apply And.intro)<;>(first|trivial|rfl|exact RowLe.rfl' _))))));(·(cbv;try rfl));(·simp)))
  | (((with_reducible refine go_stopCw 0 1 ?_ ?_ () rfl ?_ ?_ ?_);(·simp);(·simp);(·(refine le_mk ?_ ?_ ?_ ?_<;>(cbv;(try simp only[true_and,and_true]);(try ((repeat' apply And.intro)<;>(first|trivial|rfl|exact RowLe.rfl' _))))));(·(cbv;try rfl));(·simp)))
  | ((with_reducible apply go_call (f:=45) (hf:=Tryz.call45));(·(cbv;try rfl));(·intro wc hbc hxc;exact h6 wc hbc x hW.1))
  | ((with_reducible apply go_callq (f:=45) (hf:=Tryz.call45));(·(cbv;try rfl));(·intro wc hbc hxc;exact h6 wc hbc x hW.1))
  | ((with_reducible apply go_call (f:=44) (hf:=Tryz.call44));(·(cbv;try rfl));(·intro wc hbc hxc;exact h11 wc hbc x hW.1))
  | ((with_reducible apply go_callq (f:=44) (hf:=Tryz.call44));(·(cbv;try rfl));(·intro wc hbc hxc;exact h11 wc hbc x hW.1))
  | ((with_reducible apply go_callR (f:=17) (hf:=Tryz.call17));(·intro S;cbv;try rfl);(·intro wc S hbc hxc hrc;exact h8 wc hbc x hW.1);(·rfl))
  | ((with_reducible apply go_call (f:=46) (hf:=Tryz.call46));(·(cbv;try rfl));(·intro wc hbc hxc;exact h7 wc hbc))
  | ((with_reducible apply go_callq (f:=46) (hf:=Tryz.call46));(·(cbv;try rfl));(·intro wc hbc hxc;exact h7 wc hbc))
  | ((with_reducible refine go_loopk (σ:={x:Nat×Nat×(Nat→Bool)×(Nat→Bool) // x.1≤n∧x.2.1<N∧∀j,j<P→(x.2.2.1 j=true→sI j x.2.1=true)∧(x.2.2.2 j=true→sU j x.2.1=true)}) [16,17,18,19,20,21,22,23,55,56,57,58,59,60,61,62,63,64,65,66,67,68,69,70,71,72,73,74,75,76,77,78,79,80,81,82,83,84,85,86,87,88,89,90,91,92,93,94,95,96,97,98,99,100,101,102,103,104,105,106,107,108,109,110,111,112,113,114,115,116,117,118,119,120,121,122,123,124,125,126,127,128,129,130,131,132,133,134,135,136,137,138,139,140,141,142,143,144,145,146,147,148,149,150,151,152,153,154,155,156,157,158,159,160,161,162,163,164,165,166,167,168,169,170,171,172,173,174,175,176,177,178,179,180,181,182,183,184,185,186,187,188,189,190,191,192,193,194,195,196,197,198,199,200,201,202,203,204,205,206,207,208,209,210,211,212,213,214,215,216,217,218,219,220,221,222,223,224,225,226,227,228,229,230,231,232,233,234,235,236,237,238,239,240] (fun x=>[(15,.pt (.one (.int .i64 (.ofNat x.1.1)))),(14,.pt (.one (.int .i64 (.ofNat x.1.2.1))))]) (fun x=>[]) (fun x=>[(0,⟨P,1,fun j=>[.bool (x.1.2.2.1 j)]⟩),(1,⟨P,1,fun j=>[.bool (x.1.2.2.2 j)]⟩)]) (fun x=>n - x.1.1) ⟨(0,0,fun _=>false,fun _=>false),Nat.zero_le _,hN0,fun j _=>⟨fun h=>(by cases h),fun h=>(by cases h)⟩⟩ ?_ ?_ ?_ ?_);(·exact le_mkP wScY_2 wScY_2 wScY_2 wScY_2);(·(cbv;try rfl));(·simp);(rintro ⟨⟨i,x,on,wi⟩,hi,hW⟩ mm hmm))
  | (((with_reducible apply go_need);(·exact Int.natCast_nonneg _);(·first|exact Int.ofNat_lt.2 hW.1|exact Int.ofNat_lt.2 (nmL _ _ hW.1 (hzl _ ‹_›))|exact Int.ofNat_lt.2 (hzl _ ‹_›)|exact Int.ofNat_lt.2 ‹_›)))
  | ((with_reducible apply go_call (f:=15) (hf:=Tryz.call15));(·(cbv;try rfl));(·intro wc hbc hxc;exact h10 wc hbc x _ hW.1 (hzl _ ‹_›)))
  | ((with_reducible apply go_callq (f:=15) (hf:=Tryz.call15));(·(cbv;try rfl));(·intro wc hbc hxc;exact h10 wc hbc x _ hW.1 (hzl _ ‹_›)))
  | fail)
 all_goals try (first
  | rfl
  | exact absurd ((hg0 _).symm.trans ‹_›) (by decide)
  | exact absurd ((hgN (mx 0 (f i)) hW.1 ‹_›).symm.trans ‹_›) (by decide)
  | exact absurd ((c5 k ‹_› (of_decide_eq_true (p:=eb k=3) ‹_›)).symm.trans ‹_›) (by decide)
  | (have hS:=j4 x (zr (mx 0 (f i)) (nl x)) k o1 b1 o3 b3 (hzl _ ‹_›) ‹_› hJ (fun j h=>⟨(ho3n j h).trans (ho2n j h),(hb3n j h).trans (hb2n j h)⟩) (by rw[ho3k,ho2k]) (by rw[hb3k,hb2k]);exact absurd ((hS.1 ‹_›).symm.trans ‹_›) (by decide))
  | (have hS:=j4 x (zr (mx 0 (f i)) (nl x)) k o1 b1 o3 b3 (hzl _ ‹_›) ‹_› hJ (fun j h=>⟨(ho3n j h).trans (ho2n j h),(hb3n j h).trans (hb2n j h)⟩) (by rw[ho3k,ho2k]) (by rw[hb3k,hb2k]);exact absurd ((hS.2 ‹_›).symm.trans ‹_›) (by decide))
  | fail)
 all_goals as_aux_lemma=>
  repeat' (first
   | (((with_reducible refine go_drawE (id:=7) (by kernel_rfl) ?_);(with_reducible refine go_cutR (σ:=Unit) (fun _=>chiG (chiG (chiG (chiG (chiG (chiG (chiG (funC ⟨pa,un,lA,ln,lc,lk,lt,bA,bn,bc,sA,sn,sc,s,jA,jn,jc,ja,jk,jo,jf,jx,je,jd⟩ a n cap f) 5 NoFam) 5 (xFam P N nn sI sU rs kb (fun j=>[.int .i64 (.ofNat (lp j)),.int .i64 (el j),.bool (ed j),.int .u8 (ef j),.int .u8 (eb j),.int .i64 (lo j)]) A)) 14 (alG P (fun j=>[.xs 5 j]) A.2.2.1.1 A.2.2.1.2)) 15 (alG P (fun j=>[.xs 6 j]) A.2.2.2.1.1 A.2.2.2.1.2)) 16 (alG P (fun j=>[.xs 7 j]) A.1.2.2.2.2.1 A.1.2.2.2.2.2)) 17 (alG P (fun j=>[.xs 8 j]) A.2.2.2.2.1 A.2.2.2.2.2)) 18 (boxG b0 [.int .i64 pa,.bool un,.xs 0 0,.xs 1 0])) [49,50,51,52,53,54] (fun _=>[(12,.pt (.one (.rs 0))),(13,.pt (.one (.rs 1)))]) (fun _=>[]) (fun _=>[some ⟨P,1,fun _=>[.lit false]⟩,some ⟨P,1,fun _=>[.lit false]⟩]) rfl ?_ (fun _=>?_))))
   | (((with_reducible refine go_cutR0 24 3 (σ:={b:Nat→Bool // (∀j,j≠k→b j=b1 j)∧b k=(o1 k&&or (b1 k) (tw k x))}) (fun _=>chiG (chiG (chiG (chiG (chiG (chiG (chiG (funC ⟨pa,un,lA,ln,lc,lk,lt,bA,bn,bc,sA,sn,sc,s,jA,jn,jc,ja,jk,jo,jf,jx,je,jd⟩ a n cap f) 5 NoFam) 5 (xFam P N nn sI sU rs kb (fun j=>[.int .i64 (.ofNat (lp j)),.int .i64 (el j),.bool (ed j),.int .u8 (ef j),.int .u8 (eb j),.int .i64 (lo j)]) A)) 14 (alG P (fun j=>[.xs 5 j]) A.2.2.1.1 A.2.2.1.2)) 15 (alG P (fun j=>[.xs 6 j]) A.2.2.2.1.1 A.2.2.2.1.2)) 16 (alG P (fun j=>[.xs 7 j]) A.1.2.2.2.2.1 A.1.2.2.2.2.2)) 17 (alG P (fun j=>[.xs 8 j]) A.2.2.2.2.1 A.2.2.2.2.2)) 18 (boxG b0 [.int .i64 pa,.bool un,.xs 0 0,.xs 1 0])) [120,121,122,123,124,125,126,127,128,129,130,131,132,133,134,135,136,137,138,139,140,141,142,143,144,145,146,147,148,149,150,151,152,153,154,155,156,157,158,159,160] (fun y=>[(1,⟨P,1,fun j=>[.bool (y.1 j)]⟩)]) rfl ?_ (fun ⟨b2,hb2n,hb2k⟩=>?_))))
   | (((with_reducible refine go_cutR2 25 (σ:={b:Nat→Bool // (∀j,j≠k→b j=o1 j)∧b k=(or (o1 k) (decide (lp k=x)))}) (fun _=>chiG (chiG (chiG (chiG (chiG (chiG (chiG (funC ⟨pa,un,lA,ln,lc,lk,lt,bA,bn,bc,sA,sn,sc,s,jA,jn,jc,ja,jk,jo,jf,jx,je,jd⟩ a n cap f) 5 NoFam) 5 (xFam P N nn sI sU rs kb (fun j=>[.int .i64 (.ofNat (lp j)),.int .i64 (el j),.bool (ed j),.int .u8 (ef j),.int .u8 (eb j),.int .i64 (lo j)]) A)) 14 (alG P (fun j=>[.xs 5 j]) A.2.2.1.1 A.2.2.1.2)) 15 (alG P (fun j=>[.xs 6 j]) A.2.2.2.1.1 A.2.2.2.1.2)) 16 (alG P (fun j=>[.xs 7 j]) A.1.2.2.2.2.1 A.1.2.2.2.2.2)) 17 (alG P (fun j=>[.xs 8 j]) A.2.2.2.2.1 A.2.2.2.2.2)) 18 (boxG b0 [.int .i64 pa,.bool un,.xs 0 0,.xs 1 0])) [161,162,163,164,165,166,167,168,169,170] (fun y=>[(0,⟨P,1,fun j=>[.bool (y.1 j)]⟩)]) rfl ?_ (fun ⟨o2,ho2n,ho2k⟩=>?_))))
   | (((with_reducible refine go_cutR1 27 (σ:={b:Nat→Bool // (∀j,j≠k→b j=o2 j)∧b k=(o2 k&&!kb k x&&rs k (nm x (zr (mx 0 (f i)) (nl x))))}) (fun _=>chiG (chiG (chiG (chiG (chiG (chiG (chiG (funC ⟨pa,un,lA,ln,lc,lk,lt,bA,bn,bc,sA,sn,sc,s,jA,jn,jc,ja,jk,jo,jf,jx,je,jd⟩ a n cap f) 5 NoFam) 5 (xFam P N nn sI sU rs kb (fun j=>[.int .i64 (.ofNat (lp j)),.int .i64 (el j),.bool (ed j),.int .u8 (ef j),.int .u8 (eb j),.int .i64 (lo j)]) A)) 14 (alG P (fun j=>[.xs 5 j]) A.2.2.1.1 A.2.2.1.2)) 15 (alG P (fun j=>[.xs 6 j]) A.2.2.2.1.1 A.2.2.2.1.2)) 16 (alG P (fun j=>[.xs 7 j]) A.1.2.2.2.2.1 A.1.2.2.2.2.2)) 17 (alG P (fun j=>[.xs 8 j]) A.2.2.2.2.1 A.2.2.2.2.2)) 18 (boxG b0 [.int .i64 pa,.bool un,.xs 0 0,.xs 1 0])) [171,172,173,174,175,176,177,178,179,180,181,182,183,184,185,186,187,188,189,190,191,192,193,194,195,196] (fun y=>[(0,⟨P,1,fun j=>[.bool (y.1 j)]⟩)]) rfl ?_ (fun ⟨o3,ho3n,ho3k⟩=>?_))))
   | (((with_reducible refine go_cutR1 28 (σ:={b:Nat→Bool // (∀j,j≠k→b j=b2 j)∧b k=(b2 k&&o3 k)}) (fun _=>chiG (chiG (chiG (chiG (chiG (chiG (chiG (funC ⟨pa,un,lA,ln,lc,lk,lt,bA,bn,bc,sA,sn,sc,s,jA,jn,jc,ja,jk,jo,jf,jx,je,jd⟩ a n cap f) 5 NoFam) 5 (xFam P N nn sI sU rs kb (fun j=>[.int .i64 (.ofNat (lp j)),.int .i64 (el j),.bool (ed j),.int .u8 (ef j),.int .u8 (eb j),.int .i64 (lo j)]) A)) 14 (alG P (fun j=>[.xs 5 j]) A.2.2.1.1 A.2.2.1.2)) 15 (alG P (fun j=>[.xs 6 j]) A.2.2.2.1.1 A.2.2.2.1.2)) 16 (alG P (fun j=>[.xs 7 j]) A.1.2.2.2.2.1 A.1.2.2.2.2.2)) 17 (alG P (fun j=>[.xs 8 j]) A.2.2.2.2.1 A.2.2.2.2.2)) 18 (boxG b0 [.int .i64 pa,.bool un,.xs 0 0,.xs 1 0])) [197,198,199,200,201,202,203,204,205,206,207,208,209] (fun y=>[(1,⟨P,1,fun j=>[.bool (y.1 j)]⟩)]) rfl ?_ (fun ⟨b3,hb3n,hb3k⟩=>?_))))
   | refine gov ?_
   | (((with_reducible apply go_takeR 0 (zr (mx 0 (f i)) (nl x)) (m:=mx 0 (f i)));(·rfl);(·kernel_rfl);(·rfl);(·rfl);(·kernel_rfl);(·kernel_rfl);(·kernel_rfl);(·(cbv;try rfl));(·(cbv;try rfl));(·(cbv;try rfl));(·exact hm0 i);(·exact hnz ‹_›);(·rw[hzr])))
   | (((with_reducible apply go_takeR 1 (zr (mx 0 (f i)) (nl x)) (m:=mx 0 (f i)));(·rfl);(·kernel_rfl);(·rfl);(·rfl);(·kernel_rfl);(·kernel_rfl);(·kernel_rfl);(·(cbv;try rfl));(·(cbv;try rfl));(·(cbv;try rfl));(·exact hm0 i);(·exact hnz ‹_›);(·rw[hzr])))
   | refine go1 ?_|refine gobt ?_|refine gobn ?_|refine go3 (fun hlt=>?_) (fun hge=>?_)|refine go2 (fun h=>?_) (fun h=>?_)|exact go0
   | ((with_reducible apply go_drawQ [17,15]);(·rfl);(·rfl);(·kernel_rfl);(·kernel_rfl))
   | refine gode ?_|refine gof ?_|(with_reducible refine fork_cons ?_ ?_)
   | ((first|with_reducible apply go_fin_rowsP hT|with_reducible apply go_ret_rowsP hT);(·(cbv;try rfl));(·(cbv;try rfl));(·exact wScY_3);(·exact wScY_3);(·rfl))
   | ((with_reducible refine go_ob ?_ ?_);(·first|trivial|(refine ⟨trivial,?_⟩;omega)|(rw[hzpl];refine ⟨trivial,?_⟩;show _+_≤1073741824;omega)|(rw[hzpl];show _+_≤1073741824;omega)|((exact hmk))))
   | ((with_reducible apply go_call (f:=41) (hf:=Tryz.call41));(·(cbv;try rfl));(·intro wc hbc hxc;exact alive22C wc))
   | ((with_reducible apply go_callq (f:=41) (hf:=Tryz.call41));(·(cbv;try rfl));(·intro wc hbc hxc;exact alive22C wc))
   | ((with_reducible apply go_call (f:=42) (hf:=Tryz.call42));(·(cbv;try rfl));(·intro wc hbc hxc;exact h1 wc hbc))
   | ((with_reducible apply go_callq (f:=42) (hf:=Tryz.call42));(·(cbv;try rfl));(·intro wc hbc hxc;exact h1 wc hbc))
   | (((with_reducible apply go_callX 5 (f:=43) (hf:=Tryz.call43));(·intro S;cbv;try rfl);(·intro wc S hbc hxc hrc;exact hKn wc hbc);(·intro A;rfl);(·intro A;rfl);(·rfl);(·rfl);(·exact trivial);(·exact fam_qb (funC_qb _ a n cap f));(·intro A;trivial);(·intro A p i j hj;exact xFam_plain (fun _=>rfl) p i j hj);(intro A hnew;refine go_rowX 14 11 0 (a:=A.2.2.1.1) (n:=P) (cap:=A.2.2.1.2) (el0:=fun j=>[.val (.slice (A.1.1 j).1 N (A.1.1 j).2)]) (el:=fun j=>[.xs 5 j]) rfl (fun j hj vs hv=>seen_xs ⟨rfl,hnk j hj,rfl⟩ vs hv) rfl rfl trivial (hc14 A) ?_;refine go_rowX 15 12 0 (a:=A.2.2.2.1.1) (n:=P) (cap:=A.2.2.2.1.2) (el0:=fun j=>[.val (.slice (A.1.2.1 j).1 N (A.1.2.1 j).2)]) (el:=fun j=>[.xs 6 j]) rfl (fun j hj vs hv=>seen_xs ⟨rfl,hnk j hj,rfl⟩ vs hv) rfl rfl trivial (hc15 A _ _) ?_;refine go_rowX 16 9 0 (a:=A.1.2.2.2.2.1) (n:=P) (cap:=A.1.2.2.2.2.2) (el0:=fun j=>[.val (.slice (A.1.2.2.1 j).1 N (A.1.2.2.1 j).2)]) (el:=fun j=>[.xs 7 j]) rfl (fun j hj vs hv=>seen_xs ⟨rfl,hnk j hj,rfl⟩ vs hv) rfl rfl trivial (hc16 A _ _ _ _) ?_;refine go_rowX 17 13 0 (a:=A.2.2.2.2.1) (n:=P) (cap:=A.2.2.2.2.2) (el0:=fun j=>[.val (.slice (A.1.2.2.2.1 j).1 N (A.1.2.2.2.1 j).2)]) (el:=fun j=>[.xs 8 j]) rfl (fun j hj vs hv=>seen_xs ⟨rfl,hnk j hj,rfl⟩ vs hv) rfl rfl trivial (hc17 A _ _ _ _ _ _) ?_;refine go_slotT 40 0 10 0 rfl rfl rfl ?_;refine go_slotT 40 1 14 0 rfl rfl rfl ?_;refine go_slotT 40 2 15 0 rfl rfl rfl ?_;refine go_slotT 40 3 16 0 rfl rfl rfl ?_;refine go_slotT 40 4 17 0 rfl rfl rfl ?_;refine go_boxT 2 18 rfl rfl rfl rfl rfl trivial rfl (hc18 A _ _ _ _ _ _ _ _) alG_n (fun b0 _=>?_))))
   | (((with_reducible refine go_stopC () rfl ?_ ?_ ?_);(·(refine le_mk ?_ ?_ ?_ ?_<;>(cbv;(try simp only[true_and,and_true]);(try ((repeat' apply And.intro)<;>(first|trivial|rfl|exact RowLe.rfl' _))))));(·(cbv;try rfl));(·simp)))
   | (((with_reducible refine go_stopCw 0 1 ?_ ?_ () rfl ?_ ?_ ?_);(·simp);(·simp);(·(refine le_mk ?_ ?_ ?_ ?_<;>(cbv;(try simp only[true_and,and_true]);(try ((repeat' apply And.intro)<;>(first|trivial|rfl|exact RowLe.rfl' _))))));(·(cbv;try rfl));(·simp)))
   | ((with_reducible apply go_call (f:=45) (hf:=Tryz.call45));(·(cbv;try rfl));(·intro wc hbc hxc;exact h6 wc hbc x hW.1))
   | ((with_reducible apply go_callq (f:=45) (hf:=Tryz.call45));(·(cbv;try rfl));(·intro wc hbc hxc;exact h6 wc hbc x hW.1))
   | ((with_reducible apply go_call (f:=44) (hf:=Tryz.call44));(·(cbv;try rfl));(·intro wc hbc hxc;exact h11 wc hbc x hW.1))
   | ((with_reducible apply go_callq (f:=44) (hf:=Tryz.call44));(·(cbv;try rfl));(·intro wc hbc hxc;exact h11 wc hbc x hW.1))
   | ((with_reducible apply go_callR (f:=17) (hf:=Tryz.call17));(·intro S;cbv;try rfl);(·intro wc S hbc hxc hrc;exact h8 wc hbc x hW.1);(·rfl))
   | ((with_reducible apply go_call (f:=46) (hf:=Tryz.call46));(·(cbv;try rfl));(·intro wc hbc hxc;exact h7 wc hbc))
   | ((with_reducible apply go_callq (f:=46) (hf:=Tryz.call46));(·(cbv;try rfl));(·intro wc hbc hxc;exact h7 wc hbc))
   | ((with_reducible refine go_loopk (σ:={x:Nat×Nat×(Nat→Bool)×(Nat→Bool) // x.1≤n∧x.2.1<N∧∀j,j<P→(x.2.2.1 j=true→sI j x.2.1=true)∧(x.2.2.2 j=true→sU j x.2.1=true)}) [16,17,18,19,20,21,22,23,55,56,57,58,59,60,61,62,63,64,65,66,67,68,69,70,71,72,73,74,75,76,77,78,79,80,81,82,83,84,85,86,87,88,89,90,91,92,93,94,95,96,97,98,99,100,101,102,103,104,105,106,107,108,109,110,111,112,113,114,115,116,117,118,119,120,121,122,123,124,125,126,127,128,129,130,131,132,133,134,135,136,137,138,139,140,141,142,143,144,145,146,147,148,149,150,151,152,153,154,155,156,157,158,159,160,161,162,163,164,165,166,167,168,169,170,171,172,173,174,175,176,177,178,179,180,181,182,183,184,185,186,187,188,189,190,191,192,193,194,195,196,197,198,199,200,201,202,203,204,205,206,207,208,209,210,211,212,213,214,215,216,217,218,219,220,221,222,223,224,225,226,227,228,229,230,231,232,233,234,235,236,237,238,239,240] (fun x=>[(15,.pt (.one (.int .i64 (.ofNat x.1.1)))),(14,.pt (.one (.int .i64 (.ofNat x.1.2.1))))]) (fun x=>[]) (fun x=>[(0,⟨P,1,fun j=>[.bool (x.1.2.2.1 j)]⟩),(1,⟨P,1,fun j=>[.bool (x.1.2.2.2 j)]⟩)]) (fun x=>n - x.1.1) ⟨(0,0,fun _=>false,fun _=>false),Nat.zero_le _,hN0,fun j _=>⟨fun h=>(by cases h),fun h=>(by cases h)⟩⟩ ?_ ?_ ?_ ?_);(·exact le_mkP wScY_3 wScY_3 wScY_3 wScY_3);(·(cbv;try rfl));(·simp);(rintro ⟨⟨i,x,on,wi⟩,hi,hW⟩ mm hmm))
   | (((with_reducible apply go_need);(·exact Int.natCast_nonneg _);(·first|exact Int.ofNat_lt.2 hW.1|exact Int.ofNat_lt.2 (nmL _ _ hW.1 (hzl _ ‹_›))|exact Int.ofNat_lt.2 (hzl _ ‹_›)|exact Int.ofNat_lt.2 ‹_›)))
   | ((with_reducible apply go_call (f:=15) (hf:=Tryz.call15));(·(cbv;try rfl));(·intro wc hbc hxc;exact h10 wc hbc x _ hW.1 (hzl _ ‹_›)))
   | ((with_reducible apply go_callq (f:=15) (hf:=Tryz.call15));(·(cbv;try rfl));(·intro wc hbc hxc;exact h10 wc hbc x _ hW.1 (hzl _ ‹_›)))
   | ((with_reducible refine go_loopk (σ:={y:Nat×(Nat→Bool)×(Nat→Bool) // y.1≤P∧J x (zr (mx 0 (f i)) (nl x)) y.1 y.2.1 y.2.2}) [114,115,116,117,118,119,120,121,122,123,124,125,126,127,128,129,130,131,132,133,134,135,136,137,138,139,140,141,142,143,144,145,146,147,148,149,150,151,152,153,154,155,156,157,158,159,160,161,162,163,164,165,166,167,168,169,170,171,172,173,174,175,176,177,178,179,180,181,182,183,184,185,186,187,188,189,190,191,192,193,194,195,196,197,198,199,200,201,202,203,204,205,206,207,208,209,210,211,212,213,214,215,216,217,218,219,220,221,222,223,224,225,226,227,228,229,230,231,232,233,234,235,236,237,238,239] (fun x=>[(23,.pt (.one (.int .i64 (.ofNat x.1.1))))]) (fun x=>[]) (fun x=>[(0,⟨P,1,fun j=>[.bool (x.1.2.1 j)]⟩),(1,⟨P,1,fun j=>[.bool (x.1.2.2 j)]⟩)]) (fun x=>P - x.1.1) ⟨(0,on,wi),Nat.zero_le _,j1 x _ on wi hW.2⟩ ?_ ?_ ?_ ?_);(·exact le_mkP wScY_3 wScY_3 wScY_3 wScY_3);(·(cbv;try rfl));(·simp);(rintro ⟨⟨k,o1,b1⟩,hk,hJ⟩ mm hmm))
   | (((with_reducible refine go_stopC (⟨turn b1 k false,fun j hj=>WyG.turn_ne hj,?_⟩:{b:Nat→Bool // (∀j,j≠k→b j=b1 j)∧b k=(o1 k&&or (b1 k) (tw k x))}) rfl ?_ ?_ ?_);(·rw[WyG.turn_at];(first|rw[show o1 k=false by assumption,Bool.false_and]|rw[show b1 k=false by assumption,ht0 k x (of_decide_eq_false (p:=eb k=3) ‹_›),Bool.or_false,Bool.and_false]));(·(refine le_mk ?_ ?_ ?_ ?_<;>(cbv;(try simp only[true_and,and_true]);(try ((repeat' apply And.intro)<;>(first|trivial|rfl|exact RowLe.rfl' _|exact RT _ _ _|exact RB _ _ _))))));(·(cbv;try rfl));(·simp)))
   | (((with_reducible refine go_stopC (⟨turn b1 k true,fun j hj=>WyG.turn_ne hj,?_⟩:{b:Nat→Bool // (∀j,j≠k→b j=b1 j)∧b k=(o1 k&&or (b1 k) (tw k x))}) rfl ?_ ?_ ?_);(·rw[WyG.turn_at];(rw[show o1 k=true by assumption,show b1 k=true by assumption,Bool.true_or,Bool.true_and]));(·(refine le_mk ?_ ?_ ?_ ?_<;>(cbv;(try simp only[true_and,and_true]);(try ((repeat' apply And.intro)<;>(first|trivial|rfl|exact RowLe.rfl' _|exact RT _ _ _|exact RB _ _ _))))));(·(cbv;try rfl));(·simp)))
   | (((with_reducible refine go_stopC (⟨turn b1 k (decide (ar .and .u32 (ar .shr .u32 (.ofNat (um x)) (ar .quo .u64 (lo k) 0)) 1=1)),fun j hj=>WyG.turn_ne hj,?_⟩:{b:Nat→Bool // (∀j,j≠k→b j=b1 j)∧b k=(o1 k&&or (b1 k) (tw k x))}) rfl ?_ ?_ ?_);(·rw[WyG.turn_at];(rw[show o1 k=true by assumption,show b1 k=false by assumption,nq k ‹_› (of_decide_eq_true (p:=eb k=3) ‹_›),har,hbit1 k x ‹_› (of_decide_eq_true (p:=eb k=3) ‹_›),Bool.false_or,Bool.true_and]));(·(refine le_mk ?_ ?_ ?_ ?_<;>(cbv;(try simp only[true_and,and_true]);(try ((repeat' apply And.intro)<;>(first|trivial|rfl|exact RowLe.rfl' _|exact RT _ _ _|exact RB _ _ _))))));(·(cbv;try rfl));(·simp)))
   | (((with_reducible refine go_stopC (⟨turn o1 k true,fun j hj=>WyG.turn_ne hj,?_⟩:{b:Nat→Bool // (∀j,j≠k→b j=o1 j)∧b k=(or (o1 k) (decide (lp k=x)))}) rfl ?_ ?_ ?_);(·rw[WyG.turn_at];(rw[show lp k=x from Int.ofNat.inj (of_decide_eq_true ‹_›),decide_eq_true rfl,Bool.or_true]));(·(refine le_mk ?_ ?_ ?_ ?_<;>(cbv;(try simp only[true_and,and_true]);(try ((repeat' apply And.intro)<;>(first|trivial|rfl|exact RowLe.rfl' _|exact RT _ _ _|exact RB _ _ _))))));(·(cbv;try rfl));(·simp)))
   | (((with_reducible refine go_stopC (⟨o1,fun j hj=>rfl,?_⟩:{b:Nat→Bool // (∀j,j≠k→b j=o1 j)∧b k=(or (o1 k) (decide (lp k=x)))}) rfl ?_ ?_ ?_);(·(rw[decide_eq_false (p:=lp k=x) (fun g=>of_decide_eq_false (p:=Int.ofNat (lp k)=Int.ofNat x) ‹_› (congrArg Int.ofNat g)),Bool.or_false]));(·(refine le_mk ?_ ?_ ?_ ?_<;>(cbv;(try simp only[true_and,and_true]);(try ((repeat' apply And.intro)<;>(first|trivial|rfl|exact RowLe.rfl' _|exact RT _ _ _|exact RB _ _ _))))));(·(cbv;try rfl));(·simp)))
   | (((with_reducible refine go_stopC (⟨turn o2 k false,fun j hj=>WyG.turn_ne hj,?_⟩:{b:Nat→Bool // (∀j,j≠k→b j=o2 j)∧b k=(o2 k&&!kb k x&&rs k (nm x (zr (mx 0 (f i)) (nl x))))}) rfl ?_ ?_ ?_);(·rw[WyG.turn_at];(first|rw[show o2 k=false by assumption,Bool.false_and,Bool.false_and]|rw[show kb k x=true by assumption,Bool.not_true,Bool.and_false,Bool.false_and]));(·(refine le_mk ?_ ?_ ?_ ?_<;>(cbv;(try simp only[true_and,and_true]);(try ((repeat' apply And.intro)<;>(first|trivial|rfl|exact RowLe.rfl' _|exact RT _ _ _|exact RB _ _ _))))));(·(cbv;try rfl));(·simp)))
   | (((with_reducible refine go_stopC (⟨turn o2 k (rs k (nm x (zr (mx 0 (f i)) (nl x)))),fun j hj=>WyG.turn_ne hj,?_⟩:{b:Nat→Bool // (∀j,j≠k→b j=o2 j)∧b k=(o2 k&&!kb k x&&rs k (nm x (zr (mx 0 (f i)) (nl x))))}) rfl ?_ ?_ ?_);(·rw[WyG.turn_at];(rw[show o2 k=true by assumption,show kb k x=false by assumption,Bool.not_false,Bool.true_and,Bool.true_and]));(·(refine le_mk ?_ ?_ ?_ ?_<;>(cbv;(try simp only[true_and,and_true]);(try ((repeat' apply And.intro)<;>(first|trivial|rfl|exact RowLe.rfl' _|exact RT _ _ _|exact RB _ _ _))))));(·(cbv;try rfl));(·simp)))
   | (((with_reducible refine go_stopC (⟨turn b2 k false,fun j hj=>WyG.turn_ne hj,?_⟩:{b:Nat→Bool // (∀j,j≠k→b j=b2 j)∧b k=(b2 k&&o3 k)}) rfl ?_ ?_ ?_);(·rw[WyG.turn_at];(rw[show b2 k=false by assumption,Bool.false_and]));(·(refine le_mk ?_ ?_ ?_ ?_<;>(cbv;(try simp only[true_and,and_true]);(try ((repeat' apply And.intro)<;>(first|trivial|rfl|exact RowLe.rfl' _|exact RT _ _ _|exact RB _ _ _))))));(·(cbv;try rfl));(·simp)))
   | (((with_reducible refine go_stopC (⟨turn b2 k (o3 k),fun j hj=>WyG.turn_ne hj,?_⟩:{b:Nat→Bool // (∀j,j≠k→b j=b2 j)∧b k=(b2 k&&o3 k)}) rfl ?_ ?_ ?_);(·rw[WyG.turn_at];(rw[show b2 k=true by assumption,Bool.true_and]));(·(refine le_mk ?_ ?_ ?_ ?_<;>(cbv;(try simp only[true_and,and_true]);(try ((repeat' apply And.intro)<;>(first|trivial|rfl|exact RowLe.rfl' _|exact RT _ _ _|exact RB _ _ _))))));(·(cbv;try rfl));(·simp)))
   | (((with_reducible apply go_need);(·exact n3 k ‹_› (of_decide_eq_true (p:=eb k=3) ‹_›));(·exact hnq _ (n3 k ‹_› (of_decide_eq_true (p:=eb k=3) ‹_›)))))
   | (((with_reducible apply go_need);(·exact Int.natCast_nonneg _);(·(rw[hnk k ‹_›];first|exact Int.ofNat_lt.2 hW.1|exact Int.ofNat_lt.2 (nmL _ _ hW.1 (hzl _ ‹_›))))))
   | (((have hS:=j3 x (zr (mx 0 (f i)) (nl x)) k o1 b1 o3 b3 (hzl _ ‹_›) ‹_› hJ (fun j h=>⟨(ho3n j h).trans (ho2n j h),(hb3n j h).trans (hb2n j h)⟩) (by rw[ho3k,ho2k]) (by rw[hb3k,hb2k]));(with_reducible refine go_stop (⟨(k+1,o3,b3),Nat.succ_le_of_lt ‹_›,hS⟩:{y:Nat×(Nat→Bool)×(Nat→Bool) // y.1≤P∧J x (zr (mx 0 (f i)) (nl x)) y.1 y.2.1 y.2.2}) ?_ ?_ ?_ ?_);(·exact Nat.lt_of_lt_of_eq (show P - (k+1)<P - k by omega) (Eq.symm ‹_›));(·(refine le_mk ?_ ?_ ?_ ?_<;>(cbv;(try simp only[true_and,and_true]);(try ((repeat' apply And.intro)<;>(first|trivial|rfl|exact RowLe.rfl' _|(rw[wrap_nat har k (by have hkk:k<P:=‹_›;omega)];done)|exact RB _ _ _))))));(·(cbv;try rfl));(·simp)))
   | (((have hS:=j2 x (zr (mx 0 (f i)) (nl x)) k o1 b1 ‹_› hJ);(with_reducible refine go_stop (⟨(i+1,nm x (zr (mx 0 (f i)) (nl x)),o1,b1),Nat.succ_le_of_lt ‹_›,nmL _ _ hW.1 (hzl _ ‹_›),hS⟩:{x:Nat×Nat×(Nat→Bool)×(Nat→Bool) // x.1≤n∧x.2.1<N∧∀j,j<P→(x.2.2.1 j=true→sI j x.2.1=true)∧(x.2.2.2 j=true→sU j x.2.1=true)}) ?_ ?_ ?_ ?_);(·exact Nat.lt_of_lt_of_eq (show n - (i+1)<n - i by have hlt2:i<n:=‹_›;omega) (Eq.symm ‹_›));(·(refine le_mk ?_ ?_ ?_ ?_<;>(cbv;(try simp only[true_and,and_true]);(try ((repeat' apply And.intro)<;>(first|trivial|rfl|exact RowLe.rfl' _|(rw[wrap_nat har i (by have hlt2:i<n:=‹_›;omega)];done)|exact RB _ _ _))))));(·(cbv;try rfl));(·simp)))
   | fail)
  all_goals first
   | rfl
   | exact absurd ((hg0 _).symm.trans ‹_›) (by decide)
   | exact absurd ((hgN (mx 0 (f i)) hW.1 ‹_›).symm.trans ‹_›) (by decide)
   | exact absurd ((c5 k ‹_› (of_decide_eq_true (p:=eb k=3) ‹_›)).symm.trans ‹_›) (by decide)
   | (have hS:=j4 x (zr (mx 0 (f i)) (nl x)) k o1 b1 o3 b3 (hzl _ ‹_›) ‹_› hJ (fun j h=>⟨(ho3n j h).trans (ho2n j h),(hb3n j h).trans (hb2n j h)⟩) (by rw[ho3k,ho2k]) (by rw[hb3k,hb2k]);exact absurd ((hS.1 ‹_›).symm.trans ‹_›) (by decide))
   | (have hS:=j4 x (zr (mx 0 (f i)) (nl x)) k o1 b1 o3 b3 (hzl _ ‹_›) ‹_› hJ (fun j h=>⟨(ho3n j h).trans (ho2n j h),(hb3n j h).trans (hb2n j h)⟩) (by rw[ho3k,ho2k]) (by rw[hb3k,hb2k]);exact absurd ((hS.2 ‹_›).symm.trans ‹_›) (by decide))
   | trace_state
end Go.Proofs.YtamcjkgedgocfaaGreat
