/- ScopeReasons, the walk. No condition. -/
import Derived.Test.YtaafofmfbcnaaaaGreatScQ
namespace Go.Proofs.YtaafofmfbcnaaaaGreat
open Go.RowKit
set_option linter.unusedVariables false
set_option linter.unusedSimpArgs false
section
variable {P:Program} {Q:Exit→Act→World→Prop} {c:Nat→Nat→Row} {w0:Base}
theorem go_cutCode {σ:Type} (C:σ→Nat→Nat→Row) (inv:σ→St) {cd:Code} {k:List Item} {st:St} (hk:noA k=true) (h1:Goes P (fun _ _ _=>False) c w0 [.code cd,.stop (CutI C w0 inv)] st) (h2:∀y,Goes P Q (C y) w0 k (inv y)):Goes P Q c w0 (.code cd::k) st:=⟨fun e s a w hc F=>by
 have h:=h1.run e s a w hc F
 show cd.wp P (KQ P Q c k s) a w
 refine wp_mono (Q:=KQ P (fun _ _ _=>False) c [.stop (CutI C w0 inv)] s) h (fun en a' w' hq=>?_)
 cases en with
 | normal=>
   obtain ⟨y,e',h3,h4⟩:=hq
   have h5:KQ P Q (C y) k s .normal a' w':=(h2 y).run e' s a' w' h3 h4
   rw[KQ_chi (c':=c) hk] at h5
   exact h5
 | _=>exact hq.elim⟩
theorem go_cutQ (id:Nat) {σ:Type} (C:σ→Nat→Nat→Row) (ws:List Nat) (ups:σ→List (Nat×SV)) {ops:Array Oper} {d:Bool} {b:Code} {k:List Item} {st:St} (hk:noA (.code b::k)=true) (h1:Goes P (fun _ _ _=>False) c w0 [.code (.region id ops d),.stop (CutI C w0 (fun y=>st.lay ws (ups y) [] []))] st) (h2:∀y,Goes P Q (C y) w0 (.code b::k) (st.lay ws (ups y) [] [])):Goes P Q c w0 (.code .skip::.code ((Code.region id ops d).seq b)::k) st:=⟨fun e s a w hc F=>by
 have h:=(go_cutCode C _ hk h1 h2).run e s a w hc F
 refine wp_skip (Q:=KQ P Q c (.code ((Code.region id ops d).seq b)::k) s) ?_
 exact wp_seq h⟩
theorem go_cutQ2 (id:Nat) {σ:Type} (C:σ→Nat→Nat→Row) (ws:List Nat) (ups:σ→List (Nat×SV)) {ops:Array Oper} {d:Bool} {b c2:Code} {k:List Item} {st:St} (hk:noA (.code c2::.code b::k)=true) (h1:Goes P (fun _ _ _=>False) c w0 [.code (.region id ops d),.stop (CutI C w0 (fun y=>st.lay ws (ups y) [] []))] st) (h2:∀y,Goes P Q (C y) w0 (.code c2::.code b::k) (st.lay ws (ups y) [] [])):Goes P Q c w0 (.code .skip::.code (((Code.region id ops d).seq c2).seq b)::k) st:=⟨fun e s a w hc F=>by
 have h:=(go_cutCode C _ hk h1 h2).run e s a w hc F
 refine wp_skip (Q:=KQ P Q c (.code (((Code.region id ops d).seq c2).seq b)::k) s) ?_
 exact wp_seq (wp_seq h)⟩
end
theorem wScR_1 {p:Prop} (h:p:=by (first|(cbv;(try simp only[true_and,and_true]);(try ((repeat' apply And.intro)<;>(first|trivial|rfl|exact RowLe.rfl' _|decide|(rw[wrap_nat har _ (by omega)];done)|((rw[wrap_nat har i (by have:=hslN n (by have:=hnk k ‹_›;omega);omega)];done))|((exact R0 k))|((exact R0' k))|((exact R1 (q1 k n).symm))|((exact R1 (q1' k n).symm))|((exact R1 (q2 k n ‹_›).1.symm))|((exact R1 (q2 k n ‹_›).2.symm))|((have e:i=sl n:=(by omega);subst e;exact R1 (q3 k n ‹_›).1.symm))|((have e:i=sl n:=(by omega);subst e;exact R1 (q3 k n ‹_›).2.symm))|((exact R4 k n i ‹_›))|((exact R5 k n i ‹_› ‹_›))|((exact R6 k n i ‹_› ‹_›))|((exact R1 (q5 k n i ‹_›).1.symm))|((exact R1 (q5 k n i ‹_›).2.symm))|((exact (u1 k n ‹_›).symm))|((exact (u2 k n ‹_› ‹_›).symm))|((exact (u3 k n ‹_› (of_decide_eq_false (p:=eb k=3) ‹_›)).symm))|((exact u5 k n ‹_› (of_decide_eq_true (p:=eb k=3) ‹_›) ‹_› ‹_›))|((exact (c3 k ‹_› (of_decide_eq_true (p:=eb k=3) ‹_›) ‹_›).elim))|fail)));done)|fail)):Pf p:=⟨h⟩
set_option maxRecDepth 100000 in
set_option maxHeartbeats 32000000 in
theorem reasonsL22 (F:GFun) (w:World) (hF:F.At w) (hK:F.Ty8) (hD:F.Fd):
 Calls Tryz.prog 8 #[F.val] w (Ret w (.bool true)):=by
 have h1 (wc:World) (hk:KB ⟨w,[]⟩ wc):=fit22C F wc (hF.later hk) hK
 by_cases hO:fit22B F=true
 case neg=>
  have e:fit22B F=false:=by simpa using hO
  rw[e] at h1
  clear hK hO e hD
  obtain ⟨pa,un,lA,ln,lc,lk,lt,bA,bn,bc,sA,sn,sc,s,jA,jn,jc,ja,jk,jo,jf,jx,je,jd⟩:=F
  obtain ⟨hX,hl,hb,hs,hj⟩:=hF
  simp only at hl hb hs hj
  refine go_start (args:=[.pt (.agg (GFun.dat _))]) (c:=(funX _)) Tryz.func8 rfl hX rfl rfl ?_
  obtain ⟨nd,hnd,nt,hnt,ar,har,cm,hcm,mx,hmx,mn,hmn,ar01,ar12,zpl,hzpl,zjn,hzjn,zup,hzup,zmi,hzmi,zdp,hzdp,hT⟩:=t0_all
  repeat' (first
   | refine go1 ?_|refine gobt ?_|refine gobn ?_|refine go3 (fun hlt=>?_) (fun hge=>?_)|refine go2 (fun h=>?_) (fun h=>?_)|exact go0|refine god ?_|refine gof ?_|refine gob ?_|(with_reducible refine fork_cons ?_ ?_)
   | ((with_reducible apply go_call (f:=50) (hf:=Tryz.call50));(·(cbv;try rfl));(·intro wc hbc hxc;exact alive22C wc))
   | ((with_reducible apply go_callq (f:=50) (hf:=Tryz.call50));(·(cbv;try rfl));(·intro wc hbc hxc;exact alive22C wc))
   | ((with_reducible apply go_call (f:=51) (hf:=Tryz.call51));(·(cbv;try rfl));(·intro wc hbc hxc;exact h1 wc hbc))
   | ((with_reducible apply go_callq (f:=51) (hf:=Tryz.call51));(·(cbv;try rfl));(·intro wc hbc hxc;exact h1 wc hbc))
   | fail)
  all_goals rfl
 rw[hO] at h1
 have hO:=fit22_ok hO
 have hKn0 (wc:World) (hk:KB ⟨w,[]⟩ wc):=knownC F wc (hF.later hk) hO hD
 have hUs0 (wc:World) (hk:KB ⟨w,[]⟩ wc) (n:Nat) (hn:n<stN F.sn F.bn):=lusesC F wc (hF.later hk) hO hD n hn
 have hNx0 (wc:World) (hk:KB ⟨w,[]⟩ wc) {c:Nat→Nat→Row} (n:Nat) (hn:n<stN F.sn F.bn):=Calls.to (c':=c) (r:=[natR (rsucc F n)]) ⟨fun _ _=>rfl,trivial⟩ rfl (rNextC F wc (hF.later hk) hO n hn)
 have hN9:=hO.pts
 have hN0:=pts_pos hO
 have hP9:lnC F≤600:=Nat.le_trans (loanPts_len F _) hN9
 have hl16:=hO.ln16
 have hlk0:∀k,k<lnC F→(stAt F (lpN F k)).r.bo=3→0≤lnL F (lpN F k)∧lnL F (lpN F k)<F.ln:=fun k hk h=>lnL_two hO hk h
 have hbit0:∀k n,k<lnC F→(stAt F (lpN F k)).r.bo=3→decide (rAr .and .u32 (rAr .shr .u32 (.ofNat (umN F n)) (lnL F (lpN F k))) 1=0)= !(wyF F k).tw n:=fun k n hk h=>wy_bit0 hO hk rfl h n
 have hsq0:∀n,n<stN F.sn F.bn→∀t,t<(rsucc F n).length→(rsucc F n).getD t 0<stN F.sn F.bn:=fun n hn t ht=>succN_lt hO hn _ ((rsucc_mem hn).1 (by rw[List.getD_eq_getElem?_getD,List.getElem?_eq_getElem ht];exact List.getElem_mem ht))
 have hsl0:∀n,n<stN F.sn F.bn→(rsucc F n).length≤2:=fun n _=>rsucc_len F n
 have hwa0:∀k j,k<lnC F→j<stN F.sn F.bn→scI F k j=wnF F k (stN F.sn F.bn) j:=fun k j hk hj=>want_is hO hk hj
 have hbit10:∀k n,k<lnC F→(stAt F (lpN F k)).r.bo=3→decide (rAr .and .u32 (rAr .shr .u32 (.ofNat (umN F n)) (lnL F (lpN F k))) 1=1)=(wyF F k).tw n:=fun k n hk h=>wy_bit1 hO hk h n
 have hua0:∀k j,k<lnC F→j<stN F.sn F.bn→scU F k j=unF F k (stN F.sn F.bn) j:=fun k j hk hj=>was_is hO hk hj
 obtain ⟨N,hN⟩:∃N,N=stN F.sn F.bn:=⟨_,rfl⟩
 obtain ⟨P,hP⟩:∃P,P=lnC F:=⟨_,rfl⟩
 obtain ⟨lp,hlp⟩:∃f:Nat→Nat,f=lpN F:=⟨_,rfl⟩
 obtain ⟨el,hel⟩:∃f:Nat→Int,f=fun j=>(stAt F (lpN F j)).r.p.l:=⟨_,rfl⟩
 obtain ⟨ed,hed⟩:∃f:Nat→Bool,f=fun j=>(stAt F (lpN F j)).r.p.d:=⟨_,rfl⟩
 obtain ⟨ef,hef⟩:∃f:Nat→Int,f=fun j=>(stAt F (lpN F j)).r.p.f:=⟨_,rfl⟩
 obtain ⟨eb,heb⟩:∃f:Nat→Int,f=fun j=>(stAt F (lpN F j)).r.bo:=⟨_,rfl⟩
 obtain ⟨lo,hlo⟩:∃f:Nat→Int,f=fun j=>lnL F (lpN F j):=⟨_,rfl⟩
 obtain ⟨sI,hsI⟩:∃f:Nat→Nat→Bool,f=scI F:=⟨_,rfl⟩
 obtain ⟨sU,hsU⟩:∃f:Nat→Nat→Bool,f=scU F:=⟨_,rfl⟩
 obtain ⟨rs,hrs⟩:∃f:Nat→Nat→Bool,f=fun j k=>regF F (j+F.ln) k:=⟨_,rfl⟩
 obtain ⟨kb,hkb⟩:∃f:Nat→Nat→Bool,f=killB F:=⟨_,rfl⟩
 obtain ⟨tw,htw⟩:∃f:Nat→Nat→Bool,f=fun k n=>(wyF F k).tw n:=⟨_,rfl⟩
 obtain ⟨um,hum⟩:∃f:Nat→Nat,f=umN F:=⟨_,rfl⟩
 obtain ⟨sm,hsm⟩:∃f:Nat→Int,f=smN F:=⟨_,rfl⟩
 obtain ⟨sl,hsl⟩:∃f:Nat→Nat,f=fun n=>(rsucc F n).length:=⟨_,rfl⟩
 obtain ⟨sq,hsq⟩:∃f:Nat→Nat→Nat,f=fun n t=>(rsucc F n).getD t 0:=⟨_,rfl⟩
 obtain ⟨nn,hnn⟩:∃f:Nat→Nat,f=nnN (lnC F) (stN F.sn F.bn):=⟨_,rfl⟩
 have hKn (wc:World) (hk:KB ⟨w,[]⟩ wc):Calls Tryz.prog 52 #[F.val] wc (RetX wc (fun A:XA=>.tup [.one (.val (.slice A.2.1.1 P A.2.1.2)),.one (.val (.slice A.2.2.1.1 P A.2.2.1.2)),.one (.val (.slice A.2.2.2.1.1 P A.2.2.2.1.2)),.one (.val (.slice A.1.2.2.2.2.1 P A.1.2.2.2.2.2)),.one (.val (.slice A.2.2.2.2.1 P A.2.2.2.2.2)),.one (.lit true)]) (fun _=>[]) (xFam P N nn sI sU rs kb (fun j=>[.int .i64 (.ofNat (lp j)),.int .i64 (el j),.bool (ed j),.int .u8 (ef j),.int .u8 (eb j),.int .i64 (lo j)]))):=by
  subst hP hN hlp hel hed hef heb hlo hsI hsU hrs hkb hnn;exact knownX (fun _=>rfl) (hKn0 wc hk)
 have hUs (wc:World) (hk:KB ⟨w,[]⟩ wc) (n:Nat) (hn:n<N):Calls Tryz.prog 54 #[F.val,.int .i64 (.ofNat n)] wc (Ret wc (.tuple #[.int .u32 (.ofNat (um n)),.int .i64 (sm n),.int .i64 0])):=by rw[hum,hsm];exact hUs0 wc hk n (hN▸hn)
 have hNx (wc:World) (hk:KB ⟨w,[]⟩ wc) {c:Nat→Nat→Row} (n:Nat) (hn:n<N):Calls Tryz.prog 56 #[F.val,.int .i64 (.ofNat n)] wc (RetR wc c (.pt (.one (.rs 0))) [⟨sl n,1,fun j=>[.int .i64 (.ofNat (sq n j))]⟩]):=by rw[hsl,hsq];exact hNx0 wc hk n (hN▸hn)
 have hnk:∀k,k<P→nn k=N:=fun k hk=>by rw[hP] at hk;rw[hnn,hN];exact nnN_lt hk
 have hlk:∀k,k<P→eb k=3→0≤lo k∧lo k<F.ln:=by rw[hP,heb,hlo];exact hlk0
 have hbit:∀k n,k<P→eb k=3→decide (rAr .and .u32 (rAr .shr .u32 (.ofNat (um n)) (lo k)) 1=0)= !tw k n:=by rw[hP,heb,hum,hlo,htw];exact hbit0
 have hsqN:∀n,n<N→∀t,t<sl n→sq n t<N:=by rw[hN,hsl,hsq];exact hsq0
 have hslN:∀n,n<N→sl n≤2:=by rw[hN,hsl];exact hsl0
 obtain ⟨us,hus⟩:∃f:Nat→Nat→Bool,f=usF F:=⟨_,rfl⟩
 obtain ⟨wn,hwn⟩:∃f:Nat→Nat→Nat→Bool,f=wnF F:=⟨_,rfl⟩
 obtain ⟨vn,hvn⟩:∃f:Nat→Nat→Nat→Bool,f=unF F:=⟨_,rfl⟩
 obtain ⟨wj,hwj⟩:∃f:Nat→Nat→Nat→Nat→Bool,f=wjF F:=⟨_,rfl⟩
 obtain ⟨uj,huj⟩:∃f:Nat→Nat→Nat→Nat→Bool,f=ujF F:=⟨_,rfl⟩
 have q0:∀k,wn k 0=(fun _=>false):=fun k=>by rw[hwn];rfl
 have q0':∀k,vn k 0=(fun _=>false):=fun k=>by rw[hvn];rfl
 have q1:∀k n,wj k n 0=wn k n:=fun k n=>by rw[hwn,hwj];rfl
 have q1':∀k n,uj k n 0=vn k n:=fun k n=>by rw[hvn,huj];rfl
 obtain ⟨cs,hcs⟩:∃f:Nat→Nat→Bool,f=fun k n=>!cdF F k n:=⟨_,rfl⟩
 have s1:∀k n,n≠lp k→sI k n=false→cs k n=true:=fun k n h h'=>by
  rw[hlp] at h
  rw[hsI] at h'
  rw[hcs];unfold cdF;simp only;rw[decide_eq_false h,h'];rfl
 have s2:∀k n,kb k n=true→cs k n=true:=fun k n h=>by
  rw[hkb] at h
  rw[hcs];unfold cdF;simp only;rw[h];simp
 have s3:∀k n,(n=lp k∨sI k n=true)→kb k n=false→cs k n=false:=fun k n h h'=>by
  rw[hlp,hsI] at h
  rw[hkb] at h'
  rw[hcs];unfold cdF;simp only;rw[h']
  rcases h with h|h
  · rw[decide_eq_true h];rfl
  · rw[h];simp
 have s4:∀k n,(n=lp k∨sI k n=true)→kb k n=cs k n:=fun k n h=>by
  cases hx:kb k n with
  | true=>exact (s2 k n hx).symm
  | false=>exact (s3 k n h hx).symm
 have q2:∀k n,cs k n=true→wn k (n+1)=wn k n∧vn k (n+1)=vn k n:=fun k n h=>by
  rw[hcs] at h
  rw[hwn,hvn]
  have e:cdF F k n=false:=by simpa using h
  refine ⟨?_,?_⟩
  · show rwN _ _ _ _ (n+1)=_
    rw[rwN,e];rfl
  · show ruN _ _ _ _ _ (n+1)=_
    rw[ruN,e];rfl
 have q3:∀k n,cs k n=false→wn k (n+1)=wj k n (sl n)∧vn k (n+1)=uj k n (sl n):=fun k n h=>by
  rw[hcs] at h
  rw[hwn,hvn,hwj,huj,hsl]
  have e:cdF F k n=true:=by simpa using h
  refine ⟨?_,?_⟩
  · show rwN _ _ _ _ (n+1)=_
    rw[rwN,e];rfl
  · show ruN _ _ _ _ _ (n+1)=_
    rw[ruN,e];rfl
 have q4:∀k n i,rs k (sq n i)=true→wj k n (i+1)=turn (wj k n i) (sq n i) true∧uj k n (i+1)=turn (uj k n i) (sq n i) (uj k n i (sq n i)||us k n):=fun k n i h=>by
  rw[hrs,hsq] at h
  rw[hwj,huj,hsq,hus]
  refine ⟨?_,?_⟩
  · show rwJ _ _ _ (i+1)=_
    rw[rwJ,if_pos h];rfl
  · show ruJ _ _ _ _ (i+1)=_
    rw[ruJ,if_pos h];rfl
 have q5:∀k n i,rs k (sq n i)=false→wj k n (i+1)=wj k n i∧uj k n (i+1)=uj k n i:=fun k n i h=>by
  rw[hrs,hsq] at h
  rw[hwj,huj]
  refine ⟨?_,?_⟩
  · show rwJ _ _ _ (i+1)=_
    rw[rwJ,if_neg (fun g=>Bool.noConfusion (h.symm.trans g))];rfl
  · show ruJ _ _ _ _ (i+1)=_
    rw[ruJ,if_neg (fun g=>Bool.noConfusion (h.symm.trans g))];rfl
 have u1:∀k n,sU k n=true→us k n=true:=fun k n h=>by rw[hsU] at h;rw[hus];unfold usF;rw[h];rfl
 have u2:∀k n,sU k n=false→sI k n=false→us k n=false:=fun k n h h'=>by rw[hsU] at h;rw[hsI] at h';rw[hus];unfold usF;rw[h,h'];rfl
 have u3:∀k n,sU k n=false→eb k≠3→us k n=false:=fun k n h h'=>by
  rw[hsU] at h;rw[heb] at h';rw[hus];unfold usF
  rw[h,show (wyF F k).tw n=false from by show (decide ((stAt F (lpN F k)).r.bo=3)&&_)=false;rw[decide_eq_false h'];rfl];simp
 have u4:∀k n,sU k n=false→sI k n=true→us k n=tw k n:=fun k n h h'=>by
  rw[hsU] at h;rw[hsI] at h';rw[hus,htw];unfold usF;rw[h,h'];simp
 have hbit1:∀k n,k<P→eb k=3→decide (rAr .and .u32 (rAr .shr .u32 (.ofNat (um n)) (lo k)) 1=1)=tw k n:=by rw[hP,heb,hum,hlo,htw];exact hbit10
 have hwa:∀k j,k<P→j<N→sI k j=wn k N j:=by rw[hP,hN,hsI,hwn];exact hwa0
 have hua:∀k j,k<P→j<N→sU k j=vn k N j:=by rw[hP,hN,hsU,hvn];exact hua0
 have hSm1:∀(wc:World) (c:Nat→Nat→Row) (A:AdF) (k:Nat) (v:Value),XOk ⟨[],c,[]⟩ ⟨wc,[]⟩→k<P→∀m,m=N→RowIs c wc ⟨nn k,1,fun j=>[.bool (wn k m j)]⟩ v→c 4 k=⟨(A k).1,nn k,(A k).2,1,fun j=>[.bool (sI k j)]⟩→Calls Tryz.prog 35 #[.slice (A k).1 (nn k) (A k).2,v] wc (Ret wc (.bool true)):=fun wc c A k v hx hk m hm hv h=>by
  rw[hm] at hv
  exact sameXR hx hv 4 k h (by rw[hnk k hk,hN];unfold maxLen;omega) (fun j hj=>hwa k j hk (by rw[←hnk k hk];exact hj))
 have hSm2:∀(wc:World) (c:Nat→Nat→Row) (A:AdF) (k:Nat) (v:Value),XOk ⟨[],c,[]⟩ ⟨wc,[]⟩→k<P→∀m,m=N→RowIs c wc ⟨nn k,1,fun j=>[.bool (vn k m j)]⟩ v→c 5 k=⟨(A k).1,nn k,(A k).2,1,fun j=>[.bool (sU k j)]⟩→Calls Tryz.prog 35 #[.slice (A k).1 (nn k) (A k).2,v] wc (Ret wc (.bool true)):=fun wc c A k v hx hk m hm hv h=>by
  rw[hm] at hv
  exact sameXR hx hv 5 k h (by rw[hnk k hk,hN];unfold maxLen;omega) (fun j hj=>hua k j hk (by rw[←hnk k hk];exact hj))
 rw[←hN] at hN9 hN0
 rw[←hP] at hP9
 clear hKn0 hUs0 hNx0 hlk0 hbit0 hsq0 hsl0 hN hP hlp hel hed hef heb hlo hsI hsU hrs hkb htw hum hsm hsl hsq hnn hO hD hK hcs hbit10 hwa0 hua0 hwa hua hus hwn hvn hwj huj
 obtain ⟨pa,un,lA,ln,lc,lk,lt,bA,bn,bc,sA,sn,sc,s,jA,jn,jc,ja,jk,jo,jf,jx,je,jd⟩:=F
 obtain ⟨hX,hl,hb,hs,hj⟩:=hF
 simp only at hl hb hs hj
 try simp only at h1 hKn hUs hNx hl16 hlk
 refine go_start (args:=[.pt (.agg (GFun.dat ⟨pa,un,lA,ln,lc,lk,lt,bA,bn,bc,sA,sn,sc,s,jA,jn,jc,ja,jk,jo,jf,jx,je,jd⟩))]) (c:=(funX ⟨pa,un,lA,ln,lc,lk,lt,bA,bn,bc,sA,sn,sc,s,jA,jn,jc,ja,jk,jo,jf,jx,je,jd⟩)) Tryz.func8 rfl hX rfl rfl ?_
 obtain ⟨nd,hnd,nt,hnt,ar,har,cm,hcm,mx,hmx,mn,hmn,ar01,ar12,zpl,hzpl,zjn,hzjn,zup,hzup,zmi,hzmi,zdp,hzdp,hT⟩:=t0_all
 have hc13:∀A,∀q i j,q<13→j<(chiG (funX ⟨pa,un,lA,ln,lc,lk,lt,bA,bn,bc,sA,sn,sc,s,jA,jn,jc,ja,jk,jo,jf,jx,je,jd⟩) 4 (xFam P N nn sI sU rs kb (fun j=>[.int .i64 (.ofNat (lp j)),.int .i64 (el j),.bool (ed j),.int .u8 (ef j),.int .u8 (eb j),.int .i64 (lo j)]) A) q i).n→qbL 13 ((chiG (funX ⟨pa,un,lA,ln,lc,lk,lt,bA,bn,bc,sA,sn,sc,s,jA,jn,jc,ja,jk,jo,jf,jx,je,jd⟩) 4 (xFam P N nn sI sU rs kb (fun j=>[.int .i64 (.ofNat (lp j)),.int .i64 (el j),.bool (ed j),.int .u8 (ef j),.int .u8 (eb j),.int .i64 (lo j)]) A) q i).el j)=true:=fun A=>fam_upN 9 (funX_qb _) (fun p i j hj=>xFam_plain (fun _=>rfl) p i j hj)
 have hc14:=fun A a cap=>alG_qb (K:=13) (n:=P) (el:=fun j=>[.xs 4 j]) (a:=a) (cap:=cap) (hc13 A) (fun _=>rfl)
 have hc15:=fun A a cap a' cap'=>alG_qb (K:=14) (n:=P) (el:=fun j=>[.xs 5 j]) (a:=a') (cap:=cap') (hc14 A a cap) (fun _=>rfl)
 have hc16:=fun A a cap a' cap' b bap=>alG_qb (K:=15) (n:=P) (el:=fun j=>[.xs 6 j]) (a:=b) (cap:=bap) (hc15 A a cap a' cap') (fun _=>rfl)
 have hc17:=fun A a cap a' cap' b bap d dap=>alG_qb (K:=16) (n:=P) (el:=fun j=>[.xs 7 j]) (a:=d) (cap:=dap) (hc16 A a cap a' cap' b bap) (fun _=>rfl)
 have nq:∀k,k<P→eb k=3→ar .quo .u64 (lo k) 0=lo k:=fun k hk he=>quo64 har (hlk k hk he).1 (by have:=(hlk k hk he).2;omega)
 have n3:∀k,k<P→eb k=3→0≤ar .quo .u64 (lo k) 0:=fun k hk he=>by rw[nq k hk he];exact (hlk k hk he).1
 have hnq:∀X:Int,0≤X→X<X.toNat+1:=fun X h=>by omega
 have hq3:∀k n i,k<P→n<N→i<sl n→(Int.ofNat (sq n i))<(nn k:Int):=fun k n i hk hn hi=>by
  have:=hsqN n hn i hi
  rw[hnk k hk];simp only[Int.ofNat_eq_natCast];omega
 have hmk:∀k,k<P→0≤Int.ofNat (nn k)∧(nn k:Int)≤1073741824:=fun k hk=>⟨Int.natCast_nonneg _,by rw[hnk k hk];omega⟩
 have u5:∀k n,k<P→eb k=3→sU k n=false→sI k n=true→decide (ar .and .u32 (ar .shr .u32 (.ofNat (um n)) (ar .quo .u64 (lo k) 0)) 1=1)=us k n:=fun k n hk he h h'=>by
  rw[nq k hk he,har,u4 k n h h'];exact hbit1 k n hk he
 have c3:∀k,k<P→eb k=3→cm .geq (lo k) 0=false→False:=fun k hk he h=>by rw[hcm] at h;exact absurd (hlk k hk he).1 (of_decide_eq_false h)
 have dne:∀{a b:Nat},decide (Int.ofNat a=Int.ofNat b)=false→a≠b:=fun h e=>of_decide_eq_false h (by rw[e])
 have deq:∀{a b:Nat},decide (Int.ofNat a=Int.ofNat b)=true→a=b:=fun h=>Int.ofNat.inj (of_decide_eq_true h)
 have R1:∀{k:Nat} {f g:Nat→Bool},f=g→RowLe ⟨nn k,1,fun j=>[.bool (f j)]⟩ ⟨nn k,1,fun j=>[.bool (g j)]⟩:=fun h=>by rw[h];exact RowLe.rfl' _
 have R0:∀k,RowLe ⟨nn k,1,fun _=>[.lit false]⟩ ⟨nn k,1,fun j=>[.bool (wn k 0 j)]⟩:=fun k=>rowLe_of rfl (fun j hj=>⟨by rw[q0];exact rfl,trivial⟩)
 have R0':∀k,RowLe ⟨nn k,1,fun _=>[.lit false]⟩ ⟨nn k,1,fun j=>[.bool (vn k 0 j)]⟩:=fun k=>rowLe_of rfl (fun j hj=>⟨by rw[q0'];exact rfl,trivial⟩)
 have R4:∀k n i,rs k (sq n i)=true→RowLe ⟨nn k,1,zup (fun j=>[.bool (wj k n i j)]) (sq n i) 0 [.lit true]⟩ ⟨nn k,1,fun j=>[.bool (wj k n (i+1) j)]⟩:=fun k n i h=>by
  rw[(q4 k n i h).1]
  refine rowLe_up hzup rfl (fun j hj g=>⟨?_,trivial⟩) (fun _=>⟨?_,trivial⟩)
  · rw[WyG.turn_ne g];exact rfl
  · rw[WyG.turn_at];exact rfl
 have R5:∀k n i,rs k (sq n i)=true→uj k n i (sq n i)=true→RowLe ⟨nn k,1,zup (fun j=>[.bool (uj k n i j)]) (sq n i) 0 [.lit true]⟩ ⟨nn k,1,fun j=>[.bool (uj k n (i+1) j)]⟩:=fun k n i h h'=>by
  rw[(q4 k n i h).2,h']
  refine rowLe_up hzup rfl (fun j hj g=>⟨?_,trivial⟩) (fun _=>⟨?_,trivial⟩)
  · rw[WyG.turn_ne g];exact rfl
  · rw[WyG.turn_at];exact rfl
 have R6:∀k n i,rs k (sq n i)=true→uj k n i (sq n i)=false→RowLe ⟨nn k,1,zup (fun j=>[.bool (uj k n i j)]) (sq n i) 0 [.bool (us k n)]⟩ ⟨nn k,1,fun j=>[.bool (uj k n (i+1) j)]⟩:=fun k n i h h'=>by
  rw[(q4 k n i h).2,h']
  refine rowLe_up hzup rfl (fun j hj g=>⟨?_,trivial⟩) (fun _=>⟨?_,trivial⟩)
  · rw[WyG.turn_ne g];exact rfl
  · rw[WyG.turn_at];exact rfl
 repeat' (first
  | (((with_reducible refine go_drawE (id:=10) (by kernel_rfl) ?_);(with_reducible refine go_cutR (σ:=Unit) (fun _=>chiG (chiG (chiG (chiG (chiG (chiG (funX ⟨pa,un,lA,ln,lc,lk,lt,bA,bn,bc,sA,sn,sc,s,jA,jn,jc,ja,jk,jo,jf,jx,je,jd⟩) 4 (xFam P N nn sI sU rs kb (fun j=>[.int .i64 (.ofNat (lp j)),.int .i64 (el j),.bool (ed j),.int .u8 (ef j),.int .u8 (eb j),.int .i64 (lo j)]) A)) 13 (alG P (fun j=>[.xs 4 j]) A.2.2.1.1 A.2.2.1.2)) 14 (alG P (fun j=>[.xs 5 j]) A.2.2.2.1.1 A.2.2.2.1.2)) 15 (alG P (fun j=>[.xs 6 j]) A.1.2.2.2.2.1 A.1.2.2.2.2.2)) 16 (alG P (fun j=>[.xs 7 j]) A.2.2.2.2.1 A.2.2.2.2.2)) 17 (boxG b17 [.int .i64 pa,.bool un,.xs 0 0,.xs 1 0])) [46,47,48,49,50,51,52,53,54,55,56,57] (fun _=>[(11,.pt (.one (.rs 0))),(12,.pt (.one (.rs 1)))]) (fun _=>[]) (fun _=>[some ⟨nn k,1,fun _=>[.lit false]⟩,some ⟨nn k,1,fun _=>[.lit false]⟩]) rfl ?_ (fun _=>?_))))
  | (((with_reducible refine go_cutQ2 17 (σ:=Unit) (fun _=>chiG (chiG (chiG (chiG (chiG (chiG (funX ⟨pa,un,lA,ln,lc,lk,lt,bA,bn,bc,sA,sn,sc,s,jA,jn,jc,ja,jk,jo,jf,jx,je,jd⟩) 4 (xFam P N nn sI sU rs kb (fun j=>[.int .i64 (.ofNat (lp j)),.int .i64 (el j),.bool (ed j),.int .u8 (ef j),.int .u8 (eb j),.int .i64 (lo j)]) A)) 13 (alG P (fun j=>[.xs 4 j]) A.2.2.1.1 A.2.2.1.2)) 14 (alG P (fun j=>[.xs 5 j]) A.2.2.2.1.1 A.2.2.2.1.2)) 15 (alG P (fun j=>[.xs 6 j]) A.1.2.2.2.2.1 A.1.2.2.2.2.2)) 16 (alG P (fun j=>[.xs 7 j]) A.2.2.2.2.1 A.2.2.2.2.2)) 17 (boxG b17 [.int .i64 pa,.bool un,.xs 0 0,.xs 1 0])) [76,77,78,79,80,81,82,83,84,85,86,87,88,89,90,91,92,93,94,95,96,97,98,99,100] (fun _=>[(101,.pt (.one (.bool (cs k n))))]) rfl ?_ (fun _=>?_))))
  | (((with_reducible refine go_cutQ 18 (σ:=Unit) (fun _=>chiG (chiG (chiG (chiG (chiG (chiG (funX ⟨pa,un,lA,ln,lc,lk,lt,bA,bn,bc,sA,sn,sc,s,jA,jn,jc,ja,jk,jo,jf,jx,je,jd⟩) 4 (xFam P N nn sI sU rs kb (fun j=>[.int .i64 (.ofNat (lp j)),.int .i64 (el j),.bool (ed j),.int .u8 (ef j),.int .u8 (eb j),.int .i64 (lo j)]) A)) 13 (alG P (fun j=>[.xs 4 j]) A.2.2.1.1 A.2.2.1.2)) 14 (alG P (fun j=>[.xs 5 j]) A.2.2.2.1.1 A.2.2.2.1.2)) 15 (alG P (fun j=>[.xs 6 j]) A.1.2.2.2.2.1 A.1.2.2.2.2.2)) 16 (alG P (fun j=>[.xs 7 j]) A.2.2.2.2.1 A.2.2.2.2.2)) 17 (boxG b17 [.int .i64 pa,.bool un,.xs 0 0,.xs 1 0])) [102,103,104,105,106,107,108,109,110,111,112,113,114,115,116,117,118,119,120,121,122,123,124,125,126,127,128,129,130,131,132,133,134,135,136,137,138,139,140,141,142,143,144,145] (fun _=>[(17,.pt (.one (.bool (us k n))))]) rfl ?_ (fun _=>?_))))
  | refine go1 ?_|refine gobt ?_|refine gobn ?_|refine go3 (fun hlt=>?_) (fun hge=>?_)|refine go2 (fun h=>?_) (fun h=>?_)|exact go0|refine god ?_|refine gof ?_|(with_reducible refine fork_cons ?_ ?_)
  | ((first|with_reducible apply go_fin_rowsP hT|with_reducible apply go_ret_rowsP hT);(·(cbv;try rfl));(·(cbv;try rfl));(·exact wScR_1);(·exact wScR_1);(·rfl))
  | ((with_reducible refine go_ob ?_ ?_);(·first|trivial|(refine ⟨trivial,?_⟩;omega)|(rw[hzpl];refine ⟨trivial,?_⟩;show _+_≤1073741824;omega)|(rw[hzpl];show _+_≤1073741824;omega)|((exact hmk k ‹_›))))
  | ((with_reducible apply go_call (f:=50) (hf:=Tryz.call50));(·(cbv;try rfl));(·intro wc hbc hxc;exact alive22C wc))
  | ((with_reducible apply go_callq (f:=50) (hf:=Tryz.call50));(·(cbv;try rfl));(·intro wc hbc hxc;exact alive22C wc))
  | ((with_reducible apply go_call (f:=51) (hf:=Tryz.call51));(·(cbv;try rfl));(·intro wc hbc hxc;exact h1 wc hbc))
  | ((with_reducible apply go_callq (f:=51) (hf:=Tryz.call51));(·(cbv;try rfl));(·intro wc hbc hxc;exact h1 wc hbc))
  | (((with_reducible apply go_callX 4 (f:=52) (hf:=Tryz.call52));(·intro S;cbv;try rfl);(·intro wc S hbc hxc hrc;exact hKn wc hbc);(·intro A;rfl);(·intro A;rfl);(·rfl);(·rfl);(·trivial);(·exact funX_qb _);(·intro A;trivial);(·intro A p i j hj;exact xFam_plain (fun _=>rfl) p i j hj);(intro A hnew;refine go_rowX 13 10 0 (a:=A.2.2.1.1) (n:=P) (cap:=A.2.2.1.2) (el0:=fun j=>[.val (.slice (A.1.1 j).1 N (A.1.1 j).2)]) (el:=fun j=>[.xs 4 j]) rfl (fun j hj vs hv=>seen_xs ⟨rfl,hnk j hj,rfl⟩ vs hv) rfl rfl trivial (hc13 A) ?_;refine go_rowX 14 11 0 (a:=A.2.2.2.1.1) (n:=P) (cap:=A.2.2.2.1.2) (el0:=fun j=>[.val (.slice (A.1.2.1 j).1 N (A.1.2.1 j).2)]) (el:=fun j=>[.xs 5 j]) rfl (fun j hj vs hv=>seen_xs ⟨rfl,hnk j hj,rfl⟩ vs hv) rfl rfl trivial (hc14 A _ _) ?_;refine go_rowX 15 8 0 (a:=A.1.2.2.2.2.1) (n:=P) (cap:=A.1.2.2.2.2.2) (el0:=fun j=>[.val (.slice (A.1.2.2.1 j).1 N (A.1.2.2.1 j).2)]) (el:=fun j=>[.xs 6 j]) rfl (fun j hj vs hv=>seen_xs ⟨rfl,hnk j hj,rfl⟩ vs hv) rfl rfl trivial (hc15 A _ _ _ _) ?_;refine go_rowX 16 12 0 (a:=A.2.2.2.2.1) (n:=P) (cap:=A.2.2.2.2.2) (el0:=fun j=>[.val (.slice (A.1.2.2.2.1 j).1 N (A.1.2.2.2.1 j).2)]) (el:=fun j=>[.xs 7 j]) rfl (fun j hj vs hv=>seen_xs ⟨rfl,hnk j hj,rfl⟩ vs hv) rfl rfl trivial (hc16 A _ _ _ _ _ _) ?_;refine go_slotT 31 0 9 0 rfl rfl rfl ?_;refine go_slotT 31 1 13 0 rfl rfl rfl ?_;refine go_slotT 31 2 14 0 rfl rfl rfl ?_;refine go_slotT 31 3 15 0 rfl rfl rfl ?_;refine go_slotT 31 4 16 0 rfl rfl rfl ?_;refine go_boxT 1 17 rfl rfl rfl rfl rfl trivial rfl (hc17 A _ _ _ _ _ _ _ _) alG_n (fun b17 _=>?_))))
  | (((with_reducible refine go_stopC () rfl ?_ ?_ ?_);(·(refine le_mk ?_ ?_ ?_ ?_<;>(cbv;(try simp only[true_and,and_true]);(try ((repeat' apply And.intro)<;>(first|trivial|rfl|exact RowLe.rfl' _|exact (s1 k n (dne ‹_›) ‹_›).symm|exact (s2 k n ‹_›).symm|exact s4 k n (by first|exact .inl (deq ‹_›)|exact .inr ‹_›)|exact (s3 k n (by first|exact .inl (deq ‹_›)|exact .inr ‹_›) ‹_›).symm|exact (u1 k n ‹_›).symm|exact (u2 k n ‹_› ‹_›).symm|exact (u3 k n ‹_› (of_decide_eq_false (p:=eb k=3) ‹_›)).symm|exact u5 k n ‹_› (of_decide_eq_true (p:=eb k=3) ‹_›) ‹_› ‹_›|exact (c3 k ‹_› (of_decide_eq_true (p:=eb k=3) ‹_›) ‹_›).elim))))));(·(cbv;try rfl));(·simp)))
  | (((with_reducible refine go_stopCw 0 1 ?_ ?_ () rfl ?_ ?_ ?_);(·simp);(·simp);(·(refine le_mk ?_ ?_ ?_ ?_<;>(cbv;(try simp only[true_and,and_true]);(try ((repeat' apply And.intro)<;>(first|trivial|rfl|exact RowLe.rfl' _|exact (s1 k n (dne ‹_›) ‹_›).symm|exact (s2 k n ‹_›).symm|exact s4 k n (by first|exact .inl (deq ‹_›)|exact .inr ‹_›)|exact (s3 k n (by first|exact .inl (deq ‹_›)|exact .inr ‹_›) ‹_›).symm|exact (u1 k n ‹_›).symm|exact (u2 k n ‹_› ‹_›).symm|exact (u3 k n ‹_› (of_decide_eq_false (p:=eb k=3) ‹_›)).symm|exact u5 k n ‹_› (of_decide_eq_true (p:=eb k=3) ‹_›) ‹_› ‹_›|exact (c3 k ‹_› (of_decide_eq_true (p:=eb k=3) ‹_›) ‹_›).elim))))));(·(cbv;try rfl));(·simp)))
  | ((with_reducible apply go_call (f:=54) (hf:=Tryz.call54));(·(cbv;try rfl));(·intro wc hbc hxc;exact (hUs wc hbc n (by have:=hnk k ‹_›;omega))))
  | ((with_reducible apply go_callq (f:=54) (hf:=Tryz.call54));(·(cbv;try rfl));(·intro wc hbc hxc;exact (hUs wc hbc n (by have:=hnk k ‹_›;omega))))
  | ((with_reducible apply go_callR (f:=56) (hf:=Tryz.call56));(·intro S;cbv;try rfl);(·intro wc S hbc hxc hrc;exact (hNx wc hbc n (by have:=hnk k ‹_›;omega)));(·rfl))
  | ((with_reducible refine go_loopk (σ:={k:Nat // k≤P}) [11,12,13,14,15,16,17,18,19,40,41,42,43,44,45,46,47,48,49,50,51,52,53,54,55,56,57,58,59,60,61,62,63,64,65,66,67,68,69,70,71,72,73,74,75,76,77,78,79,80,81,82,83,84,85,86,87,88,89,90,91,92,93,94,95,96,97,98,99,100,101,102,103,104,105,106,107,108,109,110,111,112,113,114,115,116,117,118,119,120,121,122,123,124,125,126,127,128,129,130,131,132,133,134,135,136,137,138,139,140,141,142,143,144,145,146,147,148,149,150,151,152,153,154,155,156,157,158,159,160,161,162,163,164,165,166,167,168,169,170,171,172,173,174,175,176,177,178,179,180,181,182,183,184,185,186,187,188,189,190,191,192,193,194,195,196,197,198,199,200,201,202] (fun x=>[(10,.pt (.one (.int .i64 (.ofNat x.1))))]) (fun x=>[]) (fun x=>[]) (fun x=>P - x.1) ⟨0,Nat.zero_le _⟩ ?_ ?_ ?_ ?_);(·exact le_mkP wScR_1 wScR_1 wScR_1 wScR_1);(·(cbv;try rfl));(·simp);(rintro ⟨k,hk⟩ mm hmm))
  | ((with_reducible refine go_loopk (σ:={n:Nat // n≤N}) [14,15,16,17,18,19,58,59,60,61,62,63,64,65,66,67,68,69,70,71,72,73,74,75,76,77,78,79,80,81,82,83,84,85,86,87,88,89,90,91,92,93,94,95,96,97,98,99,100,101,102,103,104,105,106,107,108,109,110,111,112,113,114,115,116,117,118,119,120,121,122,123,124,125,126,127,128,129,130,131,132,133,134,135,136,137,138,139,140,141,142,143,144,145,146,147,148,149,150,151,152,153,154,155,156,157,158,159,160,161,162,163,164,165,166,167,168,169,170,171,172,173,174,175,176,177,178,179,180,181,182,183,184,185,186] (fun x=>[(13,.pt (.one (.int .i64 (.ofNat x.1))))]) (fun x=>[]) (fun x=>[(0,⟨nn k,1,fun j=>[.bool (wn k x.1 j)]⟩),(1,⟨nn k,1,fun j=>[.bool (vn k x.1 j)]⟩)]) (fun x=>N - x.1) ⟨0,Nat.zero_le _⟩ ?_ ?_ ?_ ?_);(·exact le_mkP wScR_1 wScR_1 wScR_1 wScR_1);(·(cbv;try rfl));(·simp);(rintro ⟨n,hn⟩ mm hmm))
  | ((with_reducible refine go_loopk (σ:={i:Nat // i≤sl n}) [149,150,151,152,153,154,155,156,157,158,159,160,161,162,163,164,165,166,167,168,169,170,171,172,173,174,175,176,177,178,179,180,181,182,183,184,185,186] (fun x=>[(19,.pt (.one (.int .i64 (.ofNat x.1)))),(17,.pt (.one (.bool (us k n))))]) (fun x=>[]) (fun x=>[(0,⟨nn k,1,fun j=>[.bool (wj k n x.1 j)]⟩),(1,⟨nn k,1,fun j=>[.bool (uj k n x.1 j)]⟩)]) (fun x=>sl n - x.1) ⟨0,Nat.zero_le _⟩ ?_ ?_ ?_ ?_);(·exact le_mkP wScR_1 wScR_1 wScR_1 wScR_1);(·(cbv;try rfl));(·simp);(rintro ⟨i,hi⟩ mm hmm))
  | ((with_reducible refine go_stop (⟨k+1,Nat.succ_le_of_lt ‹_›⟩:{k:Nat // k≤P}) ?_ ?_ ?_ ?_);(·(exact Nat.lt_of_lt_of_eq (show P - (k+1)<P - k by omega) (Eq.symm ‹_›)));(·exact le_mkP wScR_1 wScR_1 wScR_1 wScR_1);(·(cbv;try rfl));(·simp))
  | ((with_reducible refine go_stop (⟨n+1,by have:=hnk k ‹_›;omega⟩:{n:Nat // n≤N}) ?_ ?_ ?_ ?_);(·(exact Nat.lt_of_lt_of_eq (show N - (n+1)<N - n by have:=hnk k ‹_›;omega) (Eq.symm ‹_›)));(·exact le_mkP wScR_1 wScR_1 wScR_1 wScR_1);(·(cbv;try rfl));(·simp))
  | ((with_reducible refine go_stop (⟨i+1,Nat.succ_le_of_lt ‹_›⟩:{i:Nat // i≤sl n}) ?_ ?_ ?_ ?_);(·(exact Nat.lt_of_lt_of_eq (show sl n - (i+1)<sl n - i by omega) (Eq.symm ‹_›)));(·exact le_mkP wScR_1 wScR_1 wScR_1 wScR_1);(·(cbv;try rfl));(·simp))
  | (((with_reducible apply go_callRv (dst:=some 192) (f:=35) (hf:=Tryz.call35));(·intro S;cbv;try rfl);(·intro wc S hbc hxc hrc;exact hSm1 wc _ A.1.1 k _ hxc ‹_› n (by have:=hnk k ‹_›;omega) (hrc 0 _ rfl) rfl)))
  | (((with_reducible apply go_callRv (dst:=some 200) (f:=35) (hf:=Tryz.call35));(·intro S;cbv;try rfl);(·intro wc S hbc hxc hrc;exact hSm2 wc _ A.1.2.1 k _ hxc ‹_› n (by have:=hnk k ‹_›;omega) (hrc 1 _ rfl) rfl)))
  | (((with_reducible apply go_need);(·exact n3 k ‹_› (of_decide_eq_true (p:=eb k=3) ‹_›));(·exact hnq _ (n3 k ‹_› (of_decide_eq_true (p:=eb k=3) ‹_›)))))
  | (((with_reducible apply go_need);(·exact Int.natCast_nonneg _);(·exact hq3 k n i ‹_› (by have:=hnk k ‹_›;omega) ‹_›)))
  | fail)
 all_goals first
  | rfl
  | trace_state
end Go.Proofs.YtaafofmfbcnaaaaGreat
