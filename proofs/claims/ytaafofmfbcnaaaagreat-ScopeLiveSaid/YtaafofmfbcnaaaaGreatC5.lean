/- Texts joined: ScS ScT. No condition. -/
import Derived.Test.YtaafofmfbcnaaaaGreatC2
import Derived.Test.YtaafofmfbcnaaaaGreatFuC
/- Layer 22: a loan is in scope as long as its local is live: the plain law. No condition. -/
namespace Go.Proofs.YtaafofmfbcnaaaaGreat
open Go.RowKit
set_option linter.unusedVariables false
set_option linter.unusedSimpArgs false
theorem sol_selfL {n N nl:Nat} {F T:Nat→Int} {S:Nat→Nat→Bool}:IsSol n N nl F T S (solF n nl F T S):=fun k hk j hj=>by
 unfold solF
 simp only[decide_eq_true_eq]
theorem reg_loanL {F:GFun} (hO:F.Ok) {a k:Nat} (ha:k<(loanPts F (stN F.sn F.bn)).length) (hn:(loanPts F (stN F.sn F.bn)).getD k 0=a) (hw:wholeP (stAt F a).p=true):
 ∀j,j<stN F.sn F.bn→regF F (stAt F a).p.l.toNat j=true→regF F (F.ln+k) j=true:=by
 obtain ⟨⟨g1,g2,g3⟩,hk⟩:=loanPts_ix _ k ha hn
 have haN:a<stN F.sn F.bn:=by
  rcases Nat.lt_or_ge a (stN F.sn F.bn) with h|h
  · exact h
  · exfalso
    have:∀n i,i<(loanPts F n).length→(loanPts F n).getD i 0<n:=fun n=>by
     induction n with
     | zero=>intro i hi;simp[loanPts] at hi
     | succ n ih=>
       intro i hi
       simp only[loanPts] at hi⊢
       by_cases g:i<(loanPts F n).length
       · rw[getD_app _ _ _ g];have:=ih i g;omega
       · obtain ⟨j,rfl⟩:∃j,i=(loanPts F n).length+j:=⟨i - (loanPts F n).length,by omega⟩
         rw[getD_app2]
         rw[List.length_append] at hi
         split at hi
         · rename_i q
           simp only[List.length_cons,List.length_nil] at hi
           have:j=0:=by omega
           subst this
           rw[if_pos q];simp
         · simp only[List.length_nil] at hi;omega
    have:=this _ k ha
    omega
 have hm:(⟨.ofNat (F.ln+(loanPts F a).length),(stAt F a).p.l,.ofNat a,2⟩:KCon)∈conN F a:=by
  unfold conN
  rw[if_pos ⟨g1,g2⟩]
  unfold ofL
  rw[if_pos (show (stAt F a).p.whole=true from hw),if_pos (by rw[g3];rfl)]
  exact List.mem_cons_self
 have hm2:∀n,a<n→(⟨.ofNat (F.ln+(loanPts F a).length),(stAt F a).p.l,.ofNat a,2⟩:KCon)∈conTo F n:=fun n=>by
  induction n with
  | zero=>intro h;omega
  | succ n ih=>
    intro h
    simp only[conTo,List.mem_append]
    by_cases g:a<n
    · exact .inl (ih g)
    · have:a=n:=by omega
      subst this
      exact .inr hm
 have hm3:=hm2 _ haN
 rw[←allCon_to] at hm3
 obtain ⟨i,hi,he⟩:=List.mem_iff_getElem.1 hm3
 have e:(allCon F).getD i .zero=⟨.ofNat (F.ln+(loanPts F a).length),(stAt F a).p.l,.ofNat a,2⟩:=by
  simp only[List.getD,List.getElem?_eq_getElem hi,Option.getD_some];exact he
 intro j hj h
 have hc:=(@sol_selfL (regN F) (stN F.sn F.bn) (allCon F).length (conF F) (conT F) (owB F)).closed (con_fit hO) i hi j hj
 have eF:conF F i=.ofNat (F.ln+k):=by unfold conF;rw[e,hk]
 have eT:conT F i=(stAt F a).p.l:=by unfold conT;rw[e]
 rw[eF,eT] at hc
 exact hc h
theorem lnL_pos {F:GFun} {a:Nat} (h:0≤lnL F a):wholeP (stAt F a).p=true∧lnL F a=(stAt F a).p.l:=by
 unfold lnL at h⊢
 by_cases g:wholeP (stAt F a).p=true
 · rw[if_pos g] at h⊢;exact ⟨g,rfl⟩
 · rw[if_neg g] at h;omega
theorem lnL_lt {F:GFun} (hO:F.Ok) {k:Nat} (hk:k<lnC F):lnL F (lpN F k)<F.ln:=by
 obtain ⟨g1,g2,g3,g4⟩:=lpN_ok hk
 obtain ⟨g5,g6⟩:=stAt_in g2
 have hn:=hO.nearS _ _ (num_pt g1).1 g5 (by rw[←g6];exact g3)
 have hlp:=hO.lpos
 unfold lnL
 split
 · rw[g6];exact hn.1.2
 · omega
theorem live_in {F:GFun} (hO:F.Ok) {q:Nat} (hq:q<lnC F) (h0:0≤lnL F (lpN F q)) (hr:isRef (F.lk (lnL F (lpN F q)).toNat)=true) {x m:Nat} (hx:x<stN F.sn F.bn) (hs:x=lpN F q∨scI F q x=true) (hk:killB F q x=false) (hm:m<(nextP F (pbN F x) (piN F x)).length)
 (hl:(liveG F).liB (lnL F (lpN F q)).toNat (nmN F x m)=true):scI F q (nmN F x m)=true:=by
 have hm':nmN F x m∈succN F x:=by
  rw[←succN_at hm]
  have hk':m<(succN F x).length:=by rw[succN_len];exact hm
  simp only[List.getD,List.getElem?_eq_getElem hk',Option.getD_some]
  exact List.getElem_mem hk'
 have hlt:=succN_lt hO hx _ hm'
 have hln:=lnL_lt hO hq
 obtain ⟨hw,he⟩:=lnL_pos h0
 have hreg:regF F (lnL F (lpN F q)).toNat (nmN F x m)=true:=by
  unfold regF solF
  simp only[decide_eq_true_eq]
  refine ⟨(lnL F (lpN F q)).toNat,by unfold regN;omega,.refl _,?_⟩
  unfold owB
  rw[decide_eq_true (show (lnL F (lpN F q)).toNat<F.ln by omega),hl,show isRefK (F.lk (lnL F (lpN F q)).toNat)=true from hr];rfl
 have hR:(wyF F q).R x (nmN F x m):=by
  refine ⟨hk,hm',?_⟩
  show regF F (q+F.ln) _=true
  rw[Nat.add_comm]
  exact reg_loanL hO (a:=lpN F q) (k:=q) hq rfl hw _ hlt (by rw[←he];exact hreg)
 rcases hs with rfl|h
 · exact WyG.in0 (G:=wyF F q) hR
 · exact WyG.in1 (G:=wyF F q) h hR
theorem live_bit {F:GFun} (hO:F.Ok) {ar:BinOp→IntKind→Int→Int→Int} (har:ar=rAr) {l:Int} (h0:0≤l) (h1:l<F.ln) (j:Nat):decide (ar .and .u32 (ar .shr .u32 (.ofNat (liM F j)) l) 1=0)= !(liveG F).liB l.toNat j:=by
 have hl:=hO.ln16
 have e:l=.ofNat l.toNat:=(Int.toNat_of_nonneg h0).symm
 rw[e]
 unfold liM
 rw[bit_is har (by omega) (by omega)]
 show _= !(liveG F).liB l.toNat j
 cases (liveG F).liB l.toNat j<;>rfl
end Go.Proofs.YtaafofmfbcnaaaaGreat
/- ScopeLive, the walk. No condition. -/
namespace Go.Proofs.YtaafofmfbcnaaaaGreat
open Go.RowKit
set_option linter.unusedVariables false
set_option linter.unusedSimpArgs false
theorem wScT_4 {p:Prop} (h:p:=by (first|(cbv;(try simp only[true_and,and_true]);(try ((repeat' apply And.intro)<;>(first|trivial|rfl|exact RowLe.rfl' _|decide|(rw[wrap_nat har _ (by omega)];done)|((rw[wrap_nat har _ (by have hlt2:i<n:=‹_›;omega)]))|fail)));done)|fail)):Pf p:=⟨h⟩
set_option maxRecDepth 100000 in
set_option maxHeartbeats 32000000 in
theorem scLiveL (F:GFun) (w:World) (hF:F.At w) (hK:F.Ty8) (hD:F.Fd) (kk:Int) (a:Option Addr) (n cap:Nat) (f:Nat→Int) (hn0:n≤maxLen) (hA:RowAt w a n 1 (fun i=>[.int .i64 (f i)])):
 Calls Tryz.prog 9 #[F.val,.int .i64 kk,.slice a n cap] w (Ret w (.bool true)):=by
 have hXC:=funC_ok (cap:=cap) hF hA
 have hn1:n≤9223372036854775807:=Nat.le_trans hn0 (by decide)
 have h1 (wc:World) (hk:KB ⟨w,[]⟩ wc):=fit22C F wc (hF.later hk) hK
 by_cases hO:fit22B F=true
 case neg=>
  have hq:fit22B F=false:=by simpa using hO
  rw[hq] at h1
  clear hK hO hA hD hq
  obtain ⟨pa,un,lA,ln,lc,lk,lt,bA,bn,bc,sA,sn,sc,s,jA,jn,jc,ja,jk,jo,jf,jx,je,jd⟩:=F
  obtain ⟨hX,hl,hb,hs,hj⟩:=hF
  simp only at hl hb hs hj
  try simp only at h1
  refine go_start (args:=[.pt (.agg (GFun.dat ⟨pa,un,lA,ln,lc,lk,lt,bA,bn,bc,sA,sn,sc,s,jA,jn,jc,ja,jk,jo,jf,jx,je,jd⟩)),.pt (.one (.int .i64 kk)),.pt (.one (.xs 4 0))]) (c:=(funC ⟨pa,un,lA,ln,lc,lk,lt,bA,bn,bc,sA,sn,sc,s,jA,jn,jc,ja,jk,jo,jf,jx,je,jd⟩ a n cap f)) Tryz.func9 rfl hXC rfl rfl ?_
  obtain ⟨nd,hnd,nt,hnt,ar,har,cm,hcm,mx,hmx,mn,hmn,ar01,ar12,zpl,hzpl,zjn,hzjn,zup,hzup,zmi,hzmi,zdp,hzdp,hT⟩:=t0_all
  repeat' (first
   | refine go1 ?_|refine gobt ?_|refine gobn ?_|refine go3 (fun hlt=>?_) (fun hge=>?_)|refine go2 (fun h=>?_) (fun h=>?_)|exact go0|refine god ?_|refine gof ?_|refine gob ?_|(with_reducible refine fork_cons ?_ ?_)
   | ((with_reducible apply go_call (f:=50) (hf:=Tryz.call50));(·(cbv;try rfl));(·intro wc hbc hxc;exact alive22C wc))
   | ((with_reducible apply go_callq (f:=50) (hf:=Tryz.call50));(·(cbv;try rfl));(·intro wc hbc hxc;exact alive22C wc))
   | ((with_reducible apply go_call (f:=51) (hf:=Tryz.call51));(·(cbv;try rfl));(·intro wc hbc hxc;exact h1 wc hbc))
   | ((with_reducible apply go_callq (f:=51) (hf:=Tryz.call51));(·(cbv;try rfl));(·intro wc hbc hxc;exact h1 wc hbc))
   | fail)
  all_goals rfl
 rw[hO] at h1
 have hO:=fit22_ok hO
 by_cases hg:200<n
 case pos=>
  clear hK hO hA hD
  obtain ⟨pa,un,lA,ln,lc,lk,lt,bA,bn,bc,sA,sn,sc,s,jA,jn,jc,ja,jk,jo,jf,jx,je,jd⟩:=F
  obtain ⟨hX,hl,hb,hs,hj⟩:=hF
  simp only at hl hb hs hj
  try simp only at h1
  refine go_start (args:=[.pt (.agg (GFun.dat ⟨pa,un,lA,ln,lc,lk,lt,bA,bn,bc,sA,sn,sc,s,jA,jn,jc,ja,jk,jo,jf,jx,je,jd⟩)),.pt (.one (.int .i64 kk)),.pt (.one (.xs 4 0))]) (c:=(funC ⟨pa,un,lA,ln,lc,lk,lt,bA,bn,bc,sA,sn,sc,s,jA,jn,jc,ja,jk,jo,jf,jx,je,jd⟩ a n cap f)) Tryz.func9 rfl hXC rfl rfl ?_
  obtain ⟨nd,hnd,nt,hnt,ar,har,cm,hcm,mx,hmx,mn,hmn,ar01,ar12,zpl,hzpl,zjn,hzjn,zup,hzup,zmi,hzmi,zdp,hzdp,hT⟩:=t0_all
  have c1:cm .gtr (.ofNat n) 200=true:=by rw[hcm];exact decide_eq_true (show (200:Int)<(n:Int) by omega)
  repeat' (first
   | refine go1 ?_|refine gobt ?_|refine gobn ?_|refine go3 (fun hlt=>?_) (fun hge=>?_)|refine go2 (fun h=>?_) (fun h=>?_)|exact go0|refine god ?_|refine gof ?_|refine gob ?_|(with_reducible refine fork_cons ?_ ?_)
   | ((with_reducible apply go_call (f:=50) (hf:=Tryz.call50));(·(cbv;try rfl));(·intro wc hbc hxc;exact alive22C wc))
   | ((with_reducible apply go_callq (f:=50) (hf:=Tryz.call50));(·(cbv;try rfl));(·intro wc hbc hxc;exact alive22C wc))
   | ((with_reducible apply go_call (f:=51) (hf:=Tryz.call51));(·(cbv;try rfl));(·intro wc hbc hxc;exact h1 wc hbc))
   | ((with_reducible apply go_callq (f:=51) (hf:=Tryz.call51));(·(cbv;try rfl));(·intro wc hbc hxc;exact h1 wc hbc))
   | fail)
  all_goals rfl
 by_cases hk0:kk<0
 case pos=>
  clear hK hO hA hD
  obtain ⟨pa,un,lA,ln,lc,lk,lt,bA,bn,bc,sA,sn,sc,s,jA,jn,jc,ja,jk,jo,jf,jx,je,jd⟩:=F
  obtain ⟨hX,hl,hb,hs,hj⟩:=hF
  simp only at hl hb hs hj
  try simp only at h1
  refine go_start (args:=[.pt (.agg (GFun.dat ⟨pa,un,lA,ln,lc,lk,lt,bA,bn,bc,sA,sn,sc,s,jA,jn,jc,ja,jk,jo,jf,jx,je,jd⟩)),.pt (.one (.int .i64 kk)),.pt (.one (.xs 4 0))]) (c:=(funC ⟨pa,un,lA,ln,lc,lk,lt,bA,bn,bc,sA,sn,sc,s,jA,jn,jc,ja,jk,jo,jf,jx,je,jd⟩ a n cap f)) Tryz.func9 rfl hXC rfl rfl ?_
  obtain ⟨nd,hnd,nt,hnt,ar,har,cm,hcm,mx,hmx,mn,hmn,ar01,ar12,zpl,hzpl,zjn,hzjn,zup,hzup,zmi,hzmi,zdp,hzdp,hT⟩:=t0_all
  have c1:cm .gtr (.ofNat n) 200=false:=by rw[hcm];exact decide_eq_false (show ¬(200:Int)<(n:Int) by omega)
  have c2:cm .lss kk 0=true:=by rw[hcm];exact decide_eq_true hk0
  repeat' (first
   | refine go1 ?_|refine gobt ?_|refine gobn ?_|refine go3 (fun hlt=>?_) (fun hge=>?_)|refine go2 (fun h=>?_) (fun h=>?_)|exact go0|refine god ?_|refine gof ?_|refine gob ?_|(with_reducible refine fork_cons ?_ ?_)
   | ((with_reducible apply go_call (f:=50) (hf:=Tryz.call50));(·(cbv;try rfl));(·intro wc hbc hxc;exact alive22C wc))
   | ((with_reducible apply go_callq (f:=50) (hf:=Tryz.call50));(·(cbv;try rfl));(·intro wc hbc hxc;exact alive22C wc))
   | ((with_reducible apply go_call (f:=51) (hf:=Tryz.call51));(·(cbv;try rfl));(·intro wc hbc hxc;exact h1 wc hbc))
   | ((with_reducible apply go_callq (f:=51) (hf:=Tryz.call51));(·(cbv;try rfl));(·intro wc hbc hxc;exact h1 wc hbc))
   | fail)
  all_goals rfl
 have hPt0 (wc:World) (hk:KB ⟨w,[]⟩ wc) {c:Nat→Nat→Row}:=Calls.to (c':=c) (r:=[natR (loanPts F (stN F.sn F.bn))]) ⟨fun _ _=>rfl,trivial⟩ rfl (loanPtsC F wc (hF.later hk) hO.small)
 obtain ⟨lq,hlq⟩:∃f:Nat→Nat,f=fun j=>(loanPts F (stN F.sn F.bn)).getD j 0:=⟨_,rfl⟩
 obtain ⟨P0,hP0⟩:∃P,P=lnC F:=⟨_,rfl⟩
 have hPt (wc:World) (hk:KB ⟨w,[]⟩ wc) {c:Nat→Nat→Row}:Calls Tryz.prog 57 #[F.val] wc (RetR wc c (.pt (.one (.rs 0))) [⟨P0,1,fun j=>[.int .i64 (.ofNat (lq j))]⟩]):=by rw[hP0,hlq];exact hPt0 wc hk
 clear hPt0
 by_cases hk1:(P0:Int)≤kk
 case pos=>
  clear hK hO hA hD hP0 hlq
  obtain ⟨pa,un,lA,ln,lc,lk,lt,bA,bn,bc,sA,sn,sc,s,jA,jn,jc,ja,jk,jo,jf,jx,je,jd⟩:=F
  obtain ⟨hX,hl,hb,hs,hj⟩:=hF
  simp only at hl hb hs hj
  try simp only at h1 hPt
  refine go_start (args:=[.pt (.agg (GFun.dat ⟨pa,un,lA,ln,lc,lk,lt,bA,bn,bc,sA,sn,sc,s,jA,jn,jc,ja,jk,jo,jf,jx,je,jd⟩)),.pt (.one (.int .i64 kk)),.pt (.one (.xs 4 0))]) (c:=(funC ⟨pa,un,lA,ln,lc,lk,lt,bA,bn,bc,sA,sn,sc,s,jA,jn,jc,ja,jk,jo,jf,jx,je,jd⟩ a n cap f)) Tryz.func9 rfl hXC rfl rfl ?_
  obtain ⟨nd,hnd,nt,hnt,ar,har,cm,hcm,mx,hmx,mn,hmn,ar01,ar12,zpl,hzpl,zjn,hzjn,zup,hzup,zmi,hzmi,zdp,hzdp,hT⟩:=t0_all
  have c1:cm .gtr (.ofNat n) 200=false:=by rw[hcm];exact decide_eq_false (show ¬(200:Int)<(n:Int) by omega)
  have c2:cm .lss kk 0=false:=by rw[hcm];exact decide_eq_false hk0
  have c3:cm .geq kk (.ofNat P0)=true:=by rw[hcm];exact decide_eq_true hk1
  repeat' (first
   | refine go1 ?_|refine gobt ?_|refine gobn ?_|refine go3 (fun hlt=>?_) (fun hge=>?_)|refine go2 (fun h=>?_) (fun h=>?_)|exact go0|refine god ?_|refine gof ?_|refine gob ?_|(with_reducible refine fork_cons ?_ ?_)
   | ((with_reducible apply go_call (f:=50) (hf:=Tryz.call50));(·(cbv;try rfl));(·intro wc hbc hxc;exact alive22C wc))
   | ((with_reducible apply go_callq (f:=50) (hf:=Tryz.call50));(·(cbv;try rfl));(·intro wc hbc hxc;exact alive22C wc))
   | ((with_reducible apply go_call (f:=51) (hf:=Tryz.call51));(·(cbv;try rfl));(·intro wc hbc hxc;exact h1 wc hbc))
   | ((with_reducible apply go_callq (f:=51) (hf:=Tryz.call51));(·(cbv;try rfl));(·intro wc hbc hxc;exact h1 wc hbc))
   | ((with_reducible apply go_callR (f:=57) (hf:=Tryz.call57));(·intro S;cbv;try rfl);(·intro wc S hbc hxc hrc;exact hPt wc hbc);(·rfl))
   | fail)
  all_goals rfl
 obtain ⟨q,rfl⟩:∃q:Nat,kk=.ofNat q:=⟨kk.toNat,by simp only[Int.ofNat_eq_natCast];omega⟩
 have hq:q<P0:=by simp only[Int.ofNat_eq_natCast] at hk1;omega
 clear hk0 hk1
 have h40 (wc:World) (hk:KB ⟨w,[]⟩ wc):=livesC F wc (hF.later hk) hO hD
 have h60 (wc:World) (hk:KB ⟨w,[]⟩ wc) (x:Nat) (hx:x<stN F.sn F.bn):=lusesC F wc (hF.later hk) hO hD x hx
 have h7 (wc:World) (hk:KB ⟨w,[]⟩ wc):=sizeC F wc (hF.later hk) hO.small
 have h80 (wc:World) (hk:KB ⟨w,[]⟩ wc) (a:Nat) (ha:a<stN F.sn F.bn):=nextPC F wc (hF.later hk) hO (pbN F a) (piN F a) (num_pt ha).1 (num_pt ha).2.1
 have h100 (wc:World) (hk:KB ⟨w,[]⟩ wc) (b i:Nat) (hb:b<F.bn) (hi:i≤F.sn b):=numberC F wc (hF.later hk) hO b i hb hi
 have h110 (wc:World) (hk:KB ⟨w,[]⟩ wc) (a:Nat) (ha:a<stN F.sn F.bn):=pointNC F wc (hF.later hk) hO.small a ha
 have hKn0 (wc:World) (hk:KB ⟨w,[]⟩ wc):=knownC F wc (hF.later hk) hO hD
 have hN9:=hO.pts
 have hN0:=pts_pos hO
 have hP9:lnC F≤600:=Nat.le_trans (loanPts_len F _) hN9
 have hl16:=hO.ln16
 have hqC:q<lnC F:=hP0▸hq
 have hRf0 (wc:World) (hk:KB ⟨w,[]⟩ wc) (h0:0≤lnL F (lpN F q)):=rRef19C F (lnL F (lpN F q)) wc (hF.later hk) h0 (lnL_lt hO hqC)
 have hlpN0:lpN F q<stN F.sn F.bn:=(lpN_ok hqC).1
 have hin0:∀{ar:BinOp→IntKind→Int→Int→Int},ar=rAr→∀x m,x<stN F.sn F.bn→(x=lpN F q∨scI F q x=true)→killB F q x=false→m<(nextP F (pbN F x) (piN F x)).length→0≤lnL F (lpN F q)→isRef (F.lk (lnL F (lpN F q)).toNat)=true→decide (ar .and .u32 (ar .shr .u32 (.ofNat (liM F (nmN F x m))) (ar .quo .u64 (lnL F (lpN F q)) 0)) 1=0)=false→scI F q (nmN F x m)=true:=fun {ar} har x m hx hs hk hm h0 hr hb=>by
  have hlt:=lnL_lt hO hqC
  rw[quo64 har h0 (by omega),live_bit hO har h0 hlt] at hb
  exact live_in hO hqC h0 hr hx hs hk hm (by simpa using hb)
 obtain ⟨N,hN⟩:∃N,N=stN F.sn F.bn:=⟨_,rfl⟩
 obtain ⟨P,hP⟩:∃P,P=lnC F:=⟨_,rfl⟩
 obtain ⟨lp,hlp⟩:∃f:Nat→Nat,f=lpN F:=⟨_,rfl⟩
 obtain ⟨el,hel⟩:∃f:Nat→Int,f=fun j=>(stAt F (lpN F j)).r.p.l:=⟨_,rfl⟩
 obtain ⟨ed,hed⟩:∃f:Nat→Bool,f=fun j=>(stAt F (lpN F j)).r.p.d:=⟨_,rfl⟩
 obtain ⟨ef,hef⟩:∃f:Nat→Int,f=fun j=>(stAt F (lpN F j)).r.p.f:=⟨_,rfl⟩
 obtain ⟨eb,heb⟩:∃f:Nat→Int,f=fun j=>(stAt F (lpN F j)).r.bo:=⟨_,rfl⟩
 obtain ⟨lo,hlo⟩:∃f:Nat→Int,f=fun j=>lnL F (lpN F j):=⟨_,rfl⟩
 obtain ⟨sI,hsI⟩:∃f:Nat→Nat→Bool,f=scI F:=⟨_,rfl⟩
 obtain ⟨sU,hsU⟩:∃f:Nat→Nat→Bool,f=scU F:=⟨_,rfl⟩
 obtain ⟨rs,hrs⟩:∃f:Nat→Nat→Bool,f=fun j k=>regF F (j+F.ln) k:=⟨_,rfl⟩
 obtain ⟨kb,hkb⟩:∃f:Nat→Nat→Bool,f=killB F:=⟨_,rfl⟩
 obtain ⟨nn,hnn⟩:∃f:Nat→Nat,f=nnN (lnC F) (stN F.sn F.bn):=⟨_,rfl⟩
 obtain ⟨pb,hpb⟩:∃f:Nat→Nat,f=pbN F:=⟨_,rfl⟩
 obtain ⟨pi,hpi⟩:∃f:Nat→Nat,f=piN F:=⟨_,rfl⟩
 obtain ⟨rm,hrm⟩:∃f:Nat→Nat,f=liM F:=⟨_,rfl⟩
 obtain ⟨um,hum⟩:∃f:Nat→Nat,f=umN F:=⟨_,rfl⟩
 obtain ⟨sm,hsm⟩:∃f:Nat→Int,f=smN F:=⟨_,rfl⟩
 obtain ⟨nl,hnl⟩:∃f:Nat→Nat,f=fun a=>(nextP F (pbN F a) (piN F a)).length:=⟨_,rfl⟩
 obtain ⟨q1',hq1⟩:∃f:Nat→Nat→Nat,f=fun a k=>((nextP F (pbN F a) (piN F a)).getD k (0,0)).1:=⟨_,rfl⟩
 obtain ⟨q2',hq2⟩:∃f:Nat→Nat→Nat,f=fun a k=>((nextP F (pbN F a) (piN F a)).getD k (0,0)).2:=⟨_,rfl⟩
 obtain ⟨nm,hnm⟩:∃f:Nat→Nat→Nat,f=nmN F:=⟨_,rfl⟩
 have hKn (wc:World) (hk:KB ⟨w,[]⟩ wc):Calls Tryz.prog 52 #[F.val] wc (RetX wc (fun A:XA=>.tup [.one (.val (.slice A.2.1.1 P A.2.1.2)),.one (.val (.slice A.2.2.1.1 P A.2.2.1.2)),.one (.val (.slice A.2.2.2.1.1 P A.2.2.2.1.2)),.one (.val (.slice A.1.2.2.2.2.1 P A.1.2.2.2.2.2)),.one (.val (.slice A.2.2.2.2.1 P A.2.2.2.2.2)),.one (.lit true)]) (fun _=>[]) (xFam P N nn sI sU rs kb (fun j=>[.int .i64 (.ofNat (lp j)),.int .i64 (el j),.bool (ed j),.int .u8 (ef j),.int .u8 (eb j),.int .i64 (lo j)]))):=by
  subst hP hN hlp hel hed hef heb hlo hsI hsU hrs hkb hnn;exact knownX (fun _=>rfl) (hKn0 wc hk)
 have h4 {c:Nat→Nat→Row} (wc:World) (hk:KB ⟨w,[]⟩ wc):Calls Tryz.prog 58 #[F.val] wc (RetR wc c (.tup [.one (.rs 0),.one (.int .i64 0)]) [⟨N,1,fun j=>[.int .u32 (.ofNat (rm j))]⟩]):=by
  rw[hrm,hN];exact Calls.to ⟨fun _ _=>rfl,trivial⟩ rfl (h40 wc hk)
 have h6 (wc:World) (hk:KB ⟨w,[]⟩ wc) (x:Nat) (hx:x<N):Calls Tryz.prog 54 #[F.val,.int .i64 (.ofNat x)] wc (Ret wc (.tuple #[.int .u32 (.ofNat (um x)),.int .i64 (sm x),.int .i64 0])):=by
  rw[hum,hsm];exact h60 wc hk x (hN▸hx)
 have h8 {c:Nat→Nat→Row} (wc:World) (hk:KB ⟨w,[]⟩ wc) (x:Nat) (hx:x<N):Calls Tryz.prog 17 #[F.val,.agg #[.int .i64 (.ofNat (pb x)),.int .i64 (.ofNat (pi x))]] wc (RetR wc c (.tup [.one (.rs 0),.one (.int .i64 0)]) [⟨nl x,2,fun j=>[.int .i64 (.ofNat (q1' x j)),.int .i64 (.ofNat (q2' x j))]⟩]):=by
  rw[hpb,hpi,hnl,hq1,hq2];exact Calls.to ⟨fun _ _=>rfl,trivial⟩ rfl (h80 wc hk x (hN▸hx))
 have h11 (wc:World) (hk:KB ⟨w,[]⟩ wc) (a:Nat) (ha:a<N):Calls Tryz.prog 53 #[F.val,.int .i64 (.ofNat a)] wc (Ret wc (.agg #[.int .i64 (.ofNat (pb a)),.int .i64 (.ofNat (pi a))])):=by
  rw[hpb,hpi];exact h110 wc hk a (hN▸ha)
 have h10 (wc:World) (hk:KB ⟨w,[]⟩ wc) (a k:Nat) (ha:a<N) (hk2:k<nl a):Calls Tryz.prog 15 #[F.val,.agg #[.int .i64 (.ofNat (q1' a k)),.int .i64 (.ofNat (q2' a k))]] wc (Ret wc (.tuple #[.int .i64 (.ofNat (nm a k)),.int .i64 0])):=by
  rw[hnl] at hk2
  have q:=nmN_ok hO (hN▸ha) hk2
  rw[hq1,hq2,hnm];exact h100 wc hk _ _ q.1 q.2.1
 have nl2:∀a,nl a≤2:=fun a=>by rw[hnl];exact nextP_len
 have nmL:∀a k,a<N→k<nl a→nm a k<N:=fun a k ha hk=>by
  rw[hnl] at hk;rw[hnm,hN];exact (nmN_ok hO (hN▸ha) hk).2.2.1
 have hnk:∀k,k<P→nn k=N:=fun k hk=>by rw[hP] at hk;rw[hnn,hN];exact nnN_lt hk
 obtain ⟨rb,hrb⟩:∃b,b=isRef (F.lk (lnL F (lpN F q)).toNat):=⟨_,rfl⟩
 have hRf (wc:World) (hk:KB ⟨w,[]⟩ wc) (h0:0≤lo q):Calls Tryz.prog 59 #[F.val,.int .i64 (lo q)] wc (Ret wc (.bool rb)):=by rw[hrb];subst hlo;exact hRf0 wc hk h0
 have hlpN:lp q<N:=by rw[hlp,hN];exact hlpN0
 have hlo9:lo q<1000:=by have:=lnL_lt hO hqC;subst hlo;show lnL F (lpN F q)<1000;omega
 have hin:∀{ar:BinOp→IntKind→Int→Int→Int},ar=rAr→∀x m,x<N→(x=lp q∨sI q x=true)→kb q x=false→m<nl x→0≤lo q→rb=true→decide (ar .and .u32 (ar .shr .u32 (.ofNat (rm (nm x m))) (ar .quo .u64 (lo q) 0)) 1=0)=false→sI q (nm x m)=true:=by
  subst hN hlp hsI hkb hnl hlo hrb hrm hnm;exact hin0
 rw[←hN] at h7 hN9 hN0
 rw[←hP] at hP9 hP0
 subst hP0
 clear hrm hum hsm hnl hq1 hq2 hnm hpb hpi h40 h60 h80 h100 h110 hN hlp hel hed hef heb hlo hsI hsU hrs hkb hnn hO hK hA hD hKn0 hin0 hlpN0 hRf0 hrb hqC hlq
 obtain ⟨pa,un,lA,ln,lc,lk,lt,bA,bn,bc,sA,sn,sc,s,jA,jn,jc,ja,jk,jo,jf,jx,je,jd⟩:=F
 obtain ⟨hX,hl,hb,hs,hj⟩:=hF
 simp only at hl hb hs hj
 try simp only at h4 h6 h7 h8 h10 h11 hKn hRf hPt hl16
 refine go_start (args:=[.pt (.agg (GFun.dat ⟨pa,un,lA,ln,lc,lk,lt,bA,bn,bc,sA,sn,sc,s,jA,jn,jc,ja,jk,jo,jf,jx,je,jd⟩)),.pt (.one (.int .i64 (.ofNat q))),.pt (.one (.xs 4 0))]) (c:=(funC ⟨pa,un,lA,ln,lc,lk,lt,bA,bn,bc,sA,sn,sc,s,jA,jn,jc,ja,jk,jo,jf,jx,je,jd⟩ a n cap f)) Tryz.func9 rfl hXC rfl rfl ?_
 obtain ⟨nd,hnd,nt,hnt,ar,har,cm,hcm,mx,hmx,mn,hmn,ar01,ar12,zpl,hzpl,zjn,hzjn,zup,hzup,zmi,hzmi,zdp,hzdp,hT⟩:=t0_all
 refine go_fam 5 rfl rfl trivial (funC_qb _ a n cap f) ?_
 have hin:=@hin ar har
 have c0:cm .gtr (.ofNat n) 200=false:=by rw[hcm];exact decide_eq_false (show ¬(200:Int)<(n:Int) by omega)
 have hnz:∀{x},decide (Int.ofNat (nl x)=0)=false→0<nl x:=fun {x} g=>by
  have:=of_decide_eq_false g
  rcases Nat.eq_zero_or_pos (nl x) with h|h
  · exact absurd (congrArg Int.ofNat h) this
  · exact h
 obtain ⟨zr,hzr⟩:∃g:Int→Nat→Nat,g=fun m d=>m.toNat % d:=⟨_,rfl⟩
 have hzl:∀m {x},decide (Int.ofNat (nl x)=0)=false→zr m (nl x)<nl x:=fun m {x} g=>by
  rw[hzr];exact Nat.mod_lt _ (hnz g)
 have hfi:∀{i},cm .lss (f i) 0=false→0≤f i:=fun {i} h=>by
  rw[hcm] at h
  exact Int.not_lt.1 (of_decide_eq_false h)
 have hgN:∀{x} m,x<N→decide (Int.ofNat (nl x)=0)=false→cm .geq (.ofNat (nm x (zr m (nl x)))) (.ofNat N)=false:=fun {x} m h g=>by
  rw[hcm];exact decide_eq_false (Int.not_le.2 (Int.ofNat_lt.2 (nmL _ _ h (hzl m g))))
 have hg0:∀k:Nat,cm .lss (.ofNat k) 0=false:=fun k=>by rw[hcm];exact decide_eq_false (Int.not_lt.2 (Int.natCast_nonneg k))
 have hnq:∀X:Int,0≤X→X<X.toNat+1:=fun X h=>by omega
 have hm0:∀i,0≤mx 0 (f i):=fun i=>by
  rw[hmx];unfold rMx;split<;>omega
 have c1:cm .lss (.ofNat q) 0=false:=hg0 q
 have c2:cm .geq (.ofNat q) (.ofNat P0)=false:=by rw[hcm];exact decide_eq_false (Int.not_le.2 (Int.ofNat_lt.2 hq))
 have hl0:cm .lss (lo q) 0=false→0≤lo q:=fun h=>by
  rw[hcm] at h
  exact Int.not_lt.1 (of_decide_eq_false h)
 have n3:cm .lss (lo q) 0=false→0≤ar .quo .u64 (lo q) 0:=fun h=>by rw[quo64 har (hl0 h) hlo9];exact hl0 h
 have hc14:∀A,∀q i j,q<14→j<(chiG (chiG (funC ⟨pa,un,lA,ln,lc,lk,lt,bA,bn,bc,sA,sn,sc,s,jA,jn,jc,ja,jk,jo,jf,jx,je,jd⟩ a n cap f) 5 NoFam) 5 (xFam P0 N nn sI sU rs kb (fun j=>[.int .i64 (.ofNat (lp j)),.int .i64 (el j),.bool (ed j),.int .u8 (ef j),.int .u8 (eb j),.int .i64 (lo j)]) A) q i).n→qbL 14 ((chiG (chiG (funC ⟨pa,un,lA,ln,lc,lk,lt,bA,bn,bc,sA,sn,sc,s,jA,jn,jc,ja,jk,jo,jf,jx,je,jd⟩ a n cap f) 5 NoFam) 5 (xFam P0 N nn sI sU rs kb (fun j=>[.int .i64 (.ofNat (lp j)),.int .i64 (el j),.bool (ed j),.int .u8 (ef j),.int .u8 (eb j),.int .i64 (lo j)]) A) q i).el j)=true:=fun A=>fam_upN 9 (fam_qb (funC_qb _ a n cap f)) (fun p i j hj=>xFam_plain (fun _=>rfl) p i j hj)
 have hc15:=fun A b bap=>alG_qb (K:=14) (n:=P0) (el:=fun j=>[.xs 5 j]) (a:=b) (cap:=bap) (hc14 A) (fun _=>rfl)
 have hc16:=fun A b bap d dap=>alG_qb (K:=15) (n:=P0) (el:=fun j=>[.xs 8 j]) (a:=d) (cap:=dap) (hc15 A b bap) (fun _=>rfl)
 repeat' (first
  | refine gov ?_
  | (((with_reducible apply go_takeR 0 (zr (mx 0 (f i)) (nl x)) (m:=mx 0 (f i)));(·rfl);(·kernel_rfl);(·rfl);(·rfl);(·kernel_rfl);(·kernel_rfl);(·kernel_rfl);(·(cbv;try rfl));(·(cbv;try rfl));(·(cbv;try rfl));(·exact hm0 i);(·exact hnz ‹_›);(·rw[hzr])))
  | (((with_reducible apply go_takeR 1 (zr (mx 0 (f i)) (nl x)) (m:=mx 0 (f i)));(·rfl);(·kernel_rfl);(·rfl);(·rfl);(·kernel_rfl);(·kernel_rfl);(·kernel_rfl);(·(cbv;try rfl));(·(cbv;try rfl));(·(cbv;try rfl));(·exact hm0 i);(·exact hnz ‹_›);(·rw[hzr])))
  | refine go1 ?_|refine gobt ?_|refine gobn ?_|refine go3 (fun hlt=>?_) (fun hge=>?_)|refine go2 (fun h=>?_) (fun h=>?_)|exact go0
  | ((with_reducible apply go_drawQ [17,15]);(·rfl);(·rfl);(·kernel_rfl);(·kernel_rfl))
  | refine gode ?_|refine gof ?_|refine gob ?_|(with_reducible refine fork_cons ?_ ?_)
  | ((first|with_reducible apply go_fin_rowsP hT|with_reducible apply go_ret_rowsP hT);(·(cbv;try rfl));(·(cbv;try rfl));(·exact wScT_4);(·exact wScT_4);(·rfl))
  | ((with_reducible apply go_call (f:=50) (hf:=Tryz.call50));(·(cbv;try rfl));(·intro wc hbc hxc;exact alive22C wc))
  | ((with_reducible apply go_callq (f:=50) (hf:=Tryz.call50));(·(cbv;try rfl));(·intro wc hbc hxc;exact alive22C wc))
  | ((with_reducible apply go_call (f:=51) (hf:=Tryz.call51));(·(cbv;try rfl));(·intro wc hbc hxc;exact h1 wc hbc))
  | ((with_reducible apply go_callq (f:=51) (hf:=Tryz.call51));(·(cbv;try rfl));(·intro wc hbc hxc;exact h1 wc hbc))
  | ((with_reducible apply go_callR (f:=57) (hf:=Tryz.call57));(·intro S;cbv;try rfl);(·intro wc S hbc hxc hrc;exact hPt wc hbc);(·rfl))
  | (((with_reducible apply go_callX 5 (f:=52) (hf:=Tryz.call52));(·intro S;cbv;try rfl);(·intro wc S hbc hxc hrc;exact hKn wc hbc);(·intro A;rfl);(·intro A;rfl);(·rfl);(·rfl);(·exact ⟨fun _ _=>rfl,trivial⟩);(·exact fam_qb (funC_qb _ a n cap f));(·intro A;trivial);(·intro A p i j hj;exact xFam_plain (fun _=>rfl) p i j hj);(intro A hnew;refine go_rowX 14 11 0 (a:=A.2.2.1.1) (n:=P0) (cap:=A.2.2.1.2) (el0:=fun j=>[.val (.slice (A.1.1 j).1 N (A.1.1 j).2)]) (el:=fun j=>[.xs 5 j]) rfl (fun j hj vs hv=>seen_xs ⟨rfl,hnk j hj,rfl⟩ vs hv) rfl rfl ⟨fun _ _=>rfl,trivial⟩ (hc14 A) ?_;refine go_rowX 15 13 0 (a:=A.2.2.2.2.1) (n:=P0) (cap:=A.2.2.2.2.2) (el0:=fun j=>[.val (.slice (A.1.2.2.2.1 j).1 N (A.1.2.2.2.1 j).2)]) (el:=fun j=>[.xs 8 j]) rfl (fun j hj vs hv=>seen_xs ⟨rfl,hnk j hj,rfl⟩ vs hv) rfl rfl ⟨fun _ _=>rfl,trivial⟩ (hc15 A _ _) ?_;refine go_slotT 53 0 10 0 rfl rfl rfl ?_;refine go_slotT 53 1 14 0 rfl rfl rfl ?_;refine go_slotT 53 4 15 0 rfl rfl rfl ?_;refine go_boxT 3 16 rfl rfl rfl rfl rfl ⟨fun _ _=>rfl,trivial⟩ rfl (hc16 A _ _ _ _) alG_n (fun b0 _=>?_))))
  | ((with_reducible apply go_callR (f:=58) (hf:=Tryz.call58));(·intro S;cbv;try rfl);(·intro wc S hbc hxc hrc;exact h4 wc hbc);(·rfl))
  | ((with_reducible apply go_call (f:=55) (hf:=Tryz.call55));(·(cbv;try rfl));(·intro wc hbc hxc;exact h7 wc hbc))
  | ((with_reducible apply go_callq (f:=55) (hf:=Tryz.call55));(·(cbv;try rfl));(·intro wc hbc hxc;exact h7 wc hbc))
  | ((with_reducible apply go_call (f:=59) (hf:=Tryz.call59));(·(cbv;try rfl));(·intro wc hbc hxc;exact hRf wc hbc (hl0 ‹_›)))
  | ((with_reducible apply go_callq (f:=59) (hf:=Tryz.call59));(·(cbv;try rfl));(·intro wc hbc hxc;exact hRf wc hbc (hl0 ‹_›)))
  | ((with_reducible apply go_call (f:=54) (hf:=Tryz.call54));(·(cbv;try rfl));(·intro wc hbc hxc;exact h6 wc hbc x hW.1))
  | ((with_reducible apply go_callq (f:=54) (hf:=Tryz.call54));(·(cbv;try rfl));(·intro wc hbc hxc;exact h6 wc hbc x hW.1))
  | ((with_reducible apply go_call (f:=53) (hf:=Tryz.call53));(·(cbv;try rfl));(·intro wc hbc hxc;exact h11 wc hbc x hW.1))
  | ((with_reducible apply go_callq (f:=53) (hf:=Tryz.call53));(·(cbv;try rfl));(·intro wc hbc hxc;exact h11 wc hbc x hW.1))
  | ((with_reducible apply go_callR (f:=17) (hf:=Tryz.call17));(·intro S;cbv;try rfl);(·intro wc S hbc hxc hrc;exact h8 wc hbc x hW.1);(·rfl))
  | ((with_reducible refine go_loopk (σ:={x:Nat×Nat // x.1≤n∧x.2<N∧(x.2=lp q∨sI q x.2=true)}) [19,20,21,22,23,24,25,95,96,97,98,99,100,101,102,103,104,105,106,107,108,109,110,111,112,113,114,115,116,117,118,119,120,121,122,123,124,125,126,127,128,129,130,131,132,133,134,135,136,137,138,139,140,141,142,143,144,145,146,147,148,149,150,151,152,153,154,155,156,157,158,159,160,161,162,163,164,165,166,167,168,169,170,171,172,173,174,175,176,177,178,179,180,181,182,183,184,185,186,187,188,189,190,191,192] (fun x=>[(18,.pt (.one (.int .i64 (.ofNat x.1.1)))),(17,.pt (.one (.int .i64 (.ofNat x.1.2))))]) (fun x=>[]) (fun x=>[]) (fun x=>n - x.1.1) ⟨(0,lp q),Nat.zero_le _,hlpN,.inl rfl⟩ ?_ ?_ ?_ ?_);(·exact le_mkP wScT_4 wScT_4 wScT_4 wScT_4);(·(cbv;try rfl));(·simp);(rintro ⟨⟨i,x⟩,hi,hW⟩ mm hmm))
  | (((with_reducible apply go_need);(·exact n3 ‹_›);(·exact hnq _ (n3 ‹_›))))
  | (((with_reducible apply go_need);(·exact Int.natCast_nonneg _);(·first|exact Int.ofNat_lt.2 hq|exact Int.ofNat_lt.2 hW.1|(rw[hnk q hq];exact Int.ofNat_lt.2 hW.1)|exact Int.ofNat_lt.2 (nmL _ _ hW.1 (hzl _ ‹_›))|(rw[hnk q hq];exact Int.ofNat_lt.2 (nmL _ _ hW.1 (hzl _ ‹_›)))|exact Int.ofNat_lt.2 (hzl _ ‹_›)|exact Int.ofNat_lt.2 ‹_›)))
  | ((with_reducible apply go_call (f:=15) (hf:=Tryz.call15));(·(cbv;try rfl));(·intro wc hbc hxc;exact h10 wc hbc x _ hW.1 (hzl _ ‹_›)))
  | ((with_reducible apply go_callq (f:=15) (hf:=Tryz.call15));(·(cbv;try rfl));(·intro wc hbc hxc;exact h10 wc hbc x _ hW.1 (hzl _ ‹_›)))
  | ((with_reducible refine go_stop (⟨(i+1,nm x (zr (mx 0 (f i)) (nl x))),Nat.succ_le_of_lt ‹_›,nmL _ _ hW.1 (hzl _ ‹_›),.inr ‹_›⟩:{x:Nat×Nat // x.1≤n∧x.2<N∧(x.2=lp q∨sI q x.2=true)}) ?_ ?_ ?_ ?_);(·subst hmm;(have hlt2:i<n:=‹_›;show n - (i+1)<n - i;omega));(·exact le_mkP wScT_4 wScT_4 wScT_4 wScT_4);(·(cbv;try rfl));(·simp))
  | fail)
 all_goals
  first
   | rfl
   | exact absurd ((hg0 _).symm.trans ‹_›) (by decide)
   | exact absurd ((hgN (mx 0 (f i)) hW.1 ‹_›).symm.trans ‹_›) (by decide)
   | exact absurd ((hin x (zr (mx 0 (f i)) (nl x)) hW.1 hW.2 ‹_› (hzl _ ‹_›) (hl0 ‹_›) ‹_› ‹_›).symm.trans ‹_›) (by decide)
   | trace_state
end Go.Proofs.YtaafofmfbcnaaaaGreat
