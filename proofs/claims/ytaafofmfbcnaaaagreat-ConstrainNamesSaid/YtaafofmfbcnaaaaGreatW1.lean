/- Texts joined: SmA SmB. No condition. -/
import Derived.Test.YtaafofmfbcnaaaaGreatN6
import Derived.Test.YtaafofmfbcnaaaaGreatGrC
import Derived.Test.YtaafofmfbcnaaaaGreatSxEb
import Derived.Test.YtaafofmfbcnaaaaGreatM5
import Derived.Test.YtaafofmfbcnaaaaGreatN5
/- Rows of masks that are the same. No condition. -/
namespace Go.Proofs.YtaafofmfbcnaaaaGreat
set_option maxRecDepth 100000
open Go.RowKit
set_option linter.unusedVariables false
set_option linter.unusedSimpArgs false
def TwoM (a:Option Addr) (n cap:Nat) (f:Nat→List SC) (a':Option Addr) (n' cap':Nat) (g:Nat→List SC):Nat→Nat→Row
 | 0,_=>⟨a,n,cap,1,f⟩
 | _,_=>⟨a',n',cap',1,g⟩
theorem RowIs.twoM {c c2:Nat→Nat→Row} {w:World} {R R':ORow} {v v':Value} (h:RowIs c w R v) (h':RowIs c2 w R' v') (hp:∀j,j<R.n→plainL (R.el j)=true) (hp':∀j,j<R'.n→plainL (R'.el j)=true) (h1:R.es=1) (h2:R'.es=1):
 ∃a cap a' cap',v=.slice a R.n cap∧v'=.slice a' R'.n cap'∧XOk ⟨[],TwoM a R.n cap R.el a' R'.n cap' R'.el,[]⟩ ⟨w,[]⟩:=by
 obtain ⟨a,cap,rfl,hX⟩:=h.one hp
 obtain ⟨a',cap',rfl,hX'⟩:=h'.one hp'
 refine ⟨a,cap,a',cap',rfl,rfl,fun q i j hj=>?_⟩
 match q,hj with
 | 0,hj=>
   obtain ⟨b,p,g1,g2,g3,vs,g4,g5⟩:=hX 0 0 j hj
   rw[h1] at g5
   exact ⟨b,p,g1,g2,g3,vs,plainL_is (hp j hj) g4,g5⟩
 | q+1,hj=>
   obtain ⟨b,p,g1,g2,g3,vs,g4,g5⟩:=hX' 0 0 j hj
   rw[h2] at g5
   exact ⟨b,p,g1,g2,g3,vs,plainL_is (hp' j hj) g4,g5⟩
theorem fchk_ne6 (F:GFun):fchkV F≠6:=by
 unfold fchkV
 split
 · decide
 · split
   · decide
   · split<;>decide
end Go.Proofs.YtaafofmfbcnaaaaGreat
/- Sets that are the same, lists of sets that are the same. No condition. -/
namespace Go.Proofs.YtaafofmfbcnaaaaGreat
set_option maxRecDepth 100000
open Go.RowKit
set_option linter.unusedVariables false
set_option linter.unusedSimpArgs false
abbrev AdF:=Nat→Option Addr×Nat
def upA (A:AdF) (i:Nat) (y:Option Addr×Nat):AdF:=fun j=>if j=i then y else A j
section
variable {P:Program} {Q:Exit→Act→World→Prop} {c:Nat→Nat→Row} {w0:Base}
theorem go_famZ (K:Nat) {G:Nat→Nat→Row} (hG:∀p i,(G p i).n=0) {k:List Item} {st:St} (hk:noA k=true) (hn:st.qb K=true) (hr:qbR K st.r) (hc:∀q i j,q<K→j<(c q i).n→qbL K ((c q i).el j)=true) (h:Goes P Q (chiG c K G) w0 k st):Goes P Q c w0 k st:=⟨fun e s a w hce F=>by
 subst hce
 rw[KQ_chi hk]
 exact h.run ⟨e.rho,chiG e.chi K G,e.sg⟩ s a w rfl (F.chi (K:=K) (c':=chiG e.chi K G) (fun q i hl=>(chiG_lt hl).symm) hn hr hc (fun q i j hl hj=>by rw[chiG_ge hl,hG] at hj;exact absurd hj (Nat.not_lt_zero _)) (fun q i j b p hl hj=>by rw[chiG_ge hl,hG] at hj;exact absurd hj (Nat.not_lt_zero _)))⟩
end
theorem RetX.fam {α:Type} {w:World} {x:α→SV} {r:α→List ORow} {G G':α→Nat→Nat→Row} (h:∀A p i j,j<(G' A p i).n→G A p i=G' A p i) {en:Ending} {w':World} (hr:RetX w x r G en w'):RetX w x r G' en w':=by
 obtain ⟨A,v,g,h1,h2,h3,h4,h5⟩:=hr
 refine ⟨A,v,g,h1,h2,h3,h4,⟨fun q i j hj=>?_⟩⟩
 have e:=h A q i j hj
 rw[←e] at hj
 rw[←e]
 exact h5.ok q i j hj
section
variable {P:Program} {T:Tb}
theorem go_ret_famsN {α:Type} (hT:TOk P T) {w:World} {Y:Inhabited Exs} {fn:Func} {st:St} {X:SV} {x:α→SV} {c0:Nat→Nat→Row} {K:Nat} {G:α→Nat→Nat→Row} (A:α) {r:α→List ORow} {sel:List RSrc} (h:resE T (chiG c0 K (G A)) st fn.results.toList=some X) (hs:selV X (x A)=sel) (hx:chkV sel X (x A)) (hr:srcPs st sel (r A)) (hn:ndS sel=true)
 (hG:∀p i j,j<(G A p i).n→plainL ((G A p i).el j)=true) (hN:∀p i,(∃j,j<(G A p i).n)→NewA w (G A p i).a) (hp:plainR (r A)) (hxx:(x A).noX=true):OutOk P (bodyPost P fn (RetX w x r G)) (chiG c0 K (G A)) ⟨w,[]⟩ (.ret st):=
 go_ret_any hT h fun e s a w' v hc F hv=>by
  obtain ⟨g,h1,h2,h3,h4⟩:=ret_rowsG F hc hv hx hr hn
  refine ⟨A,v,g,rfl,h2,h3.to hp,noXV_is hxx h4,⟨fun q i j hj=>?_⟩⟩
  have e1:e.chi (q+K) i=G A q i:=by rw[hc,chiG_ge (by omega),Nat.add_sub_cancel]
  have:=F.ext.ok (q+K) i j (by rw[e1];exact hj)
  rw[e1] at this
  obtain ⟨b,p,f1,f2,_,f4,f5,vs,f6,f7⟩:=this
  refine ⟨b,p,f1,hN q i ⟨j,hj⟩ b p f1,f2,fun u hu hb=>?_,vs,plainL_is (hG q i j hj) f6,f7⟩
  rcases h1 u hu b hb with ⟨q',h⟩|⟨k,h⟩
  · exact f5 q' h
  · exact f4 k h
end
theorem famLetters (N:Nat) (ox:Nat→Nat→Bool):∃(tg:Nat→AdF→Nat→Nat→Row) (th:Nat→AdF→Option Addr×Nat→Nat→Nat→Row) (tu:AdF→Nat→Option Addr×Nat→AdF),tg=(fun i A=>rrG A (nnN i N) ox)∧
 (∀p j,(tg 0 (fun _=>(none,0)) p j).n=0)∧(∀i A p j k,k<(tg i A p j).n→plainL ((tg i A p j).el k)=true)∧(∀i A,(tg i A 0 i).n=0)∧(∀i A (a:Option Addr) (cap:Nat) p' i',¬(p'=0∧i'=i)→th i A (a,cap) p' i'=tg i A p' i')∧
 (∀i A (a:Option Addr) (cap:Nat),th i A (a,cap) 0 i=⟨a,N,cap,1,fun k=>[.bool (ox i k)]⟩)∧(∀i A y,th i A y=tg (i+1) (tu A i y))∧(∀(A:AdF) i y j,j<i→tu A i y j=A j)∧(∀(A:AdF) i (a:Option Addr) (cap:Nat),tu A i (a,cap) i=(a,cap))∧
 (∀{w:World} {A:AdF} {i:Nat} {a:Option Addr} {cap:Nat},(∀j,NewA w (A j).1)→NewA w a→∀j,NewA w (tu A i (a,cap) j).1)∧(∀{w:World} {i:Nat} {A:AdF},(∀j,NewA w (A j).1)→∀p j,NewA w (tg i A p j).a):=by
 refine ⟨fun i A=>rrG A (nnN i N) ox,fun i A y p j=>if p=0∧j=i then ⟨y.1,N,y.2,1,fun k=>[.bool (ox i k)]⟩ else rrG A (nnN i N) ox p j,upA,rfl,fun p j=>?_,fun i A p j k h=>rrG_plain p j k h,fun i A=>?_,fun i A a cap p' i' h=>?_,fun i A a cap=>?_,fun i A y=>?_,fun A i y j h=>?_,fun A i a cap=>?_,fun {w A i a cap} h g j=>?_,fun {w i A} h p j=>?_⟩
 · simp only[rrG,nnN,Nat.not_lt_zero,if_false]
   split<;>rfl
 · simp only[rrG,nnN,if_true,Nat.lt_irrefl,if_false]
 · simp only;rw[if_neg h]
 · simp only[and_self,if_true]
 · funext p j
   simp only[rrG,nnN,upA]
   by_cases p0:p=0
   · subst p0
     by_cases e:j=i
     · subst e;simp
     · by_cases l:j<i
       · have l2:j<i+1:=by omega
         simp[e,l,l2]
       · have l2:¬j<i+1:=by omega
         simp[e,l,l2]
   · simp[p0]
 · simp only[upA];rw[if_neg (by omega)]
 · simp only[upA,if_true]
 · simp only[upA]
   split
   · exact g
   · exact h j
 · simp only[rrG]
   split
   · exact h j
   · intro b p h;cases h
theorem same18R (n:Nat) (f:Nat→Bool) (hn:n≤1000000) (c:Nat→Nat→Row) (w:World) (hx:XOk ⟨[],c,[]⟩ ⟨w,[]⟩) (q i q' i':Nat) (a a':Option Addr) (cap cap':Nat) (h:c q i=⟨a,n,cap,1,fun j=>[.bool (f j)]⟩) (h':c q' i'=⟨a',n,cap',1,fun j=>[.bool (f j)]⟩):
 Calls Tryz.prog 35 #[.slice a n cap,.slice a' n cap'] w (Ret w (.bool true)):=by
 have hX:XOk ⟨[],TwoM a n cap (fun j=>[.bool (f j)]) a' n cap' (fun j=>[.bool (f j)]),[]⟩ ⟨w,[]⟩:=fun p k j hj=>by
  match p,hj with
  | 0,hj=>
    have:=hx q i j (by simp only[h];exact hj)
    simp only[h] at this
    obtain ⟨b,p,g1,g2,g3,vs,g4,g5⟩:=this
    exact ⟨b,p,g1,g2,g3,vs,plainL_is rfl g4,g5⟩
  | p+1,hj=>
    have:=hx q' i' j (by simp only[h'];exact hj)
    simp only[h'] at this
    obtain ⟨b,p,g1,g2,g3,vs,g4,g5⟩:=this
    exact ⟨b,p,g1,g2,g3,vs,plainL_is rfl g4,g5⟩
 clear hx h h'
 refine go_start (args:=[.pt (.one (.xs 0 0)),.pt (.one (.xs 1 0))]) (c:=(TwoM a n cap (fun j=>[.bool (f j)]) a' n cap' (fun j=>[.bool (f j)]))) Tryz.func35 rfl hX rfl rfl ?_
 obtain ⟨nd,hnd,nt,hnt,ar,har,cm,hcm,mx,hmx,mn,hmn,ar01,ar12,zpl,hzpl,zjn,hzjn,zup,hzup,zmi,hzmi,zdp,hzdp,hT⟩:=t0_all
 repeat' (first
  | refine go1 ?_|refine gobn ?_|refine go3 (fun hlt=>?_) (fun hge=>?_)|refine god ?_|refine gof ?_
  | ((with_reducible refine go_loopk (σ:={i:Nat // i≤n}) [4,11,12,13,14,15,16,17,18,19,20,21,22,23,24,25] (fun x=>[(5,.pt (.one (.int .i64 (.ofNat x.1))))]) (fun x=>[]) (fun x=>[]) (fun x=>n - x.1) ⟨0,by omega⟩ ?_ ?_ ?_ ?_);(·exact le_mkP gole gole gole gole);(·(cbv;try rfl));(·simp);(rintro ⟨i,hi⟩ mm hmm))
  | ((with_reducible refine go_stop ⟨i+1,by omega⟩ ?_ ?_ ?_ ?_);(·exact Nat.lt_of_lt_of_eq (show n - (i+1)<n - i from by omega) (Eq.symm ‹_›));(·exact le_mkP gole gole gole gole);(·(cbv;try rfl));(·simp))
  | fail)
 all_goals (try rfl)
 all_goals (exfalso;simp_all)
def FourR (a:Option Addr) (n cap:Nat) (A:AdF) (a':Option Addr) (cap':Nat) (B:AdF) (nn:Nat→Nat) (f:Nat→Nat→Bool):Nat→Nat→Row
 | 0,_=>⟨a,n,cap,1,fun j=>[.xs 2 j]⟩
 | 1,_=>⟨a',n,cap',1,fun j=>[.xs 3 j]⟩
 | 2,i=>⟨(A i).1,nn i,(A i).2,1,fun k=>[.bool (f i k)]⟩
 | _,i=>⟨(B i).1,nn i,(B i).2,1,fun k=>[.bool (f i k)]⟩
theorem fourR_ok {n N:Nat} {f:Nat→Nat→Bool} {A B:AdF} {c:Nat→Nat→Row} {w:World} {v v':Value} (hx:XOk ⟨[],c,[]⟩ ⟨w,[]⟩) (hA:∀j,j<n→∃q i,c q i=⟨(A j).1,N,(A j).2,1,fun k=>[.bool (f j k)]⟩) (hB:∀j,j<n→∃q i,c q i=⟨(B j).1,N,(B j).2,1,fun k=>[.bool (f j k)]⟩)
 (hR:RowIs c w ⟨n,1,fun j=>[.val (.slice (A j).1 N (A j).2)]⟩ v) (hR':RowIs c w ⟨n,1,fun j=>[.val (.slice (B j).1 N (B j).2)]⟩ v'):
 ∃a cap a' cap',v=.slice a n cap∧v'=.slice a' n cap'∧XOk ⟨[],FourR a n cap A a' cap' B (nnN n N) f,[]⟩ ⟨w,[]⟩:=by
 obtain ⟨a,cap,rfl⟩:=hR.form
 obtain ⟨a',cap',rfl⟩:=hR'.form
 refine ⟨a,cap,a',cap',rfl,rfl,fun q i j hj=>?_⟩
 have key:∀C:AdF,(∀j,j<n→∃q i,c q i=⟨(C j).1,N,(C j).2,1,fun k=>[.bool (f j k)]⟩)→j<nnN n N i→∃b p,(C i).1=some ⟨b,p,none⟩∧b<w.heap.size∧b ∉ ([]:List Nat)∧∃vs,isL ⟨[],FourR a n cap A a' cap' B (nnN n N) f,[]⟩ [.bool (f i j)] vs∧∀(t:Nat) (v:Value),vs[t]? =some v→w.cell? ⟨b,p+(j * 1+t),none⟩=some v:=by
  intro C hC hj
  by_cases hi:i<n
  · rw[nnN_lt hi] at hj
    obtain ⟨q',i',e⟩:=hC i hi
    have:=hx q' i' j (by simp only[e];exact hj)
    simp only[e] at this
    obtain ⟨b,p,g1,g2,g3,vs,g4,g5⟩:=this
    exact ⟨b,p,g1,g2,g3,vs,plainL_is rfl g4,g5⟩
  · rw[nnN,if_neg hi] at hj;exact absurd hj (Nat.not_lt_zero _)
 match q,hj with
 | 0,hj=>
   obtain ⟨b,p,h1,h2,vs,h3,h4⟩:=hR.row (c':=c) (fun _ _=>rfl) (j:=j) hj
   refine ⟨b,p,h1,h2,by simp,?_⟩
   match vs,h3 with
   | [u],⟨h3,_⟩=>
     have h3:u=.slice (A j).1 N (A j).2:=h3
     refine ⟨[u],⟨?_,trivial⟩,h4⟩
     show u=.slice (A j).1 (nnN n N j) (A j).2
     rw[nnN_lt (show j<n from hj)];exact h3
 | 1,hj=>
   obtain ⟨b,p,h1,h2,vs,h3,h4⟩:=hR'.row (c':=c) (fun _ _=>rfl) (j:=j) hj
   refine ⟨b,p,h1,h2,by simp,?_⟩
   match vs,h3 with
   | [u],⟨h3,_⟩=>
     have h3:u=.slice (B j).1 N (B j).2:=h3
     refine ⟨[u],⟨?_,trivial⟩,h4⟩
     show u=.slice (B j).1 (nnN n N j) (B j).2
     rw[nnN_lt (show j<n from hj)];exact h3
 | 2,hj=>exact key A hA hj
 | q+3,hj=>exact key B hB hj
set_option maxHeartbeats 4000000 in
theorem sameAllX (n N:Nat) (f:Nat→Nat→Bool) (hn:n≤1000000) (hN:N≤1000000) (A B:AdF) (c:Nat→Nat→Row) (w:World) (v v':Value) (hx:XOk ⟨[],c,[]⟩ ⟨w,[]⟩) (hA:∀j,j<n→∃q i,c q i=⟨(A j).1,N,(A j).2,1,fun k=>[.bool (f j k)]⟩) (hB:∀j,j<n→∃q i,c q i=⟨(B j).1,N,(B j).2,1,fun k=>[.bool (f j k)]⟩)
 (hR:RowIs c w ⟨n,1,fun j=>[.val (.slice (A j).1 N (A j).2)]⟩ v) (hR':RowIs c w ⟨n,1,fun j=>[.val (.slice (B j).1 N (B j).2)]⟩ v'):
 Calls Tryz.prog 36 #[v,v'] w (Ret w (.bool true)):=by
 obtain ⟨a,cap,a',cap',rfl,rfl,hX⟩:=fourR_ok hx hA hB hR hR'
 clear hR hR' hA hB hx
 have hnn:∀i,i<n→nnN n N i=N:=fun i hi=>nnN_lt hi
 generalize nnN n N=nn at hX hnn
 have h1 (wc:World) (hx:XOk ⟨[],FourR a n cap A a' cap' B nn f,[]⟩ ⟨wc,[]⟩) (i:Nat) (hi:i<n):Calls Tryz.prog 35 #[.slice (A i).1 (nn i) (A i).2,.slice (B i).1 (nn i) (B i).2] wc (Ret wc (.bool true)):=
  same18R (nn i) (f i) (by rw[hnn i hi];exact hN) _ wc hx 2 i 3 i _ _ _ _ rfl rfl
 refine go_start (args:=[.pt (.one (.xs 0 0)),.pt (.one (.xs 1 0))]) (c:=(FourR a n cap A a' cap' B nn f)) Tryz.func36 rfl hX rfl rfl ?_
 obtain ⟨nd,hnd,nt,hnt,ar,har,cm,hcm,mx,hmx,mn,hmn,ar01,ar12,zpl,hzpl,zjn,hzjn,zup,hzup,zmi,hzmi,zdp,hzdp,hT⟩:=t0_all
 repeat' (first
  | refine go1 ?_|refine gobn ?_|refine go3 (fun hlt=>?_) (fun hge=>?_)|refine god ?_|refine gof ?_
  | ((with_reducible apply go_callq (f:=35) (hf:=Tryz.call35));(·(cbv;try rfl));(·intro wc hbc hxc;exact h1 wc hxc i ‹_›))
  | ((with_reducible refine go_loopk (σ:={i:Nat // i≤n}) [4,11,12,13,14,15,16,17,18,19,20,21,22,23,24,25,26] (fun x=>[(5,.pt (.one (.int .i64 (.ofNat x.1))))]) (fun x=>[]) (fun x=>[]) (fun x=>n - x.1) ⟨0,by omega⟩ ?_ ?_ ?_ ?_);(·exact le_mkP gole gole gole gole);(·(cbv;try rfl));(·simp);(rintro ⟨i,hi⟩ mm hmm))
  | ((with_reducible refine go_stop ⟨i+1,by omega⟩ ?_ ?_ ?_ ?_);(·exact Nat.lt_of_lt_of_eq (show n - (i+1)<n - i from by omega) (Eq.symm ‹_›));(·exact le_mkP gole gole gole gole);(·(cbv;try rfl));(·simp))
  | fail)
 all_goals (try rfl)
 all_goals trace_state
theorem sameAllN (w:World):
 Calls Tryz.prog 36 #[.slice none 0 0,.slice none 0 0] w (Ret w (.bool true)):=by
 refine go_start (args:=[.pt (.one (.val (.slice none 0 0))),.pt (.one (.val (.slice none 0 0)))]) (c:=NoRows) Tryz.func36 rfl (noRows_ok _) rfl rfl ?_
 obtain ⟨nd,hnd,nt,hnt,ar,har,cm,hcm,mx,hmx,mn,hmn,ar01,ar12,zpl,hzpl,zjn,hzjn,zup,hzup,zmi,hzmi,zdp,hzdp,hT⟩:=t0_all
 repeat' (first
  | ((with_reducible apply go_ev hT 400);(·(cbv;try rfl));(fail_if_success with_reducible apply stuck_id);(try simp only[ar01,ar12]))
  | refine go1 ?_|refine gobt ?_|refine gobn ?_
  | (with_reducible apply go_rounds 1)
  | fail)
 all_goals rfl
def TwoS (a:Option Addr) (n c size:Nat) (el:Nat→List SC) (a':Option Addr) (n' c' size':Nat) (el':Nat→List SC):Nat→Nat→Row:=fun q _=>match q with
 | 0=>⟨a,n,c,size,el⟩
 | _+1=>⟨a',n',c',size',el'⟩
theorem RowIs.twoS {c:Nat→Nat→Row} {w:World} {R R':ORow} {v v':Value} (h:RowIs c w R v) (h':RowIs c w R' v') (hp:∀j,j<R.n→plainL (R.el j)=true) (hp':∀j,j<R'.n→plainL (R'.el j)=true):∃a cap a' cap',v=.slice a R.n cap∧v'=.slice a' R'.n cap'∧XOk ⟨[],TwoS a R.n cap R.es R.el a' R'.n cap' R'.es R'.el,[]⟩ ⟨w,[]⟩:=by
 obtain ⟨a,cap,rfl⟩:=h.form
 obtain ⟨a',cap',rfl⟩:=h'.form
 refine ⟨a,cap,a',cap',rfl,rfl,fun q i j hj=>?_⟩
 match q,hj with
 | 0,hj=>
   obtain ⟨b,p,h1,h2,vs,h3,h4⟩:=h.row (c':=TwoS a R.n cap R.es R.el a' R'.n cap' R'.es R'.el) hp (j:=j) hj
   exact ⟨b,p,h1,h2,by simp,vs,h3,h4⟩
 | q+1,hj=>
   obtain ⟨b,p,h1,h2,vs,h3,h4⟩:=h'.row (c':=TwoS a R.n cap R.es R.el a' R'.n cap' R'.es R'.el) hp' (j:=j) hj
   exact ⟨b,p,h1,h2,by simp,vs,h3,h4⟩
set_option maxHeartbeats 4000000 in
theorem same19C (L:List KCon) (hn:L.length≤1000000) (c:Nat→Nat→Row) (w:World) (v v':Value) (hR:RowIs c w (conR L) v) (hR':RowIs c w (conR L) v'):
 Calls Tryz.prog 34 #[v,v'] w (Ret w (.bool true)):=by
 obtain ⟨a,cap,a',cap',rfl,rfl,hX⟩:=hR.twoS hR' (fun j _=>rfl) (fun j _=>rfl)
 clear hR hR'
 simp only[conR] at hX⊢
 obtain ⟨g,hg⟩:∃f:Nat→KCon,f=fun j=>L.getD j .zero:=⟨_,rfl⟩
 obtain ⟨n,hn'⟩:∃n,n=L.length:=⟨_,rfl⟩
 have hX:XOk ⟨[],TwoS a n cap 4 (fun j=>(g j).sc) a' n cap' 4 (fun j=>(g j).sc),[]⟩ ⟨w,[]⟩:=by rw[hg,hn'];exact hX
 rw[←hn'] at hn⊢
 clear hg hn'
 refine go_start (args:=[.pt (.one (.xs 0 0)),.pt (.one (.xs 1 0))]) (c:=(TwoS a n cap 4 (fun j=>(g j).sc) a' n cap' 4 (fun j=>(g j).sc))) Tryz.func34 rfl hX rfl rfl ?_
 obtain ⟨nd,hnd,nt,hnt,ar,har,cm,hcm,mx,hmx,mn,hmn,ar01,ar12,zpl,hzpl,zjn,hzjn,zup,hzup,zmi,hzmi,zdp,hzdp,hT⟩:=t0_all
 repeat' (first
  | refine go1 ?_|refine gobn ?_|refine go3 (fun hlt=>?_) (fun hge=>?_)|refine go2 (fun h=>?_) (fun h=>?_)|refine god ?_|refine gof ?_
  | ((with_reducible refine go_loopk (σ:={i:Nat // i≤n}) [4,11,12,13,14,15,16,17,18,19,20,21,22,23,24,25] (fun x=>[(5,.pt (.one (.int .i64 (.ofNat x.1))))]) (fun x=>[]) (fun x=>[]) (fun x=>n - x.1) ⟨0,by omega⟩ ?_ ?_ ?_ ?_);(·exact le_mkP gole gole gole gole);(·(cbv;try rfl));(·simp);(rintro ⟨i,hi⟩ mm hmm))
  | ((with_reducible refine go_stop ⟨i+1,by omega⟩ ?_ ?_ ?_ ?_);(·exact Nat.lt_of_lt_of_eq (show n - (i+1)<n - i from by omega) (Eq.symm ‹_›));(·exact le_mkP gole gole gole gole);(·(cbv;try rfl));(·simp))
  | fail)
 all_goals (try rfl)
 all_goals (exfalso;subst hnd hnt;simp_all)
theorem same19N (w:World):
 Calls Tryz.prog 34 #[.slice none 0 0,.slice none 0 0] w (Ret w (.bool true)):=by
 refine go_start (args:=[.pt (.one (.val (.slice none 0 0))),.pt (.one (.val (.slice none 0 0)))]) (c:=NoRows) Tryz.func34 rfl (noRows_ok _) rfl rfl ?_
 obtain ⟨nd,hnd,nt,hnt,ar,har,cm,hcm,mx,hmx,mn,hmn,ar01,ar12,zpl,hzpl,zjn,hzjn,zup,hzup,zmi,hzmi,zdp,hzdp,hT⟩:=t0_all
 repeat' (first
  | ((with_reducible apply go_ev hT 400);(·(cbv;try rfl));(fail_if_success with_reducible apply stuck_id);(try simp only[ar01,ar12]))
  | refine go1 ?_|refine gobt ?_|refine gobn ?_
  | (with_reducible apply go_rounds 1)
  | fail)
 all_goals rfl
end Go.Proofs.YtaafofmfbcnaaaaGreat
