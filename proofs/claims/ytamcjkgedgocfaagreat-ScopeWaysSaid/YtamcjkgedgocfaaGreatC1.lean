/- Texts joined: ScG ScH ScI ScJ. No condition. -/
import Derived.Test.YtamcjkgedgocfaaGreatScF
import Derived.Test.YtamcjkgedgocfaaGreatW4
import Derived.Test.YtamcjkgedgocfaaGreatG2
import Derived.Test.YtamcjkgedgocfaaGreatW1
namespace Go.Proofs.YtamcjkgedgocfaaGreat
open Go.RowKit
set_option linter.unusedVariables false
set_option linter.unusedSimpArgs false
section
section
variable {P:Program} {Q:Exit→Act→World→Prop} {c:Nat→Nat→Row} {T:Tb} {w0:Base} {all:Array Oper} {k:List Item} {st:St} {o:Oper}
theorem run_cutV (hT:TOk P T) {t es:Nat} {ea:Bool} {z:List SC} (ht:T.ty t=some (.slice es ea z)) {x y:Operand} (ho:o.op=.slice t x (some y) none none) {e:Env} {a:Act} (tm:isV e st.t a.tmps.toList) {ad:Option Addr} {n cap l:Nat} (hx:evO st x=.pt (.one (.val (.slice ad n cap)))) (hy:litN st y=some l) (hle:l≤n) (w:World):
 (execOp a.eval o).run P w=.ok (.value (.slice (if cap=l then ad else ad.map (·.add (l * es))) (n - l) (cap - l))) w:=by
 obtain ⟨i,d,zv,g1,g2,g3,g4,g5,g6,g7,el,j,u,rfl,g8,_⟩:=(tyB_spec (hT.ty t _ ht)).ex
 obtain ⟨i',d',l1,l2,l3,_⟩:=elB_spec g8
 obtain ⟨kk,hk⟩:=litN_is tm hy
 have hv:a.eval x=.slice ad n cap:=by
  have:=evO_is tm x
  rw[hx] at this;exact this
 simp only[Option.map_some,Option.map_none,execOp,ho,hv,hk,Instr.sliceAt,Sem.run_bind,Instr.slice,run_underlying g2,Result.andThen_ok,bounds_lo hle,run_sizeOf' l1,l3,Sem.run_pure]
theorem go_aopVg {i:Nat} {l:List Bool} {f:Nat} (x:SV) (hi:all[i]? =some o) (hg:guardE all st o=some true) (hop:∀(e:Env) (s:List Act) (a:Act) (w1:World),e.chi=c→Fit e w0 st a s w1→∃v,x.is e v∧(execOp a.eval o).run P w1=.ok (.value v) w1)
 (h:Goes P Q c w0 (.aops all (setN l i true) f::k) (st.put o.dst x)):Goes P Q c w0 (.aop all i l f::k) st:=⟨fun e s a w1 hc F=>by
 show wpOp P all (NP (KQ P Q c k s)) i (fun a w=>SX c w∧wpL P .any all (NP (KQ P Q c k s)) (SX c) f (l.toArray.setIfInBounds i true) a w) a w1
 rw[←setN_arr]
 unfold wpOp
 simp only[hi,guardE_is F hg,if_true]
 refine .inl ?_
 obtain ⟨v,h1,h2⟩:=hop e s a w1 hc F
 unfold Oper.wp
 rw[h2,Oper.upon_value]
 exact h.run e s _ _ hc (F.put h1)⟩
end
section
variable {P:Program} {Q:Exit→Act→World→Prop} {c:Nat→Nat→Row} {w0:Base}
theorem go_freezeC {w:World} {X:Inhabited Exs} {c0:Nat→Nat→Row} {K:Nat} {G:Nat→Nat→Row} {k:List Item} {st:St} (q p i:Nat) (G':Option Addr→Nat→Nat→Nat→Row) {R0 R:ORow} (hq:nth st.r q=some (some R0)) (hle:RowLe R0 R) (hk:noA1 k=true)
 (hn:∀v,(st.frz q v).qb K=true) (hr:qbR K (setN st.r q none)) (hR:∀j,j<R.n→plainL (R.el j)=true) (hc:∀q i j,q<K→j<(c0 q i).n→qbL K ((c0 q i).el j)=true) (hG:∀p i j,j<(G p i).n→plainL ((G p i).el j)=true)
 (h0:(G p i).n=0) (h1:∀a cap p' i',¬(p'=p∧i'=i)→G' a cap p' i'=G p' i') (h2:∀a cap,G' a cap p i=⟨a,R.n,cap,R.es,R.el⟩)
 (h:∀a cap,R.n≤cap→NewA w a→Goes P Q (chiG c0 K (G' a cap)) ⟨w,[]⟩ k (st.frz q (.slice a R.n cap))):Goes P Q (chiG c0 K G) ⟨w,[]⟩ k st:=⟨fun e s a w' hce F=>by
 rw[nth_eq] at hq
 obtain ⟨v,xs,g1,g2,g3⟩:=F.rows.row q R0 hq
 rw[hle.n,hle.es] at g2
 replace g3:=hle.els g3
 obtain ⟨ad,cap,rfl⟩:=g2.form
 have hcapn:R.n≤cap:=by
  rcases g2.2.2 with ⟨hv,g0⟩|⟨b,o,cap',cur,ty,hv,hg,rest⟩
  · omega
  · cases hv;exact rest.1
 have hnew:NewA w ad:=fun b p' hb=>by
  have:=F.rows.lo q b ⟨R0,_,hq,g1,by rw[hb];rfl⟩
  simpa using this
 obtain ⟨F',hF'⟩:=F.frz hq g1
 have h12:∀q' i',q'<K→e.chi q' i'=chiG c0 K (G' ad cap) q' i':=fun q' i' hl=>by rw[hce,chiG_lt hl,chiG_lt hl]
 refine KQ_to (c':=chiG c0 K (G' ad cap)) (fun w1 hx q' i' j hj=>?_) hk _ _ _ ?_
 · have hl:(q'<K∨¬(q' - K=p∧i'=i)):=by
    by_cases g:q'<K
    · exact .inl g
    · refine .inr fun ⟨ga,gb⟩=>?_
      simp only[chiG_ge (show K≤q' by omega)] at hj
      rw[ga,gb,h0] at hj
      exact absurd hj (Nat.not_lt_zero _)
   have ex:chiG c0 K (G' ad cap) q' i'=chiG c0 K G q' i':=by
    by_cases g:q'<K
    · rw[chiG_lt g,chiG_lt g]
    · rw[chiG_ge (by omega),chiG_ge (by omega)]
      exact h1 _ _ _ _ (by rcases hl with hl|hl<;>first|omega|exact hl)
   have:=hx q' i' j (by simp only[ex];exact hj)
   simp only[ex] at this
   obtain ⟨b,p',f1,f2,f3,vs,f4,f5⟩:=this
   refine ⟨b,p',f1,f2,f3,vs,?_,f5⟩
   by_cases g:q'<K
   · simp only[chiG_lt g] at hj f4⊢
     exact isL_chi (fun q i h=>by rw[chiG_lt h,chiG_lt h]) (hc q' i' j g hj) f4
   · simp only[chiG_ge (show K≤q' by omega)] at hj f4⊢
     exact plainL_is (hG _ _ j hj) f4
 refine (h ad cap hcapn hnew).run ⟨e.rho,chiG c0 K (G' ad cap),e.sg⟩ s a w' rfl (F'.chi (K:=K) (c':=chiG c0 K (G' ad cap)) h12 (hn _) hr (fun q' i' j hl hj=>?_) (fun q' i' j hl hj=>?_) (fun q' i' j b o hl hj ha=>?_))
 · have e1:e.chi q' i'=c0 q' i':=by rw[hce,chiG_lt hl]
   rw[e1] at hj⊢
   exact hc q' i' j hl hj
 · rw[chiG_ge hl] at hj⊢
   by_cases g:q' - K=p∧i'=i
   · obtain ⟨ga,gb⟩:=g
     rw[ga,gb,h2] at hj⊢
     simp only at hj⊢
     rcases g2.2.2 with ⟨_,g0⟩|⟨b,o,cap',cur,ty,hv,hg,rest⟩
     · omega
     · cases hv
       obtain ⟨f1,f2⟩:=hF' b rfl
       refine ⟨b,o,rfl,F.rows.hi q b ⟨R0,_,hq,g1,rfl⟩,by simp,f1,f2,_,plainL_is (hR j hj) (g3 j hj),fun t v ht=>?_⟩
       simp only[List.getElem?_take,List.getElem?_drop] at ht
       split at ht
       · exact g2.cell ht
       · cases ht
   · rw[h1 _ _ _ _ g] at hj⊢
     have e1:e.chi q' i'=G (q' - K) i':=by rw[hce,chiG_ge hl]
     have hx:=F'.ext.ok q' i' j (by rw[e1];exact hj)
     rw[e1] at hx
     obtain ⟨b,p',f1,f2,f3,f4,f5,vs,f6,f7⟩:=hx
     exact ⟨b,p',f1,f2,f3,f4,f5,vs,plainL_is (hG _ _ j hj) f6,f7⟩
 · rw[chiG_ge hl] at hj ha
   by_cases g:q' - K=p∧i'=i
   · obtain ⟨ga,gb⟩:=g
     rw[ga,gb,h2] at ha
     have ha:ad=some ⟨b,o,none⟩:=ha
     subst ha
     cases hx:(⟨w,[]⟩:Base).ex b with
     | none=>rfl
     | some ob=>exact absurd ⟨R0,_,hq,g1,rfl⟩ ((F.ext.ex b ob hx).2.2.2.2 q)
   · rw[h1 _ _ _ _ g] at hj ha
     have e1:e.chi q' i'=G (q' - K) i':=by rw[hce,chiG_ge hl]
     exact F'.ext.exx q' i' j b o (by rw[e1];exact hj) (by rw[e1];exact ha)⟩
end
def SlIs (w:World) (v:Value) (n N:Nat) (A:AdF):Prop:=∃a c,v=.slice a n c∧∀j,j<n→∃b p,a=some ⟨b,p,none⟩∧b<w.heap.size∧w.cell? ⟨b,p+j,none⟩=some (.slice (A j).1 N (A j).2)
theorem RowIs.sl {c:Nat→Nat→Row} {w:World} {n N:Nat} {A:AdF} {v:Value} (h:RowIs c w ⟨n,1,fun j=>[.val (.slice (A j).1 N (A j).2)]⟩ v):SlIs w v n N A:=by
 obtain ⟨a,cap,rfl⟩:=h.form
 refine ⟨a,cap,rfl,fun j hj=>?_⟩
 obtain ⟨b,p,h1,h2,vs,h3,h4⟩:=h.row (c':=c) (fun _ _=>rfl) (j:=j) hj
 match vs,h3 with
 | [u],⟨h3,_⟩=>
   have h3:u=.slice (A j).1 N (A j).2:=h3
   subst h3
   exact ⟨b,p,h1,h2,by simpa using h4 0 _ rfl⟩
theorem XOk.sl {c:Nat→Nat→Row} {w:World} (hx:XOk ⟨[],c,[]⟩ ⟨w,[]⟩) {q i n N cap m:Nat} {a:Option Addr} {A:AdF} (h:c q i=⟨a,n,cap,1,fun j=>[.val (.slice (A j).1 N (A j).2)]⟩) (hm:m≤n) (hcap:n≤cap):SlIs w (.slice (if cap=m then a else a.map (·.add (m * 1))) (n - m) (cap - m)) (n - m) N (fun j=>A (j+m)):=by
 refine ⟨_,_,rfl,fun j hj=>?_⟩
 have:=hx q i (j+m) (by simp only[h];omega)
 simp only[h] at this
 obtain ⟨b,p,g1,g2,g3,vs,g4,g5⟩:=this
 match vs,g4 with
 | [u],⟨g4,_⟩=>
   have g4:u=.slice (A (j+m)).1 N (A (j+m)).2:=g4
   subst g4
   subst g1
   have g6:=g5 0 _ rfl
   by_cases hc:cap=m
   · omega
   · refine ⟨b,p+m * 1,by rw[if_neg hc];simp[Addr.add],g2,?_⟩
     rw[←g6];congr 2;omega
def shG (a:Option Addr) (P cap:Nat) (A:AdF) (nn:Nat→Nat):Nat→Nat→Row
 | 0,_=>⟨a,P,cap,1,fun j=>[.xs 5 j]⟩
 | 1,i=>⟨(A i).1,nn i,(A i).2,1,fun _=>[.any]⟩
 | _,_=>⟨none,0,0,0,fun _=>[]⟩
theorem shG_ok {F:GFun} {w:World} (hF:F.At w) {c:Nat→Nat→Row} {A:AdF} {v:Value} {n N:Nat} {f:Nat→Nat→Bool} (hx:XOk ⟨[],c,[]⟩ ⟨w,[]⟩) (hA:∀j,j<n→∃q i,c q i=⟨(A j).1,N,(A j).2,1,fun k=>[.bool (f j k)]⟩) (hv:SlIs w v n N A):
 ∃a cap,v=.slice a n cap∧XOk ⟨[],chiG (funX F) 4 (shG a n cap A (nnN n N)),[]⟩ ⟨w,[]⟩:=by
 obtain ⟨a,cap,rfl,hv⟩:=hv
 refine ⟨a,cap,rfl,fun q i j hj=>?_⟩
 have h12:∀q i,q<4→funX F q i=chiG (funX F) 4 (shG a n cap A (nnN n N)) q i:=fun q i h=>(chiG_lt h).symm
 have hj0:j<(chiG (funX F) 4 (shG a n cap A (nnN n N)) q i).n:=hj
 show ∃b p,(chiG (funX F) 4 (shG a n cap A (nnN n N)) q i).a=some ⟨b,p,none⟩∧b<w.heap.size∧b ∉ ([]:List Nat)∧∃vs,isL ⟨[],chiG (funX F) 4 (shG a n cap A (nnN n N)),[]⟩ ((chiG (funX F) 4 (shG a n cap A (nnN n N)) q i).el j) vs∧∀(t:Nat) (v:Value),vs[t]? =some v→w.cell? ⟨b,p+(j * (chiG (funX F) 4 (shG a n cap A (nnN n N)) q i).size+t),none⟩=some v
 by_cases hq:q<4
 · rw[chiG_lt hq] at hj0⊢
   obtain ⟨b,p,h1,h2,h3,vs,h4,h5⟩:=hF.ok q i j hj0
   exact ⟨b,p,h1,h2,h3,vs,isL_chi h12 (funX_qb F q i j hq hj0) h4,h5⟩
 · obtain ⟨d,rfl⟩:∃d,q=4+d:=⟨q - 4,by omega⟩
   rw[chiG_ge (by omega),Nat.add_sub_cancel_left] at hj0⊢
   match d,hj0 with
   | 0,hj0=>
     have hj0:j<n:=hj0
     obtain ⟨b,p,h1,h2,h3⟩:=hv j hj0
     refine ⟨b,p,h1,h2,by simp,[.slice (A j).1 N (A j).2],⟨?_,trivial⟩,fun t u ht=>?_⟩
     · show _=Value.slice (chiG (funX F) 4 (shG a n cap A (nnN n N)) 5 j).a (chiG (funX F) 4 (shG a n cap A (nnN n N)) 5 j).n (chiG (funX F) 4 (shG a n cap A (nnN n N)) 5 j).c
       rw[chiG_ge (by omega)]
       show _=Value.slice (A j).1 (nnN n N j) (A j).2
       rw[nnN_lt hj0]
     · match t,ht with
       | 0,ht=>
         have ht:=Option.some.inj ht
         subst ht
         show w.cell? ⟨b,p+(j * 1+0),none⟩=_
         rw[Nat.mul_one,Nat.add_zero];exact h3
   | 1,hj0=>
     have hj0:j<nnN n N i:=hj0
     by_cases hi:i<n
     · rw[nnN_lt hi] at hj0
       obtain ⟨q',i',e⟩:=hA i hi
       have:=hx q' i' j (by simp only[e];exact hj0)
       simp only[e] at this
       obtain ⟨b,p,g1,g2,g3,vs,g4,g5⟩:=this
       match vs,g4 with
       | [u],_=>exact ⟨b,p,g1,g2,g3,[u],⟨trivial,trivial⟩,g5⟩
     · rw[nnN,if_neg hi] at hj0;exact absurd hj0 (Nat.not_lt_zero _)
   | d+2,hj0=>exact absurd hj0 (Nat.not_lt_zero _)
theorem wScG_0 {p:Prop} (h:p:=by (first|(cbv;(try simp only[true_and,and_true]);(try ((repeat' apply And.intro)<;>(first|trivial|rfl|exact RowLe.rfl' _|decide|(rw[wrap_nat har _ (by omega)];done)|((rw[wrap_nat har i (by omega)];done))|fail)));done)|fail)):Pf p:=⟨h⟩
set_option maxRecDepth 100000 in
set_option maxHeartbeats 4000000 in
theorem shapedC (F:GFun) (hO:F.Ok) (w:World) (hF:F.At w) (c:Nat→Nat→Row) (A:AdF) (v:Value) (f:Nat→Nat→Bool) (hx:XOk ⟨[],c,[]⟩ ⟨w,[]⟩) (hA:∀j,j<lnC F→∃q i,c q i=⟨(A j).1,stN F.sn F.bn,(A j).2,1,fun k=>[.bool (f j k)]⟩) (hv:SlIs w v (lnC F) (stN F.sn F.bn) A):
 Calls Tryz.prog 91 #[F.val,v] w (Ret w (.bool true)):=by
 obtain ⟨a,cap,rfl,hXs⟩:=shG_ok hF hx hA hv
 have h1 (wc:World) (hk:KB ⟨w,[]⟩ wc):=sizeC F wc (hF.later hk) hO.small
 have h20 (wc:World) (hk:KB ⟨w,[]⟩ wc) {c:Nat→Nat→Row}:=Calls.to (c':=c) (r:=[natR (loanPts F (stN F.sn F.bn))]) ⟨fun _ _=>rfl,trivial⟩ rfl (loanPtsC F wc (hF.later hk) hO.small)
 have hP9:lnC F≤600:=Nat.le_trans (loanPts_len F _) hO.pts
 have hnn:∀i,i<lnC F→nnN (lnC F) (stN F.sn F.bn) i=stN F.sn F.bn:=fun i hi=>nnN_lt hi
 obtain ⟨N,hN⟩:∃N,N=stN F.sn F.bn:=⟨_,rfl⟩
 obtain ⟨P,hP⟩:∃P,P=lnC F:=⟨_,rfl⟩
 obtain ⟨nn,hn⟩:∃f:Nat→Nat,f=nnN (lnC F) (stN F.sn F.bn):=⟨_,rfl⟩
 obtain ⟨lp,hlp⟩:∃f:Nat→Nat,f=fun j=>(loanPts F (stN F.sn F.bn)).getD j 0:=⟨_,rfl⟩
 have h2 (wc:World) (hk:KB ⟨w,[]⟩ wc) {c:Nat→Nat→Row}:Calls Tryz.prog 126 #[F.val] wc (RetR wc c (.pt (.one (.rs 0))) [⟨P,1,fun j=>[.int .i64 (.ofNat (lp j))]⟩]):=by
  have:=@h20 wc hk c
  rw[natR] at this
  rw[hP,hlp];exact this
 rw[←hn] at hXs hnn
 rw[←hP] at hXs hnn hP9⊢
 rw[←hN] at h1 hnn
 clear h20 hN hP hn hlp hA hv hx hO
 have hl:=hF.l
 obtain ⟨pa,un,lA,ln,lc,lk,lt,bA,bn,bc,sA,sn,sc,s,jA,jn,jc,ja,jk,jo,jf,jx,je,jd⟩:=F
 obtain ⟨hX,hl,hb,hs,hj⟩:=hF
 simp only at hl hb hs hj
 try simp only at h1 h2
 have hdn:∀i,i<P→decide (Int.ofNat (nn i)=Int.ofNat N)=true:=fun i hi=>by rw[hnn i hi];exact decide_eq_true rfl
 refine go_start (args:=[.pt (.agg (GFun.dat ⟨pa,un,lA,ln,lc,lk,lt,bA,bn,bc,sA,sn,sc,s,jA,jn,jc,ja,jk,jo,jf,jx,je,jd⟩)),.pt (.one (.xs 4 0))]) (c:=(chiG (funX ⟨pa,un,lA,ln,lc,lk,lt,bA,bn,bc,sA,sn,sc,s,jA,jn,jc,ja,jk,jo,jf,jx,je,jd⟩) 4 (shG a P cap A nn))) Tryz.func91 rfl hXs rfl rfl ?_
 obtain ⟨nd,hnd,nt,hnt,ar,har,cm,hcm,mx,hmx,mn,hmn,ar01,ar12,zpl,hzpl,zjn,hzjn,zup,hzup,zmi,hzmi,zdp,hzdp,hT⟩:=t0_all
 repeat' (first
  | refine go1 ?_|refine gobt ?_|refine gobn ?_|refine go3 (fun hlt=>?_) (fun hge=>?_)|refine go2 (fun h=>?_) (fun h=>?_)|exact go0|refine god ?_|refine gof ?_|refine gob ?_|(with_reducible refine fork_cons ?_ ?_)
  | ((first|with_reducible apply go_fin_rowsP hT|with_reducible apply go_ret_rowsP hT);(·(cbv;try rfl));(·(cbv;try rfl));(·exact wScG_0);(·exact wScG_0);(·rfl))
  | ((with_reducible apply go_call (f:=46) (hf:=Tryz.call46));(·(cbv;try rfl));(·intro wc hbc hxc;exact h1 wc hbc))
  | ((with_reducible apply go_callq (f:=46) (hf:=Tryz.call46));(·(cbv;try rfl));(·intro wc hbc hxc;exact h1 wc hbc))
  | ((with_reducible apply go_callR (f:=126) (hf:=Tryz.call126));(·intro S;cbv;try rfl);(·intro wc S hbc hxc hrc;exact h2 wc hbc);(·rfl))
  | ((with_reducible refine go_loopk (σ:={i:Nat // i≤P}) [4,6,7,8,9,10,11,12,13,14,15,16,17,18,19] (fun x=>[(5,.pt (.one (.int .i64 (.ofNat x.1))))]) (fun x=>[]) (fun x=>[]) (fun x=>P - x.1) ⟨0,Nat.zero_le _⟩ ?_ ?_ ?_ ?_);(·exact le_mkP wScG_0 wScG_0 wScG_0 wScG_0);(·(cbv;try rfl));(·simp);(rintro ⟨i,hi⟩ mm hmm))
  | ((with_reducible refine go_stop (⟨i+1,Nat.succ_le_of_lt ‹_›⟩:{i:Nat // i≤P}) ?_ ?_ ?_ ?_);(·exact Nat.lt_of_lt_of_eq (show P - (i+1)<P - i from by omega) (Eq.symm ‹_›));(·exact le_mkP wScG_0 wScG_0 wScG_0 wScG_0);(·(cbv;try rfl));(·simp))
  | fail)
 all_goals first
  | rfl
  | (have h9:=hdn i ‹_›;rw[h9] at h;cases h)
  | trace_state
end
section
def fit22B (F:GFun):Bool:= !greatB F&&(!gfB F&&decide (rchkV F=0))
theorem fit22_ok {F:GFun} (h:fit22B F=true):F.Ok:=by
 simp only[fit22B,Bool.and_eq_true,decide_eq_true_eq] at h
 exact (rchk_eq F).symm.trans h.2.2
set_option maxRecDepth 100000 in
set_option maxHeartbeats 4000000 in
theorem fit22C (F:GFun) (w:World) (hF:F.At w) (hK:F.Ty8):
 Calls Tryz.prog 42 #[F.val] w (Ret w (.bool (fit22B F))):=by
 have h1 (wc:World) (hk:KB ⟨w,[]⟩ wc):=greatC F wc (hF.later hk)
 have h2 (wc:World) (hk:KB ⟨w,[]⟩ wc):=gfC F wc (hF.later hk)
 have h3 (wc:World) (hk:KB ⟨w,[]⟩ wc):=rFnChk F wc (hF.later hk) hK
 unfold fit22B
 obtain ⟨q1,hq1⟩:∃b,b=greatB F:=⟨_,rfl⟩
 obtain ⟨q2,hq2⟩:∃b,b=gfB F:=⟨_,rfl⟩
 obtain ⟨q3,hq3⟩:∃b,b=rchkV F:=⟨_,rfl⟩
 rw[←hq1] at h1⊢
 rw[←hq2] at h2⊢
 rw[←hq3] at h3⊢
 clear hq1 hq2 hq3 hK
 obtain ⟨pa,un,lA,ln,lc,lk,lt,bA,bn,bc,sA,sn,sc,s,jA,jn,jc,ja,jk,jo,jf,jx,je,jd⟩:=F
 obtain ⟨hX,hl,hb,hs,hj⟩:=hF
 simp only at hl hb hs hj
 refine go_start (args:=[.pt (.agg (GFun.dat _))]) (c:=(funX _)) Tryz.func42 rfl hX rfl rfl ?_
 obtain ⟨nd,hnd,nt,hnt,ar,har,cm,hcm,mx,hmx,mn,hmn,ar01,ar12,zpl,hzpl,zjn,hzjn,zup,hzup,zmi,hzmi,zdp,hzdp,hT⟩:=t0_all
 repeat' (first
  | refine go1 ?_|refine gobt ?_|refine gobn ?_|refine go3 (fun hlt=>?_) (fun hge=>?_)|refine go2 (fun h=>?_) (fun h=>?_)|exact go0|refine god ?_|refine gof ?_|refine gob ?_|(with_reducible refine fork_cons ?_ ?_)
  | ((with_reducible apply go_call_bool (f:=26) (hf:=Tryz.call26));(·(cbv;try rfl));(·intro wc hbc hxc;exact h1 wc hbc);intro z hz)
  | ((with_reducible apply go_callq_bool (f:=26) (hf:=Tryz.call26));(·(cbv;try rfl));(·intro wc hbc hxc;exact h1 wc hbc);intro z hz)
  | ((with_reducible apply go_call_bool (f:=27) (hf:=Tryz.call27));(·(cbv;try rfl));(·intro wc hbc hxc;exact h2 wc hbc);intro z hz)
  | ((with_reducible apply go_callq_bool (f:=27) (hf:=Tryz.call27));(·(cbv;try rfl));(·intro wc hbc hxc;exact h2 wc hbc);intro z hz)
  | ((with_reducible apply go_call_int (f:=40) (hf:=Tryz.call40));(·(cbv;try rfl));(·intro wc hbc hxc;exact h3 wc hbc);intro z hz)
  | ((with_reducible apply go_callq_int (f:=40) (hf:=Tryz.call40));(·(cbv;try rfl));(·intro wc hbc hxc;exact h3 wc hbc);intro z hz)
  | fail)
 all_goals (refine bool_eq ?_;clear hX hT h1 h2 h3;subst hnd hnt;subst_vars;simp_all)
section
variable {P:Program} {Q:Exit→Act→World→Prop} {c:Nat→Nat→Row} {T:Tb} {w0:Base} {all:Array Oper} {k:List Item} {st:St} {o:Oper}
end
end
section
theorem nxG_rr {P N:Nat} {f:Nat→Nat→Bool} {A:AdF} (p i j:Nat) (h:j<(rrG A (nnN P N) f p i).n):nxG (fun _=>N) (fun j k=>[.bool (f j k)]) P A p i=rrG A (nnN P N) f p i:=by
 unfold rrG nnN at h⊢
 unfold nxG
 by_cases hp:p=0
 · rw[if_pos hp] at h⊢
   by_cases hi:i<P
   · rw[if_pos ⟨hp,hi⟩,if_pos hi]
   · simp only[if_neg hi] at h;exact absurd h (Nat.not_lt_zero _)
 · rw[if_neg hp] at h;exact absurd h (Nat.not_lt_zero _)
theorem scopeR (F:GFun) (w:World) (hF:F.At w) (hO:F.Ok) (hD:F.Fd):
 Calls Tryz.prog 28 #[F.val] w (RetX w (fun _:AdF=>.tup [.one (.rs 0),.one (.int .i64 0)]) (fun A=>[⟨lnC F,1,fun j=>[.val (.slice (A j).1 (stN F.sn F.bn) (A j).2)]⟩]) (fun A=>rrG A (nnN (lnC F) (stN F.sn F.bn)) (scI F))):=
 (scopeC F w hF hO hD).mono fun _ _ h=>h.fam fun A p i j hj=>nxG_rr p i j hj
theorem usedR (F:GFun) (w:World) (hF:F.At w) (hO:F.Ok) (hD:F.Fd):
 Calls Tryz.prog 30 #[F.val] w (RetX w (fun _:AdF=>.tup [.one (.rs 0),.one (.int .i64 0)]) (fun A=>[⟨lnC F,1,fun j=>[.val (.slice (A j).1 (stN F.sn F.bn) (A j).2)]⟩]) (fun A=>rrG A (nnN (lnC F) (stN F.sn F.bn)) (scU F))):=
 (usedC F w hF hO hD).mono fun _ _ h=>h.fam fun A p i j hj=>nxG_rr p i j hj
def alG (n:Nat) (el:Nat→List SC) (a:Option Addr) (cap:Nat):Nat→Nat→Row:=fun p i=>if p=0∧i=0 then ⟨a,n,cap,1,el⟩ else ⟨none,0,0,0,fun _=>[]⟩
theorem alG_plain {n:Nat} {el:Nat→List SC} (hp:∀j,plainL (el j)=true) {a:Option Addr} {cap:Nat} (p i j:Nat) (h:j<(alG n el a cap p i).n):plainL ((alG n el a cap p i).el j)=true:=by
 unfold alG at h⊢
 split at h
 · rename_i g;rw[if_pos g];exact hp j
 · exact absurd h (Nat.not_lt_zero _)
end
section
def PieceOf (w:World) (c:Nat→Nat→Row) (R:Row):Prop:=∀j,j<R.n→∃q i m,j+m<(c q i).n∧R.size=(c q i).size∧R.el j=(c q i).el (j+m)∧plainL (R.el j)=true∧NewA w (c q i).a∧∀b p,(c q i).a=some ⟨b,p,none⟩→R.a=some ⟨b,p+m * R.size,none⟩
theorem pieceSame {w:World} {c:Nat→Nat→Row} {R:Row} (q i:Nat) (e:c q i=R) (hp:∀j,j<R.n→plainL (R.el j)=true) (hn:(∃j,j<R.n)→NewA w R.a):PieceOf w c R:=fun j hj=>⟨q,i,0,by rw[e];exact hj,by rw[e],by rw[e];rfl,hp j hj,by rw[e];exact hn ⟨j,hj⟩,fun b p h=>by rw[←e,h,Nat.zero_mul,Nat.add_zero]⟩
section
variable {P:Program} {T:Tb}
end
section
variable {P:Program} {Q:Exit→Act→World→Prop} {c:Nat→Nat→Row} {T:Tb} {w0:Base} {all:Array Oper} {k:List Item} {st:St} {o:Oper}
theorem go_aopCutV (hT:TOk P T) {i:Nat} {l:List Bool} {f:Nat} {t:Nat} {ea:Bool} {z:List SC} {x y:Operand} {ad a':Option Addr} {n cap m n' c':Nat} (ha:(if cap=m then ad else ad.map (·.add (m * 1)))=a') (hn:n - m=n') (hc:cap - m=c') (hi:all[i]? =some o) (hg:guardE all st o=some true) (ho:o.op=.slice t x (some y) none none) (ht:T.ty t=some (.slice 1 ea z)) (hx:evO st x=.pt (.one (.val (.slice ad n cap)))) (hy:litN st y=some m) (hle:m≤n)
 (h:Goes P Q c w0 (.aops all (setN l i true) f::k) (st.put o.dst (.pt (.one (.val (.slice a' n' c')))))):Goes P Q c w0 (.aop all i l f::k) st:=
 go_aopVg (.pt (.one (.val (.slice a' n' c')))) hi hg (fun e s a w1 hc1 F=>⟨.slice a' n' c',rfl,by rw[←ha,←hn,←hc];exact run_cutV hT ht ho F.tm hx hy hle w1⟩) h
end
end
end Go.Proofs.YtamcjkgedgocfaaGreat
