/- Lemmas. No condition. -/
import Derived.Test.YtemnfncbgalljaaGreatV1
namespace Go.Proofs.YtemnfncbgalljaaGreat
open Go.RowKit
open Go.ChangeMaps (setBlock)
set_option linter.all false
structure RR (E:O9z) (n N:Nat) (V:Nat->Value) (f:B9y):Prop where
 row:∀i,i<n->∃g p cap cur ty,V i=.slice (some ⟨g,p,none⟩) N cap/\E g=some (.cells cur ty (0,0))/\N<=cap/\cap<=maxLen/\p+cap<=cur.size/\∀j,j<N->cur[p+j]? =some (.bool (f i j))
 nd:∀i j b,i<n->j<n->(V i).ownBlock=some b->(V j).ownBlock=some b->i=j
theorem Qom {α:Type}:∀(l:List α) (o:Nat) (x:α) (j:Nat),o<l.length->(Qka l o [x])[j]? =if j=o then some x else l[j]?
 | [],o,x,j,h=>by simp at h
 | a::l,0,x,j,_=>by
   have e:Qka l 0 ([]:List α)=l:=by cases l<;>rfl
   cases j<;>simp[Qka,e]
 | a::l,o+1,x,j,h=>by
   cases j with
   | zero=>simp[Qka]
   | succ j=>simp only[Qka,List.getElem?_cons_succ,Qom l o x j (by simpa using h),Nat.add_right_cancel_iff]
theorem Qpm {α:Type}:∀(l:List α) (o:Nat) (x:α),(Qka l o [x]).length=l.length
 | [],o,x=>by cases o<;>rfl
 | a::l,0,x=>by
   have e:Qka l 0 ([]:List α)=l:=by cases l<;>rfl
   simp[Qka,e]
 | a::l,o+1,x=>by simp[Qka,Qpm l o x]
section
variable {E:O9z} {n N:Nat} {V:Nat->Value} {f:B9y}
theorem RR.first:RR E 0 N V f:=⟨fun i h=>absurd h (Nat.not_lt_zero _),fun i _ _ h=>absurd h (Nat.not_lt_zero _)⟩
theorem RR.ext {n':Nat} {V':Nat->Value} {f':B9y} (h:RR E n N V f) (hn:n'<=n) (hV:∀i,i<n'->V' i=V i) (hf:∀i j,i<n'->j<N->f' i j=f i j):RR E n' N V' f':=by
 refine ⟨fun i hi=>?_,fun i j b hi hj h1 h2=>h.nd i j b o9 o9 (by rw[<-hV i hi];exact h1) (by rw[<-hV j hj];exact h2)⟩
 obtain ⟨g,p,cap,cur,ty,h1,h2,h3,h4,h5,h6⟩:=h.row i o9
 exact ⟨g,p,cap,cur,ty,(hV i hi).trans h1,h2,h3,h4,h5,fun j hj=>by rw[hf i j hi hj];exact h6 j hj⟩
theorem RR.push {E':O9z} {ad:Option Addr} {cap:Nat} {xs:List Value} (h:RR E n N V f) (hN:0<N) (g1:∀b,(Value.slice ad N cap).ownBlock≠some b->E' b=E b) (g2:∀b,(Value.slice ad N cap).ownBlock=some b->E b=none) (g3:ExRow E' 1 (.slice ad N cap) N xs) {f':B9z} (g4:∀j,j<N->xs[j]? =some (.bool (f' j))):
 RR E' (n+1) N (fun i=>if i=n then .slice ad N cap else V i) (fun i j=>if i=n then f' j else f i j):=by
 rcases g3.2.2 with ⟨_,h0⟩|⟨b,o,cap',cur,ty,hv,hE,q1,q2,q3,q4⟩
 · omega
 obtain ⟨rfl,-,rfl⟩:=Value.slice.inj hv
 have hne:∀i,i<n->(V i).ownBlock≠some b:=fun i hi e=>by
  obtain ⟨g,p,cap',cur',ty',h1,h2,_⟩:=h.row i hi
  rw[h1] at e
  obtain rfl:=Option.some.inj e
  have:=g2 _ rfl
  rw[h2] at this;cases this
 refine ⟨fun i hi=>?_,fun i j b' hi hj h1 h2=>?_⟩
 · by_cases e:i=n
   · subst e
     refine ⟨b,o,cap,cur,ty,by simp,hE,q1,q2,by omega,fun j hj=>?_⟩
     have:=g4 j hj
     rw[<-q4] at this
     simp only[List.getElem?_take,List.getElem?_drop] at this
     rw[if_pos o9] at this
     simpa using this
   · obtain ⟨g,p,cap',cur',ty',h1,h2,h3,h4,h5,h6⟩:=h.row i o9
     refine ⟨g,p,cap',cur',ty',by simp only[if_neg e];exact h1,?_,h3,h4,h5,fun j hj=>by simp only[if_neg e];exact h6 j hj⟩
     rw[g1 g (fun e2=>hne i o9 (by rw[h1];exact (show some b=some g from e2).symm))]
     exact h2
 · by_cases e:i=n<;>by_cases e2:j=n
   · omega
   · rw[if_pos e] at h1;rw[if_neg e2] at h2
     cases h1
     exact absurd h2 (hne j o9)
   · rw[if_neg e] at h1;rw[if_pos e2] at h2
     cases h2
     exact absurd h1 (hne i o9)
   · rw[if_neg e] at h1;rw[if_neg e2] at h2
     exact h.nd i j b' o9 o9 h1 h2
theorem RR.put {i j g p cap:Nat} {cur:Array Value} {ty:TypeId} {b:Bool} (h:RR E n N V f) (hi:i<n) (hj:j<N) (hV:V i=.slice (some ⟨g,p,none⟩) N cap) (hE:E g=some (.cells cur ty (0,0))) (hp:p+j<cur.size):
 RR (exSet E g (.cells (Qka cur.toList (p+j) [.bool b]).toArray ty (0,0))) n N V (fun i' j'=>if i'=i/\j'=j then b else f i' j'):=by
 refine ⟨fun i' hi'=>?_,h.nd⟩
 obtain ⟨g',p',cap',cur',ty',h1,h2,h3,h4,h5,h6⟩:=h.row i' hi'
 by_cases e:i'=i
 · subst e
   rw[hV] at h1
   obtain ⟨e1,-,rfl⟩:=Value.slice.inj h1
   cases e1
   rw[hE] at h2;cases h2
   refine ⟨g,p,cap,_,ty,hV,Qle _ _ _,h3,h4,by rw[List.size_toArray,Qpm];simpa using h5,fun j' hj'=>?_⟩
   rw[List.getElem?_toArray,Qom _ _ _ _ (by simpa using hp)]
   by_cases e:j'=j
   · subst e;rw[if_pos rfl];simp
   · rw[if_neg o9]
     simp only[e,and_false,if_false]
     simpa using h6 j' hj'
 · refine ⟨g',p',cap',cur',ty',h1,?_,h3,h4,h5,fun j' hj'=>by simp only[e,false_and,if_false];exact h6 j' hj'⟩
   rw[Q8e (fun e2=>e (h.nd i' i g' hi' hi (by rw[h1];rfl) (by rw[hV,e2];rfl)))]
   exact h2
end
section
variable {P:Program} {Q:E9z} {c:R9z} {w:World} {E:O9z} {T:Tb}
variable {o:Oper} {all:Array Oper} {rest:List Oper} {k:List Item} {st:St} {t:Nat} {x y:Operand}
theorem Qq4 {w0:Base} {i:Nat} {l:List Bool} {f:Nat} (x:SV) (hi:all[i]? =some o) (hg:o.guard=none) (hop:∀(e:Env) (s:List Act) (a:Act) (w1:World),e.chi=c->Fit e w0 st a s w1->∃v,x.is e v/\(execOp a.eval o).run P w1=.ok (.value v) w1)
 (h:Goes P Q c w0 (.aops all (Q0b l i true) f::k) (st.put o.dst x)):Goes P Q c w0 (.aop all i l f::k) st:=⟨fun e s a w1 hc F=>by
 show wpOp P all (NP (KQ P Q c k s)) i (fun a w=>SX c w/\wpL P .any all (NP (KQ P Q c k s)) (SX c) f (l.toArray.setIfInBounds i true) a w) a w1
 rw[<-Qcd]
 unfold wpOp
 simp only[hi,Region.wanted,hg,if_true]
 refine .inl ?_
 obtain ⟨v,h1,h2⟩:=hop e s a w1 hc F
 unfold Oper.wp
 rw[h2,Oper.upon_value]
 exact h.run e s _ _ hc (F.put h1)⟩
theorem Qp4 {E':O9z} {i:Nat} {l:List Bool} {f:Nat} (hi:all[i]? =some o) (hg:o.guard=none) (hop:∀(e:Env) (s:List Act) (a:Act) (w1:World),e.chi=c->Fit e (@Base.mk w [] ⟨⟨E⟩⟩) st a s w1->∃w2,(execOp a.eval o).run P w1=.ok .skip w2/\ExStep w.heap.size E w1 E' w2)
 (h:Goes P Q c (@Base.mk w [] ⟨⟨E'⟩⟩) (.aops all (Q0b l i true) f::k) (st.put o.dst undefS)):Goes P Q c (@Base.mk w [] ⟨⟨E⟩⟩) (.aop all i l f::k) st:=⟨fun e s a w1 hc F=>by
 show wpOp P all (NP (KQ P Q c k s)) i (fun a w=>SX c w/\wpL P .any all (NP (KQ P Q c k s)) (SX c) f (l.toArray.setIfInBounds i true) a w) a w1
 rw[<-Qcd]
 unfold wpOp
 simp only[hi,Region.wanted,hg,if_true]
 refine .inl ?_
 obtain ⟨w2,h1,h2⟩:=hop e s a w1 hc F
 unfold Oper.wp
 rw[h1,Oper.upon_skip]
 exact h.run e s _ _ hc ((F.exstep h2).put trivial)⟩
theorem Qou {w0:Base} {i:Nat} {l:List Bool} {f:Nat} {ea:Bool} {z:List SC} {j g p n cap:Nat} (hT:TOk P T) (hi:all[i]? =some o) (hg:o.guard=none) (ho:o.op=.indexAddr t x y) (ht:T.ty t=some (.slice 1 ea z)) {v:Value} (hx:evO st x=.pt (.one (.val v))) (hv:v=.slice (some ⟨g,p,none⟩) n cap) (hy:evO st y=.pt (.one (.int .i64 (.ofNat j)))) (hj:j<n)
 (h:∀a,a=p+j->Goes P Q c w0 (.aops all (Q0b l i true) f::k) (st.put o.dst (.pt (.one (.val (.pointer (some ⟨g,a,none⟩))))))):Goes P Q c w0 (.aop all i l f::k) st:=
 Qq4 _ hi hg (fun e s a w1 hc F=>by
  have h1:=Qab F.tm x
  have h2:=Qab F.tm y
  rw[hx] at h1
  rw[hy] at h2
  have h1:=(Qgf h1).trans hv
  have h2:=Qgc h2
  refine ⟨_,rfl,?_⟩
  have h3:=Q6c (w:=w1) hT ht g p n cap .i64 (.ofNat j) (Int.natCast_nonneg _) (Int.ofNat_lt.2 hj)
  simp only[Int.toNat_natCast,Int.ofNat_eq_natCast,Nat.mul_one] at h3
  simp[execOp,ho,h1,h2,h3]) (h _ rfl)
theorem Qgv {z:SC} {g p:Nat} {cur:Array Value} {ty:TypeId} {b:Bool} (hT:TOk P T) (ho:o.op=.store t x y) (ht:T.ty t=some (.one z)) (hx:evO st x=.pt (.one (.val (.pointer (some ⟨g,p,none⟩))))) (hy:evO st y=.pt (.one (.bool b))\/evO st y=.pt (.one (.lit b)))
 (hE:E g=some (.cells cur ty (0,0))) (hp:p<cur.size) {e:Env} {s:List Act} {a:Act} {w1:World} (F:Fit e (@Base.mk w [] ⟨⟨E⟩⟩) st a s w1):∃w2,(execOp a.eval o).run P w1=.ok .skip w2/\ExStep w.heap.size E w1 (exSet E g (.cells (Qka cur.toList p [.bool b]).toArray ty (0,0))) w2:=by
 have h1:=Qab F.tm x
 have h2:=Qab F.tm y
 rw[hx] at h1
 have h1:=Qgf h1
 have h2:a.eval y=.bool b:=by rcases hy with hy|hy<;>rw[hy] at h2<;>exact h2
 obtain ⟨i,d,zv,g1,g2,g3,_⟩:=(Q8a (hT.ty t _ ht)).ex
 obtain ⟨w',e1,e2,e3,e4,e5,e6,e7⟩:=Qvb (P:=P) [.bool b] 0 w1 g p cur ty (F.at_ _ _ hE).2 (show p+0+1<=cur.size by omega) (fun v hv=>by rw[List.mem_singleton.1 hv];rfl)
 refine ⟨w',?_,⟨e5,e6,e7,Nat.le_of_eq e4.symm,fun j hj hn=>e3 j (fun e=>by rw[e,hE] at hn;cases hn),fun j ob hb=>?_⟩⟩
 · have hst:(Instr.storeAt t (a.eval x) (a.eval y)).run P w1=.ok () w':=by
    have g3':i.size=1:=g3
    rw[h1,h2]
    simp only[Instr.storeAt,Instr.sureAddr,Sem.run_bind,Sem.run_pure,Result.andThen_ok,storeVar,Qnb g1,Qzf (show (Value.bool b).oneCell'=true from rfl),g3']
    simpa using e1
   simp[execOp,ho,hst]
 · by_cases q:j=g
   · subst q
     rw[Qle] at hb;cases hb
     exact ⟨(F.at_ _ _ hE).1,by simpa using e2,.inl (by rw[hE];simp)⟩
   · rw[Q8e q] at hb
     exact ⟨(F.at_ _ _ hb).1,(e3 j q).trans (F.at_ _ _ hb).2,.inl (by rw[hb];simp)⟩
theorem Qtk {i:Nat} {l:List Bool} {f:Nat} {z:SC} {g p:Nat} {cur:Array Value} {ty:TypeId} {b:Bool} (hT:TOk P T) (hi:all[i]? =some o) (hg:o.guard=none) (ho:o.op=.store t x y) (ht:T.ty t=some (.one z)) (hx:evO st x=.pt (.one (.val (.pointer (some ⟨g,p,none⟩))))) (hy:evO st y=.pt (.one (.bool b))\/evO st y=.pt (.one (.lit b)))
 (hE:E g=some (.cells cur ty (0,0))) (hp:p<cur.size)
 (h:∀E',E'=exSet E g (.cells (Qka cur.toList p [.bool b]).toArray ty (0,0))->Goes P Q c (@Base.mk w [] ⟨⟨E'⟩⟩) (.aops all (Q0b l i true) f::k) (st.put o.dst undefS)):Goes P Q c (@Base.mk w [] ⟨⟨E⟩⟩) (.aop all i l f::k) st:=
 Qp4 hi hg (fun e s a w1 hc F=>Qgv hT ho ht hx hy hE hp F) (h _ rfl)
theorem Qh4 {N:Nat} {b:Bool} {xs:List Value} (h:Q3c c ⟨N,1,fun _=>[.lit b]⟩ xs) {j:Nat} (hj:j<N):xs[j]? =some (.bool b):=by
 have:=h j hj
 simp only[Nat.mul_one] at this
 cases hx:xs.drop j with
 | nil=>rw[hx] at this;exact this.elim
 | cons v l=>
   rw[hx] at this
   have h1:v=.bool b:=this.1
   have h2:(xs.drop j)[0]? =some v:=by rw[hx];rfl
   rw[List.getElem?_drop,Nat.add_zero] at h2
   rw[h2,h1]
def nnN (n N i:Nat):Nat:=if i<n then N else 0
theorem Qde {n N i:Nat} (h:i<n):nnN n N i=N:=if_pos h
def rrG (A:Nat->Option Addr×Nat) (nn:N9z) (f:B9y):Nat->Nat->Row:=fun p i=>if p=0 then ⟨(A i).1,nn i,(A i).2,1,fun j=>[.bool (f i j)]⟩ else ⟨none,0,0,0,fun _=>[]⟩
theorem Qwc {A:Nat->Option Addr×Nat} {nn:N9z} {f:B9y} (p i j:Nat) (h:j<(rrG A nn f p i).n):Qob ((rrG A nn f p i).el j)=true:=by
 unfold rrG at h⊢
 split at h
 · rename_i g;rw[if_pos g];rfl
 · exact absurd h (Nat.not_lt_zero _)
theorem RR.fit {c:R9z} {e:Env} {a:Act} {s:List Act} {w1:World} (K:Nat) {n N:Nat} {V:Nat->Value} {f:B9y} (hR:RR E n N V f) (F:Fit e (@Base.mk w [] ⟨⟨E⟩⟩) st a s w1) (hce:e.chi=c) (hn:st.qb K=true) (hr:qbR K st.r) (hc:∀q i j,q<K->j<(c q i).n->qbL K ((c q i).el j)=true):
 ∃A:Nat->Option Addr×Nat,(∀i,i<n->V i=.slice (A i).1 N (A i).2)/\(∀p i,Q3d w (rrG A (nnN n N) f p i).a)/\Fit ⟨e.rho,Q3a c K (rrG A (nnN n N) f),e.sg⟩ (@Base.mk w [] ⟨⟨fun _=>none⟩⟩) st a s w1:=by
 subst hce
 have hV:∀i,∃y:Option Addr×Nat,(i<n->V i=.slice y.1 N y.2)/\(¬i<n->y=(none,0)):=fun i=>by
  by_cases hi:i<n
  · obtain ⟨g,p,cap,_,_,h1,_⟩:=hR.row i hi
    exact ⟨(_,cap),fun _=>h1,fun hi'=>absurd hi hi'⟩
  · exact ⟨(none,0),fun hi'=>absurd hi' hi,fun _=>rfl⟩
 let A:Nat->Option Addr×Nat:=fun i=>Classical.choose (hV i)
 have hA:∀i,i<n->V i=.slice (A i).1 N (A i).2:=fun i=>(Classical.choose_spec (hV i)).1
 have hA0:∀i,¬i<n->A i=(none,0):=fun i=>(Classical.choose_spec (hV i)).2
 clear_value A
 have key:∀i,i<n->∃g p cap cur ty,A i=(some ⟨g,p,none⟩,cap)/\E g=some (.cells cur ty (0,0))/\p+cap<=cur.size/\N<=cap/\∀j,j<N->cur[p+j]? =some (.bool (f i j)):=fun i hi=>by
  obtain ⟨g,p,cap,cur,ty,h1,h2,h3,h4,h5,h6⟩:=hR.row i hi
  rw[hA i hi] at h1
  obtain ⟨a1,-,a2⟩:=Value.slice.inj h1
  exact ⟨g,p,cap,cur,ty,Prod.ext a1 a2,h2,h5,h3,h6⟩
 have hnew:∀p i,Q3d w (rrG A (nnN n N) f p i).a:=fun p i b o hb=>by
  unfold rrG at hb
  split at hb
  · by_cases hi:i<n
    · obtain ⟨g',p',cap,cur,ty,h1,h2,_⟩:=key i hi
      rw[h1] at hb
      cases hb
      exact (F.ext.ex _ _ h2).1
    · rw[hA0 i hi] at hb;cases hb
  · cases hb
 have F':Fit e (@Base.mk w [] ⟨⟨fun _=>none⟩⟩) st a s w1:=F.less fun b o h=>by cases h
 refine ⟨A,hA,hnew,F'.chi (K:=K) (c':=Q3a e.chi K (rrG A (nnN n N) f)) (fun q i hl=>(Q4a hl).symm) hn hr hc (fun q i j hl hj=>?_) (fun _ _ _ _ _ _ _ _=>rfl)⟩
 rw[Q2a hl] at hj⊢
 by_cases g:q - K=0/\i<n
 · obtain ⟨g',p',cap,cur,ty,h1,h2,h3,h4,h5⟩:=key i g.2
   have e1:rrG A (nnN n N) f (q - K) i=⟨some ⟨g',p',none⟩,N,cap,1,fun j=>[.bool (f i j)]⟩:=by
    unfold rrG;rw[if_pos g.1,h1,Qde g.2]
   rw[e1] at hj⊢
   obtain ⟨b1,b2,b3,b4,b5⟩:=F.ext.ex _ _ h2
   refine ⟨g',p',rfl,(Array.getElem?_eq_some_iff.1 b3).1,by simp,b4,b5,[.bool (f i j)],⟨rfl,trivial⟩,fun t v ht=>?_⟩
   cases t with
   | zero=>
     simp at ht
     subst ht
     rw[cell_of_row w1 g' _ cur ty (0,0) b3]
     have:=h5 j hj
     simpa using this
   | succ t=>simp at ht
 · have e1:(rrG A (nnN n N) f (q - K) i).n=0:=by
    unfold rrG
    split
    · rename_i g2;exact if_neg fun h=>g ⟨g2,h⟩
    · rfl
   rw[e1] at hj
   exact absurd hj (Nat.not_lt_zero _)
theorem Qw1 {e:Env} {a:Act} {s:List Act} {w1:World} {v:Value} (K:Nat) {n N:Nat} {V:Nat->Value} {f:B9y} (hR:RR E n N V f) {X x:SV} {r:(Nat->Option Addr×Nat)->List ORow} {sel:List RSrc} (F:Fit e (@Base.mk w [] ⟨⟨E⟩⟩) st a s w1) (hce:e.chi=c) (hX:X.is e v) (hx:Qyo sel X x) (hr:∀A:Nat->Option Addr×Nat,(∀i,i<n->V i=.slice (A i).1 N (A i).2)->Qtf st sel (r A)) (hn:ndS sel=true)
 (hq:st.qb K=true) (hqr:qbR K st.r) (hc:∀q i j,q<K->j<(c q i).n->qbL K ((c q i).el j)=true) (hXq:X.qb K=true) (hp:∀A,Qic (r A)) (hxx:x.noX=true):RetX w (fun _:Nat->Option Addr×Nat=>x) r (fun A=>rrG A (nnN n N) f) (.returned v) w1:=by
 obtain ⟨A,h1,h2,h3⟩:=hR.fit K F hce hq hqr hc
 obtain ⟨rho,chi,sg⟩:=e
 subst hce
 exact Q0t (A:=A) (x:=fun _=>x) (r:=r) (G:=fun A=>rrG A (nnN n N) f) h3 rfl (SV.is_chi (fun q i hl=>(Q4a hl).symm) hXq hX) hx (hr A h1) hn (fun p i j hj=>Qwc p i j hj) h2 (hp A) hxx
theorem Q6q (K:Nat) {n N:Nat} {V:Nat->Value} {f:B9y} (hT:TOk P T) (hR:RR E n N V f) {fn:Func} {X x:SV} {r:(Nat->Option Addr×Nat)->List ORow} {sel:List RSrc} (h:Qul T c st fn.results.toList=some X) (hs:Qaz X x=sel) (hx:Qyo sel X x) (hr:∀A:Nat->Option Addr×Nat,(∀i,i<n->V i=.slice (A i).1 N (A i).2)->Qtf st sel (r A)) (hn:ndS sel=true)
 (hq:st.qb K=true) (hqr:qbR K st.r) (hc:∀q i j,q<K->j<(c q i).n->qbL K ((c q i).el j)=true) (hXq:X.qb K=true) (hp:∀A,Qic (r A)) (hxx:x.noX=true):OutOk P (bodyPost P fn (RetX w (fun _:Nat->Option Addr×Nat=>x) r (fun A=>rrG A (nnN n N) f))) c (@Base.mk w [] ⟨⟨E⟩⟩) (.ret st):=
 Q5d hT h fun _ _ _ _ _ hce F hv=>Qw1 K hR F hce hv hx hr hn hq hqr hc hXq hp hxx
end
def swI (p q k:Nat):Nat:=if k=p then q else if k=q then p else k
theorem Qyr (p q k:Nat):swI p q (swI p q k)=k:=by
 unfold swI
 repeat' split
 all_goals omega
def swN {α:Type} (l:List α) (p q:Nat):List α:=match nth l p,nth l q with
 | some x,some y=>Q0b (Q0b l p y) q x
 | _,_=>l
theorem Qnl {α:Type} (l:List α) {p q:Nat} (hp:p<l.length) (hq:q<l.length) (i:Nat):(swN l p q)[i]? =l[swI p q i]? :=by
 unfold swN
 rw[Qva,Qva,List.getElem?_eq_getElem hp,List.getElem?_eq_getElem hq]
 simp only[Qci,Qkf]
 unfold swI
 by_cases h1:i=q
 · subst h1
   rw[if_pos rfl,if_pos hq]
   by_cases h2:i=p
   · subst h2;rw[if_pos rfl,List.getElem?_eq_getElem hp]
   · rw[if_neg h2,if_pos rfl,List.getElem?_eq_getElem hp]
 · rw[if_neg h1]
   by_cases h2:i=p
   · subst h2;rw[if_pos rfl,if_pos rfl,if_pos hp,List.getElem?_eq_getElem hq]
   · rw[if_neg h2,if_neg h2,if_neg h1]
theorem Qp6 {α:Type} (l:List α) (p q:Nat):(swN l p q).length=l.length:=by
 unfold swN
 split
 · rw[Qkf,Qkf]
 · rfl
def SC.sw (p q:Nat):SC->SC
 | .rs k=>.rs (swI p q k)
 | .rp k es j o=>.rp (swI p q k) es j o
 | x=>x
def swL (p q:Nat):List SC->List SC
 | []=>[]
 | c::l=>c.sw p q::swL p q l
def SA.sw (p q:Nat):SA->SA
 | .one c=>.one (c.sw p q)
 | .agg l=>.agg (swL p q l)
def swA (p q:Nat):List SA->List SA
 | []=>[]
 | c::l=>c.sw p q::swA p q l
def SV.sw (p q:Nat):SV->SV
 | .pt a=>.pt (a.sw p q)
 | .tup l=>.tup (swA p q l)
def swV (p q:Nat):List SV->List SV
 | []=>[]
 | c::l=>c.sw p q::swV p q l
def swF (p q:Nat):List (List SV)->List (List SV)
 | []=>[]
 | c::l=>swV p q c::swF p q l
def swH (p q:Nat):List (Option (List SC))->List (Option (List SC))
 | []=>[]
 | none::l=>none::swH p q l
 | some c::l=>some (swL p q c)::swH p q l
def St.sw (st:St) (p q:Nat):St:=⟨swV p q st.t,swH p q st.h,swF p q st.fr,swN st.r p q⟩
section
variable {e:Env} {p q:Nat} {g:List Value}
theorem SC.sw_is (hq:∀k v,e.sg[k]? =some v->g[swI p q k]? =some v) {x:SC} {v:Value} (h:x.is e v):(x.sw p q).is ⟨e.rho,e.chi,g⟩ v:=by
 cases x<;>try exact h
 case rs k=>exact ⟨hq k v h.1,h.2⟩
 case rp k es j o=>
  obtain ⟨b,p',n,c,h1,h2⟩:=h
  exact ⟨b,p',n,c,hq k _ h1,h2⟩
 case fn f cap=>
  obtain ⟨vs,h1,h2⟩:=h
  refine ⟨vs,h1,?_⟩
  clear h1
  have key:∀(l:List (Nat×Nat)) (vs:List Value),Qfd e l vs->Qfd ⟨e.rho,e.chi,g⟩ l vs:=fun l=>by
   induction l with
   | nil=>intro vs h;cases vs<;>exact h
   | cons c l ih=>
     intro vs h
     cases vs with
     | nil=>exact h
     | cons v vs=>exact ⟨h.1,ih vs h.2⟩
  exact key _ _ h2
theorem Qnz (hq:∀k v,e.sg[k]? =some v->g[swI p q k]? =some v):∀{l:List SC} {vs:List Value},isL e l vs->isL ⟨e.rho,e.chi,g⟩ (swL p q l) vs
 | [],[],_=>trivial
 | c::l,v::vs,h=>⟨SC.sw_is hq h.1,Qnz hq h.2⟩
 | [],_::_,h=>h.elim
 | _::_,[],h=>h.elim
theorem SA.sw_is (hq:∀k v,e.sg[k]? =some v->g[swI p q k]? =some v) {x:SA} {v:Value} (h:x.is e v):(x.sw p q).is ⟨e.rho,e.chi,g⟩ v:=by
 cases x
 · exact SC.sw_is hq h
 · obtain ⟨vs,hv,hl⟩:=h;exact ⟨vs,hv,Qnz hq hl⟩
theorem Ql3 (hq:∀k v,e.sg[k]? =some v->g[swI p q k]? =some v):∀{l:List SA} {vs:List Value},isA e l vs->isA ⟨e.rho,e.chi,g⟩ (swA p q l) vs
 | [],[],_=>trivial
 | c::l,v::vs,h=>⟨SA.sw_is hq h.1,Ql3 hq h.2⟩
 | [],_::_,h=>h.elim
 | _::_,[],h=>h.elim
theorem SV.sw_is (hq:∀k v,e.sg[k]? =some v->g[swI p q k]? =some v) {x:SV} {v:Value} (h:x.is e v):(x.sw p q).is ⟨e.rho,e.chi,g⟩ v:=by
 cases x
 · exact SA.sw_is hq h
 · obtain ⟨vs,hv,hl⟩:=h;exact ⟨vs,hv,Ql3 hq hl⟩
theorem Qoz (hq:∀k v,e.sg[k]? =some v->g[swI p q k]? =some v):∀{l:List SV} {vs:List Value},isV e l vs->isV ⟨e.rho,e.chi,g⟩ (swV p q l) vs
 | [],[],_=>trivial
 | c::l,v::vs,h=>⟨SV.sw_is hq h.1,Qoz hq h.2⟩
 | [],_::_,h=>h.elim
 | _::_,[],h=>h.elim
theorem Qm3 (hq:∀k v,e.sg[k]? =some v->g[swI p q k]? =some v):∀{ts:List (List SV)} {us:List Act},Qzl e ts us->Qzl ⟨e.rho,e.chi,g⟩ (swF p q ts) us
 | [],[],_=>trivial
 | c::l,v::vs,h=>⟨⟨h.1.1,Qoz hq h.1.2⟩,Qm3 hq h.2⟩
 | [],_::_,h=>h.elim
 | _::_,[],h=>h.elim
end
theorem Qho {p q:Nat}:∀{l:List (Option (List SC))} {k:Nat} {cs:List SC},(swH p q l)[k]? =some (some cs)->∃cs0,l[k]? =some (some cs0)/\cs=swL p q cs0
 | [],k,cs,h=>by simp[swH] at h
 | none::l,0,cs,h=>by simp[swH] at h
 | some c::l,0,cs,h=>by simp[swH] at h;exact ⟨c,by simp,h.symm⟩
 | none::l,k+1,cs,h=>by simpa using Qho (l:=l) (by simpa [swH] using h)
 | some c::l,k+1,cs,h=>by simpa using Qho (l:=l) (by simpa [swH] using h)
theorem Qhj {p q:Nat}:∀l:List (Option (List SC)),(swH p q l).length=l.length
 | []=>rfl
 | none::l=>by simp[swH,Qhj l]
 | some _::l=>by simp[swH,Qhj l]
section
variable {P:Program} {Q:E9z} {c:R9z} {w0:Base}
theorem Fit.sw {e:Env} {st:St} {a:Act} {s:List Act} {w:World} (F:Fit e w0 st a s w) {p q:Nat} (hp:p<st.r.length) (hq:q<st.r.length):
 Fit ⟨e.rho,e.chi,swN e.sg p q⟩ w0 (st.sw p q) a s w:=by
 have hl:=F.rows.len
 have hg:∀k v,e.sg[k]? =some v->(swN e.sg p q)[swI p q k]? =some v:=fun k v h=>by
  rw[Qnl _ o9 o9,Qyr];exact h
 have hH:∀k b,Qhd ⟨e.rho,e.chi,swN e.sg p q⟩ (st.sw p q) k b->Qhd e st k b:=fun k b ⟨cs,h1,h2⟩=>by
  obtain ⟨cs0,h3,_⟩:=Qho h1
  exact ⟨cs0,h3,h2⟩
 have hR:∀k b,Qdd ⟨e.rho,e.chi,swN e.sg p q⟩ (st.sw p q) k b->Qdd e st (swI p q k) b:=fun k b ⟨R,v,h1,h2,h3⟩=>by
  simp only[St.sw] at h1 h2
  rw[Qnl _ hp hq] at h1
  rw[Qnl _ o9 o9] at h2
  exact ⟨R,v,h1,h2,h3⟩
 refine ⟨Qm3 hg F.fr,F.dfr,Qoz hg F.tm,F.blw,F.lo,F.hi,F.nd,by simp only[St.sw,Qhj];exact F.len,fun k b cs h1 h2=>?_,⟨fun q' i j hj=>?_,fun b o hbo=>?_,F.ext.exx⟩,F.pre,⟨by simp only[St.sw,Qp6];exact hl,fun k R h=>?_,fun k b h=>F.rows.lo _ b (hR k b h),fun k b h=>F.rows.hi _ b (hR k b h),fun k k' b h h'=>?_,fun k b h i hi=>F.rows.no _ b (hR k b h) i (hH i b hi)⟩⟩
 · obtain ⟨cs0,h3,rfl⟩:=Qho h2
   obtain ⟨vs,t,g1,g2⟩:=F.cells k b cs0 h1 h3
   exact ⟨vs,t,g1,Qnz hg g2⟩
 · obtain ⟨b,p',f1,f2,f3,f4,f5,f6⟩:=F.ext.ok q' i j hj
   exact ⟨b,p',f1,f2,f3,fun k h=>f4 k (hH k b h),fun k h=>f5 _ (hR k b h),f6⟩
 · obtain ⟨f1,f2,f3,f4,f5⟩:=F.ext.ex b o hbo
   exact ⟨f1,f2,f3,fun k h=>f4 k (hH k b h),fun k h=>f5 _ (hR k b h)⟩
 · simp only[St.sw] at h
   rw[Qnl _ hp hq] at h
   obtain ⟨v,xs,g1,g2⟩:=F.rows.row _ R h
   exact ⟨v,xs,by simp only;rw[Qnl _ o9 o9];exact g1,g2⟩
 · have:=F.rows.nd _ _ b (hR k b h) (hR k' b h')
   have h2:=congrArg (swI p q) this
   rwa [Qyr,Qyr] at h2
theorem Qx4 {σ:Type} (C:σ->Nat->Nat->Row) (ws:List Nat) (ups:σ->List (Nat×SV)) (hups:σ->List (Nat×List SC)) (rr:σ->List (Option ORow)) {ops:Array Oper} {l:List Bool} {f:Nat} {k:List Item} {st:St} (hk:noA k=true)
 (h1:Goes P Q c w0 (.aops ops l f::.stop (Q3z C w0 (fun y=>{ st.lay ws (ups y) (hups y) [] with r:=st.r++rr y }))::k) st) (h2:∀y,Goes P Q (C y) w0 k { st.lay ws (ups y) (hups y) [] with r:=st.r++rr y }):Goes P Q c w0 (.aops ops l f::k) st:=Qmw C _ hk h1 h2
theorem Qww (p q:Nat) {σ:Type} {C:σ->Nat->Nat->Row} {inv:σ->St} {k:List Item} {st:St} (hp:p<st.r.length) (hq:q<st.r.length) (y:σ) (hcy:c=C y) (h:Le (st.sw p q) (inv y)) (hb:(inv y).bnd=true) (hw:w0.mo.length<=(inv y).h.length):OutOk P Q c w0 (.stop (Q3z C w0 inv) k st):=
 ⟨fun e s a w hc F=>⟨y,(⟨e.rho,e.chi,swN e.sg p q⟩:Env).cut (inv y).h.length (inv y).r.length,hc.trans hcy,(F.sw hp hq).le h hb hw⟩⟩
end
section
variable {P:Program} {Q:E9z} {c:R9z} {w0:Base} {T:Tb}
theorem Fit.tellH {e:Env} {st:St} {a:Act} {s:List Act} {w:World} (F:Fit e w0 st a s w) {k:Nat} {cs cs':List SC} (hk:st.h[k]? =some (some cs)) (hl:∀vs,isL e cs vs->isL e cs' vs):Fit e w0 { st with h:=Q0b st.h k (some cs') } a s w:=by
 have hget:∀j cs1,(Q0b st.h k (some cs'))[j]? =some (some cs1)->∃cs0,st.h[j]? =some (some cs0)/\∀vs,isL e cs0 vs->isL e cs1 vs:=fun j cs1 h=>by
  rw[Qci] at h
  split at h
  · rename_i hj
    subst hj
    split at h
    · cases h;exact ⟨cs,hk,hl⟩
    · cases h
  · exact ⟨cs1,h,fun _ h=>h⟩
 have hH:∀j b,Qhd e { st with h:=Q0b st.h k (some cs') } j b->Qhd e st j b:=fun j b ⟨cs1,h1,h2⟩=>by
  obtain ⟨cs0,h3,_⟩:=hget j cs1 h1
  exact ⟨cs0,h3,h2⟩
 refine ⟨F.fr,F.dfr,F.tm,F.blw,F.lo,F.hi,F.nd,by simp only[Qkf];exact F.len,fun j b cs1 h1 h2=>?_,F.ext.kept rfl (Nat.le_refl _) (fun _ _ _ _ _=>rfl) (fun k b h=>.inl (hH k b h)) (fun q b h=>.inl h),F.pre,⟨F.rows.len,F.rows.row,F.rows.lo,F.rows.hi,F.rows.nd,fun q b h k hk=>F.rows.no q b h k (hH k b hk)⟩⟩
 obtain ⟨cs0,h3,h4⟩:=hget j cs1 h2
 obtain ⟨vs,t,g1,g2⟩:=F.cells j b cs0 h1 h3
 exact ⟨vs,t,g1,h4 _ g2⟩
theorem Qem {e:Env} {x y:SC} (hxy:∀v,x.is e v->y.is e v):∀{l:List SC} {o:Nat} {vs:List Value},nth l o=some x->isL e l vs->isL e (Qka l o [y]) vs
 | c::l,0,v::vs,hn,h=>by
   simp only[nth,Option.some.injEq] at hn
   subst hn
   have e1:Qka l 0 ([]:List SC)=l:=by cases l<;>rfl
   simp only[Qka,e1]
   exact ⟨hxy v h.1,h.2⟩
 | c::l,o+1,v::vs,hn,h=>⟨h.1,Qem hxy (by simpa [nth] using hn) h.2⟩
 | [],_,_,hn,_=>by simp[nth] at hn
 | _::_,_,[],_,h=>h.elim
def St.rowedH (st:St) (k o es:Nat):Option St:=match nth st.h k with
 | some (some cs)=>match nth cs o with
   | some (.val (.slice none 0 0))=>some { st with h:=Q0b st.h k (some (Qka cs o [.rs (Qyn st.r)])),r:=st.r++[some ⟨0,es,fun _=>[]⟩] }
   | _=>none
 | _=>none
theorem Qlu {e:Env} {st st':St} {a:Act} {s:List Act} {w:World} (F:Fit e w0 st a s w) (k o es:Nat) (h:st.rowedH k o es=some st'):∃e':Env,e'.chi=e.chi/\Fit e' w0 st' a s w:=by
 unfold St.rowedH at h
 split at h
 · rename_i cs hk
   split at h
   · rename_i ho
     cases h
     rw[Qva] at hk
     have hrow:Qqv e st w st.r.length ⟨0,es,fun _=>[]⟩ (.pt (.one (.rs st.r.length))) none (.slice none 0 0) w:=by
      refine ⟨.slice none 0 0,[],none,?_,⟨by simp,by simp,.inl ⟨rfl,rfl⟩⟩,fun j hj=>by simp at hj,⟨rfl,rfl,rfl,Nat.le_refl _,fun _ _ _=>rfl⟩,fun g hg=>(by cases hg),fun g hg=>(by simp[Value.ownBlock] at hg),Nat.le_refl _,fun h=>absurd h (Nat.lt_irrefl _)⟩
      rw[if_neg (Nat.lt_irrefl _)]
      exact ⟨by simp[Env.addS,<-F.rows.len],rfl⟩
     obtain ⟨e',h1,h2,h3⟩:=F.rowed hrow
     have e3:st.row st.r.length ⟨0,es,fun _=>[]⟩ none={ st with r:=st.r++[some ⟨0,es,fun _=>[]⟩] }:=by
      unfold St.row
      rw[if_neg (by rw[Qyd];exact Nat.lt_irrefl _)]
      rfl
     rw[e3] at h3
     refine ⟨e',h1,?_⟩
     have:=h3.tellH (k:=k) (cs:=cs) (cs':=Qka cs o [.rs (Qyn st.r)]) hk (fun vs hv=>Qem (x:=.val (.slice none 0 0)) (fun v hv=>?_) ho hv)
     · exact this
     · have hv:v=.slice none 0 0:=hv
       subst hv
       rw[Qyd]
       exact h2
   · cases h
 · cases h
theorem Q9q (k o es:Nat) {body:Code} {its:List Item} {st st':St} (h:st.rowedH k o es=some st') (hg:OutOk P Q c w0 (.loop body its st')):OutOk P Q c w0 (.loop body its st):=
 Qpt (fun e s a w hc F=>let ⟨e',h1,h2⟩:=Qlu F k o es h;⟨e',h1.trans hc,h2⟩) hg
end
end Go.Proofs.YtemnfncbgalljaaGreat
