/- Walks by computing, more: rows of truth values in a row, all the call's own: elements stored where they lie; at the end they are rows of the outside. No condition. -/
import Derived.Test.YtaafofmfbcnaaaaGreatV1
namespace Go.Proofs.YtaafofmfbcnaaaaGreat
open Go.RowKit
open Go.ChangeMaps (setBlock)
set_option linter.unusedVariables false
set_option linter.unusedSimpArgs false
structure RR (E:Nat→Option Obj) (n N:Nat) (V:Nat→Value) (f:Nat→Nat→Bool):Prop where
 row:∀i,i<n→∃g p cap cur ty,V i=.slice (some ⟨g,p,none⟩) N cap∧E g=some (.cells cur ty (0,0))∧N≤cap∧cap≤maxLen∧p+cap≤cur.size∧∀j,j<N→cur[p+j]? =some (.bool (f i j))
 nd:∀i j b,i<n→j<n→(V i).ownBlock=some b→(V j).ownBlock=some b→i=j
theorem paste1_get {α:Type}:∀(l:List α) (o:Nat) (x:α) (j:Nat),o<l.length→(pasteL l o [x])[j]? =if j=o then some x else l[j]?
 | [],o,x,j,h=>by simp at h
 | a::l,0,x,j,_=>by
   have e:pasteL l 0 ([]:List α)=l:=by cases l<;>rfl
   cases j<;>simp[pasteL,e]
 | a::l,o+1,x,j,h=>by
   cases j with
   | zero=>simp[pasteL]
   | succ j=>simp only[pasteL,List.getElem?_cons_succ,paste1_get l o x j (by simpa using h),Nat.add_right_cancel_iff]
theorem paste1_len {α:Type}:∀(l:List α) (o:Nat) (x:α),(pasteL l o [x]).length=l.length
 | [],o,x=>by cases o<;>rfl
 | a::l,0,x=>by
   have e:pasteL l 0 ([]:List α)=l:=by cases l<;>rfl
   simp[pasteL,e]
 | a::l,o+1,x=>by simp[pasteL,paste1_len l o x]
section
variable {E:Nat→Option Obj} {n N:Nat} {V:Nat→Value} {f:Nat→Nat→Bool}
theorem RR.first:RR E 0 N V f:=⟨fun i h=>absurd h (Nat.not_lt_zero _),fun i _ _ h=>absurd h (Nat.not_lt_zero _)⟩
theorem RR.ext {n':Nat} {V':Nat→Value} {f':Nat→Nat→Bool} (h:RR E n N V f) (hn:n'≤n) (hV:∀i,i<n'→V' i=V i) (hf:∀i j,i<n'→j<N→f' i j=f i j):RR E n' N V' f':=by
 refine ⟨fun i hi=>?_,fun i j b hi hj h1 h2=>h.nd i j b (by omega) (by omega) (by rw[←hV i hi];exact h1) (by rw[←hV j hj];exact h2)⟩
 obtain ⟨g,p,cap,cur,ty,h1,h2,h3,h4,h5,h6⟩:=h.row i (by omega)
 exact ⟨g,p,cap,cur,ty,(hV i hi).trans h1,h2,h3,h4,h5,fun j hj=>by rw[hf i j hi hj];exact h6 j hj⟩
theorem RR.push {E':Nat→Option Obj} {ad:Option Addr} {cap:Nat} {xs:List Value} (h:RR E n N V f) (hN:0<N) (g1:∀b,(Value.slice ad N cap).ownBlock≠some b→E' b=E b) (g2:∀b,(Value.slice ad N cap).ownBlock=some b→E b=none) (g3:ExRow E' 1 (.slice ad N cap) N xs) {f':Nat→Bool} (g4:∀j,j<N→xs[j]? =some (.bool (f' j))):
 RR E' (n+1) N (fun i=>if i=n then .slice ad N cap else V i) (fun i j=>if i=n then f' j else f i j):=by
 rcases g3.2.2 with ⟨_,h0⟩|⟨b,o,cap',cur,ty,hv,hE,q1,q2,q3,q4⟩
 · omega
 obtain ⟨rfl,-,rfl⟩:=Value.slice.inj hv
 have hne:∀i,i<n→(V i).ownBlock≠some b:=fun i hi e=>by
  obtain ⟨g,p,cap',cur',ty',h1,h2,_⟩:=h.row i hi
  rw[h1] at e
  obtain rfl:=Option.some.inj e
  have:=g2 _ rfl
  rw[h2] at this;cases this
 refine ⟨fun i hi=>?_,fun i j b' hi hj h1 h2=>?_⟩
 · by_cases e:i=n
   · subst e
     refine ⟨b,o,cap,cur,ty,by simp,hE,q1,q2,by omega,fun j hj=>?_⟩
     have:=g4 j hj
     rw[←q4] at this
     simp only[List.getElem?_take,List.getElem?_drop] at this
     rw[if_pos (by omega)] at this
     simpa using this
   · obtain ⟨g,p,cap',cur',ty',h1,h2,h3,h4,h5,h6⟩:=h.row i (by omega)
     refine ⟨g,p,cap',cur',ty',by simp only[if_neg e];exact h1,?_,h3,h4,h5,fun j hj=>by simp only[if_neg e];exact h6 j hj⟩
     rw[g1 g (fun e2=>hne i (by omega) (by rw[h1];exact (show some b=some g from e2).symm))]
     exact h2
 · by_cases e:i=n<;>by_cases e2:j=n
   · omega
   · rw[if_pos e] at h1;rw[if_neg e2] at h2
     cases h1
     exact absurd h2 (hne j (by omega))
   · rw[if_neg e] at h1;rw[if_pos e2] at h2
     cases h2
     exact absurd h1 (hne i (by omega))
   · rw[if_neg e] at h1;rw[if_neg e2] at h2
     exact h.nd i j b' (by omega) (by omega) h1 h2
theorem RR.put {i j g p cap:Nat} {cur:Array Value} {ty:TypeId} {b:Bool} (h:RR E n N V f) (hi:i<n) (hj:j<N) (hV:V i=.slice (some ⟨g,p,none⟩) N cap) (hE:E g=some (.cells cur ty (0,0))) (hp:p+j<cur.size):
 RR (exSet E g (.cells (pasteL cur.toList (p+j) [.bool b]).toArray ty (0,0))) n N V (fun i' j'=>if i'=i∧j'=j then b else f i' j'):=by
 refine ⟨fun i' hi'=>?_,h.nd⟩
 obtain ⟨g',p',cap',cur',ty',h1,h2,h3,h4,h5,h6⟩:=h.row i' hi'
 by_cases e:i'=i
 · subst e
   rw[hV] at h1
   obtain ⟨e1,-,rfl⟩:=Value.slice.inj h1
   cases e1
   rw[hE] at h2;cases h2
   refine ⟨g,p,cap,_,ty,hV,exSet_at _ _ _,h3,h4,by rw[List.size_toArray,paste1_len];simpa using h5,fun j' hj'=>?_⟩
   rw[List.getElem?_toArray,paste1_get _ _ _ _ (by simpa using hp)]
   by_cases e:j'=j
   · subst e;rw[if_pos rfl];simp
   · rw[if_neg (by omega)]
     simp only[e,and_false,if_false]
     simpa using h6 j' hj'
 · refine ⟨g',p',cap',cur',ty',h1,?_,h3,h4,h5,fun j' hj'=>by simp only[e,false_and,if_false];exact h6 j' hj'⟩
   rw[exSet_ne (fun e2=>e (h.nd i' i g' hi' hi (by rw[h1];rfl) (by rw[hV,e2];rfl)))]
   exact h2
end
section
variable {P:Program} {Q:Exit→Act→World→Prop} {c:Nat→Nat→Row} {w:World} {E:Nat→Option Obj} {T:Tb}
variable {o:Oper} {all:Array Oper} {rest:List Oper} {k:List Item} {st:St} {t:Nat} {x y:Operand}
theorem go_valAddr {ea:Bool} {z:List SC} {j g p n cap:Nat} (hT:TOk P T) (hg:o.guard=none) (ho:o.op=.indexAddr t x y) (ht:T.ty t=some (.slice 1 ea z)) {v:Value} (hx:evO st x=.pt (.one (.val v))) (hv:v=.slice (some ⟨g,p,none⟩) n cap) (hy:evO st y=.pt (.one (.int .i64 (.ofNat j)))) (hj:j<n)
 (h:Goes P Q c (@Base.mk w [] ⟨⟨E⟩⟩) (.ops all rest::k) (st.put o.dst (.pt (.one (.val (.pointer (some ⟨g,p+j,none⟩))))))):OutOk P Q c (@Base.mk w [] ⟨⟨E⟩⟩) (.man o all rest k st):=
 ⟨fun e s a w1 hc F=>by
  have h1:=evO_is F.tm x
  have h2:=evO_is F.tm y
  rw[hx] at h1
  rw[hy] at h2
  have h1:=(one_val h1).trans hv
  have h2:=one_int h2
  show wpList P all (KQ P Q c k s) (o::rest) a w1
  refine list_op hg ?_
  unfold Oper.wp
  have:(execOp a.eval o).run P w1=.ok (.value (.pointer (some ⟨g,p+j,none⟩))) w1:=by
   have h3:=indexAt_slice (w:=w1) hT ht g p n cap .i64 (.ofNat j) (Int.natCast_nonneg _) (Int.ofNat_lt.2 hj)
   simp only[Int.toNat_natCast,Int.ofNat_eq_natCast,Nat.mul_one] at h3
   simp[execOp,ho,h1,h2,h3]
  rw[this,Oper.upon_value]
  exact h.run e s _ _ hc (F.put (x:=.pt (.one (.val (.pointer (some ⟨g,p+j,none⟩))))) rfl)⟩
theorem go_obStore {z:SC} {g p:Nat} {cur:Array Value} {ty:TypeId} {b:Bool} (hT:TOk P T) (hg:o.guard=none) (ho:o.op=.store t x y) (ht:T.ty t=some (.one z)) (hx:evO st x=.pt (.one (.val (.pointer (some ⟨g,p,none⟩))))) (hy:evO st y=.pt (.one (.bool b))∨evO st y=.pt (.one (.lit b)))
 (hE:E g=some (.cells cur ty (0,0))) (hp:p<cur.size)
 (h:Goes P Q c (@Base.mk w [] ⟨⟨exSet E g (.cells (pasteL cur.toList p [.bool b]).toArray ty (0,0))⟩⟩) (.ops all rest::k) (st.put o.dst undefS)):OutOk P Q c (@Base.mk w [] ⟨⟨E⟩⟩) (.man o all rest k st):=
 go_manS (α:=Unit) (fun _=>exSet E g (.cells (pasteL cur.toList p [.bool b]).toArray ty (0,0))) (fun _=>True) hg (fun e s a w1 hc F=>by
  have h1:=evO_is F.tm x
  have h2:=evO_is F.tm y
  rw[hx] at h1
  have h1:=one_val h1
  have h2:a.eval y=.bool b:=by rcases hy with hy|hy<;>rw[hy] at h2<;>exact h2
  obtain ⟨i,d,zv,g1,g2,g3,_⟩:=(tyB_spec (hT.ty t _ ht)).ex
  obtain ⟨w',e1,e2,e3,e4,e5,e6,e7⟩:=run_storeCells_own (P:=P) [.bool b] 0 w1 g p cur ty (F.at_ _ _ hE).2 (show p+0+1≤cur.size by omega) (fun v hv=>by rw[List.mem_singleton.1 hv];rfl)
  have hlt:g<w1.heap.size:=(Array.getElem?_eq_some_iff.1 (F.at_ _ _ hE).2).1
  refine ⟨(),w',trivial,?_,⟨e5,e6,e7,Nat.le_of_eq e4.symm,fun j hj hn=>e3 j (fun e=>by (have hn:E j=none:=hn);rw[e,hE] at hn;cases hn),fun j ob hb=>?_⟩⟩
  · have hst:(Instr.storeAt t (a.eval x) (a.eval y)).run P w1=.ok () w':=by
     have g3':i.size=1:=g3
     rw[h1,h2]
     simp only[Instr.storeAt,Instr.sureAddr,Sem.run_bind,Sem.run_pure,Result.andThen_ok,storeVar,run_sizeOf' g1,cells_of_one (show (Value.bool b).oneCell'=true from rfl),g3']
     simpa using e1
    simp[execOp,ho,hst]
  · by_cases q:j=g
    · subst q
      rw[exSet_at] at hb;cases hb
      exact ⟨(F.at_ _ _ hE).1,by simpa using e2,.inl (by show E j≠none;rw[hE];simp)⟩
    · rw[exSet_ne q] at hb
      exact ⟨(F.at_ _ _ hb).1,(e3 j q).trans (F.at_ _ _ hb).2,.inl (by show E j≠none;rw[hb];simp)⟩) fun _ _=>h
theorem go_aopV {w0:Base} {i:Nat} {l:List Bool} {f:Nat} (x:SV) (hi:all[i]? =some o) (hg:o.guard=none) (hop:∀(e:Env) (s:List Act) (a:Act) (w1:World),e.chi=c→Fit e w0 st a s w1→∃v,x.is e v∧(execOp a.eval o).run P w1=.ok (.value v) w1)
 (h:Goes P Q c w0 (.aops all (setN l i true) f::k) (st.put o.dst x)):Goes P Q c w0 (.aop all i l f::k) st:=⟨fun e s a w1 hc F=>by
 show wpOp P all (NP (KQ P Q c k s)) i (fun a w=>SX c w∧wpL P .any all (NP (KQ P Q c k s)) (SX c) f (l.toArray.setIfInBounds i true) a w) a w1
 rw[←setN_arr]
 unfold wpOp
 simp only[hi,Region.wanted,hg,if_true]
 refine .inl ?_
 obtain ⟨v,h1,h2⟩:=hop e s a w1 hc F
 unfold Oper.wp
 rw[h2,Oper.upon_value]
 exact h.run e s _ _ hc (F.put h1)⟩
theorem go_aopS {E':Nat→Option Obj} {i:Nat} {l:List Bool} {f:Nat} (hi:all[i]? =some o) (hg:o.guard=none) (hop:∀(e:Env) (s:List Act) (a:Act) (w1:World),e.chi=c→Fit e (@Base.mk w [] ⟨⟨E⟩⟩) st a s w1→∃w2,(execOp a.eval o).run P w1=.ok .skip w2∧ExStep w.heap.size E w1 E' w2)
 (h:Goes P Q c (@Base.mk w [] ⟨⟨E'⟩⟩) (.aops all (setN l i true) f::k) (st.put o.dst undefS)):Goes P Q c (@Base.mk w [] ⟨⟨E⟩⟩) (.aop all i l f::k) st:=⟨fun e s a w1 hc F=>by
 show wpOp P all (NP (KQ P Q c k s)) i (fun a w=>SX c w∧wpL P .any all (NP (KQ P Q c k s)) (SX c) f (l.toArray.setIfInBounds i true) a w) a w1
 rw[←setN_arr]
 unfold wpOp
 simp only[hi,Region.wanted,hg,if_true]
 refine .inl ?_
 obtain ⟨w2,h1,h2⟩:=hop e s a w1 hc F
 unfold Oper.wp
 rw[h1,Oper.upon_skip]
 exact h.run e s _ _ hc ((F.exstep h2).put trivial)⟩
theorem go_aopAddr {w0:Base} {i:Nat} {l:List Bool} {f:Nat} {ea:Bool} {z:List SC} {j g p n cap:Nat} (hT:TOk P T) (hi:all[i]? =some o) (hg:o.guard=none) (ho:o.op=.indexAddr t x y) (ht:T.ty t=some (.slice 1 ea z)) {v:Value} (hx:evO st x=.pt (.one (.val v))) (hv:v=.slice (some ⟨g,p,none⟩) n cap) (hy:evO st y=.pt (.one (.int .i64 (.ofNat j)))) (hj:j<n)
 (h:∀a,a=p+j→Goes P Q c w0 (.aops all (setN l i true) f::k) (st.put o.dst (.pt (.one (.val (.pointer (some ⟨g,a,none⟩))))))):Goes P Q c w0 (.aop all i l f::k) st:=
 go_aopV _ hi hg (fun e s a w1 hc F=>by
  have h1:=evO_is F.tm x
  have h2:=evO_is F.tm y
  rw[hx] at h1
  rw[hy] at h2
  have h1:=(one_val h1).trans hv
  have h2:=one_int h2
  refine ⟨_,rfl,?_⟩
  have h3:=indexAt_slice (w:=w1) hT ht g p n cap .i64 (.ofNat j) (Int.natCast_nonneg _) (Int.ofNat_lt.2 hj)
  simp only[Int.toNat_natCast,Int.ofNat_eq_natCast,Nat.mul_one] at h3
  simp[execOp,ho,h1,h2,h3]) (h _ rfl)
theorem store_bool {z:SC} {g p:Nat} {cur:Array Value} {ty:TypeId} {b:Bool} (hT:TOk P T) (ho:o.op=.store t x y) (ht:T.ty t=some (.one z)) (hx:evO st x=.pt (.one (.val (.pointer (some ⟨g,p,none⟩))))) (hy:evO st y=.pt (.one (.bool b))∨evO st y=.pt (.one (.lit b)))
 (hE:E g=some (.cells cur ty (0,0))) (hp:p<cur.size) {e:Env} {s:List Act} {a:Act} {w1:World} (F:Fit e (@Base.mk w [] ⟨⟨E⟩⟩) st a s w1):∃w2,(execOp a.eval o).run P w1=.ok .skip w2∧ExStep w.heap.size E w1 (exSet E g (.cells (pasteL cur.toList p [.bool b]).toArray ty (0,0))) w2:=by
 have h1:=evO_is F.tm x
 have h2:=evO_is F.tm y
 rw[hx] at h1
 have h1:=one_val h1
 have h2:a.eval y=.bool b:=by rcases hy with hy|hy<;>rw[hy] at h2<;>exact h2
 obtain ⟨i,d,zv,g1,g2,g3,_⟩:=(tyB_spec (hT.ty t _ ht)).ex
 obtain ⟨w',e1,e2,e3,e4,e5,e6,e7⟩:=run_storeCells_own (P:=P) [.bool b] 0 w1 g p cur ty (F.at_ _ _ hE).2 (show p+0+1≤cur.size by omega) (fun v hv=>by rw[List.mem_singleton.1 hv];rfl)
 refine ⟨w',?_,⟨e5,e6,e7,Nat.le_of_eq e4.symm,fun j hj hn=>e3 j (fun e=>by rw[e,hE] at hn;cases hn),fun j ob hb=>?_⟩⟩
 · have hst:(Instr.storeAt t (a.eval x) (a.eval y)).run P w1=.ok () w':=by
    have g3':i.size=1:=g3
    rw[h1,h2]
    simp only[Instr.storeAt,Instr.sureAddr,Sem.run_bind,Sem.run_pure,Result.andThen_ok,storeVar,run_sizeOf' g1,cells_of_one (show (Value.bool b).oneCell'=true from rfl),g3']
    simpa using e1
   simp[execOp,ho,hst]
 · by_cases q:j=g
   · subst q
     rw[exSet_at] at hb;cases hb
     exact ⟨(F.at_ _ _ hE).1,by simpa using e2,.inl (by rw[hE];simp)⟩
   · rw[exSet_ne q] at hb
     exact ⟨(F.at_ _ _ hb).1,(e3 j q).trans (F.at_ _ _ hb).2,.inl (by rw[hb];simp)⟩
theorem go_aopStore {i:Nat} {l:List Bool} {f:Nat} {z:SC} {g p:Nat} {cur:Array Value} {ty:TypeId} {b:Bool} (hT:TOk P T) (hi:all[i]? =some o) (hg:o.guard=none) (ho:o.op=.store t x y) (ht:T.ty t=some (.one z)) (hx:evO st x=.pt (.one (.val (.pointer (some ⟨g,p,none⟩))))) (hy:evO st y=.pt (.one (.bool b))∨evO st y=.pt (.one (.lit b)))
 (hE:E g=some (.cells cur ty (0,0))) (hp:p<cur.size)
 (h:∀E',E'=exSet E g (.cells (pasteL cur.toList p [.bool b]).toArray ty (0,0))→Goes P Q c (@Base.mk w [] ⟨⟨E'⟩⟩) (.aops all (setN l i true) f::k) (st.put o.dst undefS)):Goes P Q c (@Base.mk w [] ⟨⟨E⟩⟩) (.aop all i l f::k) st:=
 go_aopS hi hg (fun e s a w1 hc F=>store_bool hT ho ht hx hy hE hp F) (h _ rfl)
theorem els_lit {N:Nat} {b:Bool} {xs:List Value} (h:ElsIs c ⟨N,1,fun _=>[.lit b]⟩ xs) {j:Nat} (hj:j<N):xs[j]? =some (.bool b):=by
 have:=h j hj
 simp only[Nat.mul_one] at this
 cases hx:xs.drop j with
 | nil=>rw[hx] at this;exact this.elim
 | cons v l=>
   rw[hx] at this
   have h1:v=.bool b:=this.1
   have h2:(xs.drop j)[0]? =some v:=by rw[hx];rfl
   rw[List.getElem?_drop,Nat.add_zero] at h2
   rw[h2,h1]
def nnN (n N i:Nat):Nat:=if i<n then N else 0
theorem nnN_lt {n N i:Nat} (h:i<n):nnN n N i=N:=if_pos h
def rrG (A:Nat→Option Addr×Nat) (nn:Nat→Nat) (f:Nat→Nat→Bool):Nat→Nat→Row:=fun p i=>if p=0 then ⟨(A i).1,nn i,(A i).2,1,fun j=>[.bool (f i j)]⟩ else ⟨none,0,0,0,fun _=>[]⟩
theorem rrG_plain {A:Nat→Option Addr×Nat} {nn:Nat→Nat} {f:Nat→Nat→Bool} (p i j:Nat) (h:j<(rrG A nn f p i).n):plainL ((rrG A nn f p i).el j)=true:=by
 unfold rrG at h⊢
 split at h
 · rename_i g;rw[if_pos g];rfl
 · exact absurd h (Nat.not_lt_zero _)
theorem RR.fit {c:Nat→Nat→Row} {e:Env} {a:Act} {s:List Act} {w1:World} (K:Nat) {n N:Nat} {V:Nat→Value} {f:Nat→Nat→Bool} (hR:RR E n N V f) (F:Fit e (@Base.mk w [] ⟨⟨E⟩⟩) st a s w1) (hce:e.chi=c) (hn:st.qb K=true) (hr:qbR K st.r) (hc:∀q i j,q<K→j<(c q i).n→qbL K ((c q i).el j)=true):
 ∃A:Nat→Option Addr×Nat,(∀i,i<n→V i=.slice (A i).1 N (A i).2)∧(∀p i,NewA w (rrG A (nnN n N) f p i).a)∧Fit ⟨e.rho,chiG c K (rrG A (nnN n N) f),e.sg⟩ (@Base.mk w [] ⟨⟨fun _=>none⟩⟩) st a s w1:=by
 subst hce
 have hV:∀i,∃y:Option Addr×Nat,(i<n→V i=.slice y.1 N y.2)∧(¬i<n→y=(none,0)):=fun i=>by
  by_cases hi:i<n
  · obtain ⟨g,p,cap,_,_,h1,_⟩:=hR.row i hi
    exact ⟨(_,cap),fun _=>h1,fun hi'=>absurd hi hi'⟩
  · exact ⟨(none,0),fun hi'=>absurd hi' hi,fun _=>rfl⟩
 let A:Nat→Option Addr×Nat:=fun i=>Classical.choose (hV i)
 have hA:∀i,i<n→V i=.slice (A i).1 N (A i).2:=fun i=>(Classical.choose_spec (hV i)).1
 have hA0:∀i,¬i<n→A i=(none,0):=fun i=>(Classical.choose_spec (hV i)).2
 clear_value A
 have key:∀i,i<n→∃g p cap cur ty,A i=(some ⟨g,p,none⟩,cap)∧E g=some (.cells cur ty (0,0))∧p+cap≤cur.size∧N≤cap∧∀j,j<N→cur[p+j]? =some (.bool (f i j)):=fun i hi=>by
  obtain ⟨g,p,cap,cur,ty,h1,h2,h3,h4,h5,h6⟩:=hR.row i hi
  rw[hA i hi] at h1
  obtain ⟨a1,-,a2⟩:=Value.slice.inj h1
  exact ⟨g,p,cap,cur,ty,Prod.ext a1 a2,h2,h5,h3,h6⟩
 have hnew:∀p i,NewA w (rrG A (nnN n N) f p i).a:=fun p i b o hb=>by
  unfold rrG at hb
  split at hb
  · by_cases hi:i<n
    · obtain ⟨g',p',cap,cur,ty,h1,h2,_⟩:=key i hi
      rw[h1] at hb
      cases hb
      exact (F.ext.ex _ _ h2).1
    · rw[hA0 i hi] at hb;cases hb
  · cases hb
 have F':Fit e (@Base.mk w [] ⟨⟨fun _=>none⟩⟩) st a s w1:=F.less fun b o h=>by cases h
 refine ⟨A,hA,hnew,F'.chi (K:=K) (c':=chiG e.chi K (rrG A (nnN n N) f)) (fun q i hl=>(chiG_lt hl).symm) hn hr hc (fun q i j hl hj=>?_) (fun _ _ _ _ _ _ _ _=>rfl)⟩
 rw[chiG_ge hl] at hj⊢
 by_cases g:q - K=0∧i<n
 · obtain ⟨g',p',cap,cur,ty,h1,h2,h3,h4,h5⟩:=key i g.2
   have e1:rrG A (nnN n N) f (q - K) i=⟨some ⟨g',p',none⟩,N,cap,1,fun j=>[.bool (f i j)]⟩:=by
    unfold rrG;rw[if_pos g.1,h1,nnN_lt g.2]
   rw[e1] at hj⊢
   obtain ⟨b1,b2,b3,b4,b5⟩:=F.ext.ex _ _ h2
   refine ⟨g',p',rfl,(Array.getElem?_eq_some_iff.1 b3).1,by simp,b4,b5,[.bool (f i j)],⟨rfl,trivial⟩,fun t v ht=>?_⟩
   cases t with
   | zero=>
     simp at ht
     subst ht
     rw[cell_of_row w1 g' _ cur ty (0,0) b3]
     have:=h5 j hj
     simpa using this
   | succ t=>simp at ht
 · have e1:(rrG A (nnN n N) f (q - K) i).n=0:=by
    unfold rrG
    split
    · rename_i g2;exact if_neg fun h=>g ⟨g2,h⟩
    · rfl
   rw[e1] at hj
   exact absurd hj (Nat.not_lt_zero _)
theorem go_famE (K:Nat) {n N:Nat} {V:Nat→Value} {f:Nat→Nat→Bool} (hR:RR E n N V f) (hk:noA k=true) (hn:st.qb K=true) (hr:qbR K st.r) (hc:∀q i j,q<K→j<(c q i).n→qbL K ((c q i).el j)=true)
 (h:∀A:Nat→Option Addr×Nat,(∀i,i<n→V i=.slice (A i).1 N (A i).2)→(∀p i,NewA w (rrG A (nnN n N) f p i).a)→Goes P Q (chiG c K (rrG A (nnN n N) f)) (@Base.mk w [] ⟨⟨fun _=>none⟩⟩) k st):Goes P Q c (@Base.mk w [] ⟨⟨E⟩⟩) k st:=⟨fun e s a w1 hce F=>by
 obtain ⟨A,h1,h2,h3⟩:=hR.fit K F hce hn hr hc
 rw[KQ_chi hk]
 exact (h A h1 h2).run _ s a w1 rfl h3⟩
theorem ret_famE {e:Env} {a:Act} {s:List Act} {w1:World} {v:Value} (K:Nat) {n N:Nat} {V:Nat→Value} {f:Nat→Nat→Bool} (hR:RR E n N V f) {X x:SV} {r:(Nat→Option Addr×Nat)→List ORow} {sel:List RSrc} (F:Fit e (@Base.mk w [] ⟨⟨E⟩⟩) st a s w1) (hce:e.chi=c) (hX:X.is e v) (hx:chkV sel X x) (hr:∀A:Nat→Option Addr×Nat,(∀i,i<n→V i=.slice (A i).1 N (A i).2)→srcPs st sel (r A)) (hn:ndS sel=true)
 (hq:st.qb K=true) (hqr:qbR K st.r) (hc:∀q i j,q<K→j<(c q i).n→qbL K ((c q i).el j)=true) (hXq:X.qb K=true) (hp:∀A,plainR (r A)) (hxx:x.noX=true):RetX w (fun _:Nat→Option Addr×Nat=>x) r (fun A=>rrG A (nnN n N) f) (.returned v) w1:=by
 obtain ⟨A,h1,h2,h3⟩:=hR.fit K F hce hq hqr hc
 obtain ⟨rho,chi,sg⟩:=e
 subst hce
 exact ret_fams (A:=A) (x:=fun _=>x) (r:=r) (G:=fun A=>rrG A (nnN n N) f) h3 rfl (SV.is_chi (fun q i hl=>(chiG_lt hl).symm) hXq hX) hx (hr A h1) hn (fun p i j hj=>rrG_plain p i j hj) h2 (hp A) hxx
theorem go_ret_famE (K:Nat) {n N:Nat} {V:Nat→Value} {f:Nat→Nat→Bool} (hT:TOk P T) (hR:RR E n N V f) {fn:Func} {X x:SV} {r:(Nat→Option Addr×Nat)→List ORow} {sel:List RSrc} (h:resE T c st fn.results.toList=some X) (hs:selV X x=sel) (hx:chkV sel X x) (hr:∀A:Nat→Option Addr×Nat,(∀i,i<n→V i=.slice (A i).1 N (A i).2)→srcPs st sel (r A)) (hn:ndS sel=true)
 (hq:st.qb K=true) (hqr:qbR K st.r) (hc:∀q i j,q<K→j<(c q i).n→qbL K ((c q i).el j)=true) (hXq:X.qb K=true) (hp:∀A,plainR (r A)) (hxx:x.noX=true):OutOk P (bodyPost P fn (RetX w (fun _:Nat→Option Addr×Nat=>x) r (fun A=>rrG A (nnN n N) f))) c (@Base.mk w [] ⟨⟨E⟩⟩) (.ret st):=
 go_ret_any hT h fun _ _ _ _ _ hce F hv=>ret_famE K hR F hce hv hx hr hn hq hqr hc hXq hp hxx
theorem go_fin_famE (K:Nat) {n N:Nat} {V:Nat→Value} {f:Nat→Nat→Bool} (hT:TOk P T) (hR:RR E n N V f) {fn:Func} {X x:SV} {r:(Nat→Option Addr×Nat)→List ORow} {sel:List RSrc} (h:resE T c st fn.results.toList=some X) (hs:selV X x=sel) (hx:chkV sel X x) (hr:∀A:Nat→Option Addr×Nat,(∀i,i<n→V i=.slice (A i).1 N (A i).2)→srcPs st sel (r A)) (hn:ndS sel=true)
 (hq:st.qb K=true) (hqr:qbR K st.r) (hc:∀q i j,q<K→j<(c q i).n→qbL K ((c q i).el j)=true) (hXq:X.qb K=true) (hp:∀A,plainR (r A)) (hxx:x.noX=true):OutOk P (bodyPost P fn (RetX w (fun _:Nat→Option Addr×Nat=>x) r (fun A=>rrG A (nnN n N) f))) c (@Base.mk w [] ⟨⟨E⟩⟩) (.fin st):=
 go_fin_any hT h fun _ _ _ _ _ hce F hv=>ret_famE K hR F hce hv hx hr hn hq hqr hc hXq hp hxx
end
end Go.Proofs.YtaafofmfbcnaaaaGreat
