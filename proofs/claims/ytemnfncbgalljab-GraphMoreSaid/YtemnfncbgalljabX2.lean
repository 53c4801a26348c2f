/- Lemmas. No condition. -/
import Derived.Test.YtemnfncbgalljabV1
namespace Go.Proofs.Ytemnfncbgalljab
open Go.RowKit
open Go.ChangeMaps (setBlock)
set_option linter.all false
structure RR (E:O9z) (n N:Nat) (V:Nat->Value) (f:B9y):Prop where
 row:∀i,i<n->∃g p cap cur ty,V i=.slice (some ⟨g,p,none⟩) N cap/\E g=some (.cells cur ty (0,0))/\N<=cap/\cap<=maxLen/\p+cap<=cur.size/\∀j,j<N->cur[p+j]? =some (.bool (f i j))
 nd:∀i j b,i<n->j<n->(V i).ownBlock=some b->(V j).ownBlock=some b->i=j
theorem Qom {α:Type}:∀(l:List α) (o:Nat) (x:α) (j:Nat),o<l.length->(Qka l o [x])[j]? =if j=o then some x else l[j]?
 | [],o,x,j,h=>by simp at h
 | a::l,0,x,j,_=>by
   have e:Qka l 0 ([]:List α)=l:=by cases l<;>rfl
   cases j<;>simp[Qka,e]
 | a::l,o+1,x,j,h=>by
   cases j with
   | zero=>simp[Qka]
   | succ j=>simp only[Qka,List.getElem?_cons_succ,Qom l o x j (by simpa using h),Nat.add_right_cancel_iff]
theorem Qpm {α:Type}:∀(l:List α) (o:Nat) (x:α),(Qka l o [x]).length=l.length
 | [],o,x=>by cases o<;>rfl
 | a::l,0,x=>by
   have e:Qka l 0 ([]:List α)=l:=by cases l<;>rfl
   simp[Qka,e]
 | a::l,o+1,x=>by simp[Qka,Qpm l o x]
section
variable {E:O9z} {n N:Nat} {V:Nat->Value} {f:B9y}
theorem RR.ext {n':Nat} {V':Nat->Value} {f':B9y} (h:RR E n N V f) (hn:n'<=n) (hV:∀i,i<n'->V' i=V i) (hf:∀i j,i<n'->j<N->f' i j=f i j):RR E n' N V' f':=by
 refine ⟨fun i hi=>?_,fun i j b hi hj h1 h2=>h.nd i j b o9 o9 (by rw[<-hV i hi];exact h1) (by rw[<-hV j hj];exact h2)⟩
 obtain ⟨g,p,cap,cur,ty,h1,h2,h3,h4,h5,h6⟩:=h.row i o9
 exact ⟨g,p,cap,cur,ty,(hV i hi).trans h1,h2,h3,h4,h5,fun j hj=>by rw[hf i j hi hj];exact h6 j hj⟩
theorem RR.put {i j g p cap:Nat} {cur:Array Value} {ty:TypeId} {b:Bool} (h:RR E n N V f) (hi:i<n) (hj:j<N) (hV:V i=.slice (some ⟨g,p,none⟩) N cap) (hE:E g=some (.cells cur ty (0,0))) (hp:p+j<cur.size):
 RR (Qola E g (.cells (Qka cur.toList (p+j) [.bool b]).toArray ty (0,0))) n N V (fun i' j'=>if i'=i/\j'=j then b else f i' j'):=by
 refine ⟨fun i' hi'=>?_,h.nd⟩
 obtain ⟨g',p',cap',cur',ty',h1,h2,h3,h4,h5,h6⟩:=h.row i' hi'
 by_cases e:i'=i
 · subst e
   rw[hV] at h1
   obtain ⟨e1,-,rfl⟩:=Value.slice.inj h1
   cases e1
   rw[hE] at h2;cases h2
   refine ⟨g,p,cap,_,ty,hV,Qle _ _ _,h3,h4,by rw[List.size_toArray,Qpm];simpa using h5,fun j' hj'=>?_⟩
   rw[List.getElem?_toArray,Qom _ _ _ _ (by simpa using hp)]
   by_cases e:j'=j
   · subst e;rw[if_pos rfl];simp
   · rw[if_neg o9]
     simp only[e,and_false,if_false]
     simpa using h6 j' hj'
 · refine ⟨g',p',cap',cur',ty',h1,?_,h3,h4,h5,fun j' hj'=>by simp only[e,false_and,if_false];exact h6 j' hj'⟩
   rw[Q8e (fun e2=>e (h.nd i' i g' hi' hi (by rw[h1];rfl) (by rw[hV,e2];rfl)))]
   exact h2
end
section
variable {P:Program} {Q:E9z} {c:R9z} {w:World} {E:O9z} {T:Tb}
variable {o:Oper} {all:Array Oper} {rest:List Oper} {k:List Item} {st:St} {t:Nat} {x y:Operand}
theorem Qq4 {w0:Base} {i:Nat} {l:List Bool} {f:Nat} (x:SV) (hi:all[i]? =some o) (hg:o.guard=none) (hop:∀(e:Env) (s:List Act) (a:Act) (w1:World),e.chi=c->Fit e w0 st a s w1->∃v,x.is e v/\(execOp a.eval o).run P w1=.ok (.value v) w1)
 (h:Goes P Q c w0 (.aops all (Q0b l i true) f::k) (st.put o.dst x)):Goes P Q c w0 (.aop all i l f::k) st:=⟨fun e s a w1 hc F=>by
 show wpOp P all (NP (KQ P Q c k s)) i (fun a w=>SX c w/\wpL P .any all (NP (KQ P Q c k s)) (SX c) f (l.toArray.setIfInBounds i true) a w) a w1
 rw[<-Qcd]
 unfold wpOp
 simp only[hi,Region.wanted,hg,if_true]
 refine .inl ?_
 obtain ⟨v,h1,h2⟩:=hop e s a w1 hc F
 unfold Oper.wp
 rw[h2,Oper.upon_value]
 exact h.run e s _ _ hc (F.put h1)⟩
end
def swI (p q k:Nat):Nat:=if k=p then q else if k=q then p else k
theorem Qyr (p q k:Nat):swI p q (swI p q k)=k:=by
 unfold swI
 repeat' split
 all_goals omega
def swN {α:Type} (l:List α) (p q:Nat):List α:=match nth l p,nth l q with
 | some x,some y=>Q0b (Q0b l p y) q x
 | _,_=>l
theorem Qnl {α:Type} (l:List α) {p q:Nat} (hp:p<l.length) (hq:q<l.length) (i:Nat):(swN l p q)[i]? =l[swI p q i]? :=by
 unfold swN
 rw[Qva,Qva,List.getElem?_eq_getElem hp,List.getElem?_eq_getElem hq]
 simp only[Qci,Qkf]
 unfold swI
 by_cases h1:i=q
 · subst h1
   rw[if_pos rfl,if_pos hq]
   by_cases h2:i=p
   · subst h2;rw[if_pos rfl,List.getElem?_eq_getElem hp]
   · rw[if_neg h2,if_pos rfl,List.getElem?_eq_getElem hp]
 · rw[if_neg h1]
   by_cases h2:i=p
   · subst h2;rw[if_pos rfl,if_pos rfl,if_pos hp,List.getElem?_eq_getElem hq]
   · rw[if_neg h2,if_neg h2,if_neg h1]
theorem Qp6 {α:Type} (l:List α) (p q:Nat):(swN l p q).length=l.length:=by
 unfold swN
 split
 · rw[Qkf,Qkf]
 · rfl
section
variable {e:Env} {p q:Nat} {g:List Value}
end
section
variable {P:Program} {Q:E9z} {c:R9z} {w0:Base}
theorem Qx4 {σ:Type} (C:σ->Nat->Nat->Row) (ws:List Nat) (ups:σ->List (Nat×SV)) (hups:σ->List (Nat×List SC)) (rr:σ->List (Option ORow)) {ops:Array Oper} {l:List Bool} {f:Nat} {k:List Item} {st:St} (hk:noA k=true)
 (h1:Goes P Q c w0 (.aops ops l f::.stop (Q3z C w0 (fun y=>{ st.lay ws (ups y) (hups y) [] with r:=st.r++rr y }))::k) st) (h2:∀y,Goes P Q (C y) w0 k { st.lay ws (ups y) (hups y) [] with r:=st.r++rr y }):Goes P Q c w0 (.aops ops l f::k) st:=Qmw C _ hk h1 h2
end
section
variable {P:Program} {Q:E9z} {c:R9z} {w0:Base} {T:Tb}
theorem Fit.tellH {e:Env} {st:St} {a:Act} {s:List Act} {w:World} (F:Fit e w0 st a s w) {k:Nat} {cs cs':List SC} (hk:st.h[k]? =some (some cs)) (hl:∀vs,isL e cs vs->isL e cs' vs):Fit e w0 { st with h:=Q0b st.h k (some cs') } a s w:=by
 have hget:∀j cs1,(Q0b st.h k (some cs'))[j]? =some (some cs1)->∃cs0,st.h[j]? =some (some cs0)/\∀vs,isL e cs0 vs->isL e cs1 vs:=fun j cs1 h=>by
  rw[Qci] at h
  split at h
  · rename_i hj
    subst hj
    split at h
    · cases h;exact ⟨cs,hk,hl⟩
    · cases h
  · exact ⟨cs1,h,fun _ h=>h⟩
 have hH:∀j b,Qhd e { st with h:=Q0b st.h k (some cs') } j b->Qhd e st j b:=fun j b ⟨cs1,h1,h2⟩=>by
  obtain ⟨cs0,h3,_⟩:=hget j cs1 h1
  exact ⟨cs0,h3,h2⟩
 refine ⟨F.fr,F.dfr,F.tm,F.blw,F.lo,F.hi,F.nd,by simp only[Qkf];exact F.len,fun j b cs1 h1 h2=>?_,F.ext.kept rfl (Nat.le_refl _) (fun _ _ _ _ _=>rfl) (fun k b h=>.inl (hH k b h)) (fun q b h=>.inl h),F.pre,⟨F.rows.len,F.rows.row,F.rows.lo,F.rows.hi,F.rows.nd,fun q b h k hk=>F.rows.no q b h k (hH k b hk)⟩⟩
 obtain ⟨cs0,h3,h4⟩:=hget j cs1 h2
 obtain ⟨vs,t,g1,g2⟩:=F.cells j b cs0 h1 h3
 exact ⟨vs,t,g1,h4 _ g2⟩
theorem Qem {e:Env} {x y:SC} (hxy:∀v,x.is e v->y.is e v):∀{l:List SC} {o:Nat} {vs:List Value},nth l o=some x->isL e l vs->isL e (Qka l o [y]) vs
 | c::l,0,v::vs,hn,h=>by
   simp only[nth,Option.some.injEq] at hn
   subst hn
   have e1:Qka l 0 ([]:List SC)=l:=by cases l<;>rfl
   simp only[Qka,e1]
   exact ⟨hxy v h.1,h.2⟩
 | c::l,o+1,v::vs,hn,h=>⟨h.1,Qem hxy (by simpa [nth] using hn) h.2⟩
 | [],_,_,hn,_=>by simp[nth] at hn
 | _::_,_,[],_,h=>h.elim
def St.rowedH (st:St) (k o es:Nat):Option St:=match nth st.h k with
 | some (some cs)=>match nth cs o with
   | some (.val (.slice none 0 0))=>some { st with h:=Q0b st.h k (some (Qka cs o [.rs (Qyn st.r)])),r:=st.r++[some ⟨0,es,fun _=>[]⟩] }
   | _=>none
 | _=>none
theorem Qlu {e:Env} {st st':St} {a:Act} {s:List Act} {w:World} (F:Fit e w0 st a s w) (k o es:Nat) (h:st.rowedH k o es=some st'):∃e':Env,e'.chi=e.chi/\Fit e' w0 st' a s w:=by
 unfold St.rowedH at h
 split at h
 · rename_i cs hk
   split at h
   · rename_i ho
     cases h
     rw[Qva] at hk
     have hrow:Qqv e st w st.r.length ⟨0,es,fun _=>[]⟩ (.pt (.one (.rs st.r.length))) none (.slice none 0 0) w:=by
      refine ⟨.slice none 0 0,[],none,?_,⟨by simp,by simp,.inl ⟨rfl,rfl⟩⟩,fun j hj=>by simp at hj,⟨rfl,rfl,rfl,Nat.le_refl _,fun _ _ _=>rfl⟩,fun g hg=>(by cases hg),fun g hg=>(by simp[Value.ownBlock] at hg),Nat.le_refl _,fun h=>absurd h (Nat.lt_irrefl _)⟩
      rw[if_neg (Nat.lt_irrefl _)]
      exact ⟨by simp[Env.addS,<-F.rows.len],rfl⟩
     obtain ⟨e',h1,h2,h3⟩:=F.rowed hrow
     have e3:st.row st.r.length ⟨0,es,fun _=>[]⟩ none={ st with r:=st.r++[some ⟨0,es,fun _=>[]⟩] }:=by
      unfold St.row
      rw[if_neg (by rw[Qyd];exact Nat.lt_irrefl _)]
      rfl
     rw[e3] at h3
     refine ⟨e',h1,?_⟩
     have:=h3.tellH (k:=k) (cs:=cs) (cs':=Qka cs o [.rs (Qyn st.r)]) hk (fun vs hv=>Qem (x:=.val (.slice none 0 0)) (fun v hv=>?_) ho hv)
     · exact this
     · have hv:v=.slice none 0 0:=hv
       subst hv
       rw[Qyd]
       exact h2
   · cases h
 · cases h
theorem Q9q (k o es:Nat) {body:Code} {its:List Item} {st st':St} (h:st.rowedH k o es=some st') (hg:OutOk P Q c w0 (.loop body its st')):OutOk P Q c w0 (.loop body its st):=
 Qpt (fun e s a w hc F=>let ⟨e',h1,h2⟩:=Qlu F k o es h;⟨e',h1.trans hc,h2⟩) hg
end
end Go.Proofs.Ytemnfncbgalljab
