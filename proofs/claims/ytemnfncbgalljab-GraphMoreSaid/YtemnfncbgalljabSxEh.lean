/- Lemmas. No condition. -/
import Derived.Test.YtemnfncbgalljabX2
namespace Go.Proofs.Ytemnfncbgalljab
open Go.RowKit
set_option linter.all false
section
variable {P:Program} {Q:E9z} {c:R9z} {w0:Base}
def Q0na (R:Row) (l m:Nat):Nat->Nat->Row:=fun p i=>if p=0/\i=0 then ⟨if R.c=l then R.a else R.a.map (·.add (l * R.size)),m,R.c - l,R.size,fun j=>R.el (j+l)⟩ else ⟨none,0,0,0,fun _=>[]⟩
theorem Q8oa {k:List Item} {st:St} (K q i l m:Nat) (hk:noA k=true) (hn:st.qb K=true) (hr:qbR K st.r) (hc:∀q i j,q<K->j<(c q i).n->qbL K ((c q i).el j)=true)
 (hm:l+m<=(c q i).n) (hcap:m=0\/(c q i).c≠l) (hp:∀j,j<(c q i).n->Qob ((c q i).el j)=true)
 (h:Goes P Q (Q3a c K (Q0na (c q i) l m)) w0 k st):Goes P Q c w0 k st:=⟨fun e s a w hce F=>by
 subst hce
 rw[Qkc (c':=Q3a e.chi K (Q0na (e.chi q i) l m)) hk]
 have key:∀q' i' j,K<=q'->j<(Q3a e.chi K (Q0na (e.chi q i) l m) q' i').n->Q3a e.chi K (Q0na (e.chi q i) l m) q' i'=⟨(e.chi q i).a.map (·.add (l * (e.chi q i).size)),m,(e.chi q i).c - l,(e.chi q i).size,fun j=>(e.chi q i).el (j+l)⟩/\j<m:=fun q' i' j hl hj=>by
  rw[Q2a hl] at hj⊢
  unfold Q0na at hj⊢
  split at hj
  · rename_i g
    have hj:j<m:=hj
    rw[if_pos g,if_neg (by rcases hcap with h|h<;>first|omega|exact h)]
    exact ⟨rfl,hj⟩
  · exact absurd hj (Nat.not_lt_zero _)
 refine h.run ⟨e.rho,Q3a e.chi K (Q0na (e.chi q i) l m),e.sg⟩ s a w rfl (F.chi (K:=K) (c':=Q3a e.chi K (Q0na (e.chi q i) l m)) (fun q i hl=>(Q4a hl).symm) hn hr hc (fun q' i' j hl hj=>?_) (fun q' i' j b p hl hj ha=>?_))
 · obtain ⟨e1,hjm⟩:=key q' i' j hl hj
   obtain ⟨b,p,f1,f2,f3,f4,f5,vs,f6,f7⟩:=F.ext.ok q i (j+l) o9
   rw[e1]
   refine ⟨b,p+l * (e.chi q i).size,by rw[f1];simp only[Option.map_some,Q5c],f2,f3,f4,f5,vs,Q2b (hp _ o9) f6,fun t v ht=>?_⟩
   have:=f7 t v ht
   rw[Nat.add_mul] at this
   rw[show p+l * (e.chi q i).size+(j * (e.chi q i).size+t)=p+(j * (e.chi q i).size+l * (e.chi q i).size+t) by omega]
   exact this
 · obtain ⟨e1,hjm⟩:=key q' i' j hl hj
   obtain ⟨b',p',f1,_⟩:=F.ext.ok q i (j+l) o9
   rw[e1] at ha
   simp only[f1,Option.map_some,Q5c,Option.some.injEq,Addr.mk.injEq] at ha
   rw[<-ha.1]
   exact F.ext.exx q i (j+l) b' p' o9 f1⟩
theorem Qopa {T:Tb} (hT:TOk P T) (u q j p r:Nat) {all:Array Oper} {i:Nat} {listed:List Bool} {f:Nat} {k:List Item} {l:List (List Item)} {st:St} {o:Oper} {t:Nat} {x:Operand} {lo hi:Option Operand} {a:Option Addr} {n cap l0 h0 m es:Nat} {ea} {z} {el el':Nat->List SC} (_hn:l[u]? =some (.aop all i listed f::k))
 (hl:l=(Region.ready .any all listed.toArray).map fun j=>(.aop all j listed f::k:List Item)) (hio:all[i]? =some o) (ho:o.op=.slice t x lo hi none) (hns:Region.noSelect all=true) (hfr:Region.free .any all listed.toArray i=true) (hr:(Region.ready .any all listed.toArray).contains i=true)
 (hg:Q0w all st o=some true) (hx:evO st x=.pt (.one (.xs p r))) (hp:c p r=⟨a,n,cap,es,el'⟩) (hty:T.ty t=some (.slice es ea z)) (hb:Q4m st n cap lo hi none=some (l0,h0,m)) (hrow:c q j=⟨if m=l0 then a else a.map (·.add (l0 * es)),h0 - l0,m - l0,es,el⟩)
 (h:Goes P Q c w0 (.aops all (Q0b listed i true) f::k) (st.put o.dst (.pt (.one (.xs q j))))):OutOk P Q c w0 (.fork l st):=⟨fun x' hx'=>⟨fun e s ac w hc F=>by
 rw[hl] at hx'
 obtain ⟨j',hj,rfl⟩:=List.mem_map.1 hx'
 have hSX:SX c w:=F.ext.xok0 hc
 have hv0:(SV.pt (.one (.xs q j))).is e (.slice (if m=l0 then a else a.map (·.add (l0 * es))) (h0 - l0) (m - l0)):=by
  show _=Value.slice (e.chi q j).a (e.chi q j).n (e.chi q j).c
  rw[hc,hrow]
 have hH:=(h.run e s (ac.put o.dst (.slice (if m=l0 then a else a.map (·.add (l0 * es))) (h0 - l0) (m - l0))) w hc (F.put hv0)).2
 rw[Qcd] at hH
 have hyl:YieldsIf P all (SX c) o (.slice (if m=l0 then a else a.map (·.add (l0 * es))) (h0 - l0) (m - l0)) ac:=by
  refine .inl ⟨Q1w F hg,fun w1 _=>?_⟩
  have h1:=Qab F.tm x
  rw[hx] at h1
  have hv:ac.eval x=.slice (e.chi p r).a (e.chi p r).n (e.chi p r).c:=h1
  rw[hc,hp] at hv
  simp only at hv
  obtain ⟨i',d,zv,g1,g2,g3,g4,g5,g6,g7,el',j',u',rfl,g8,_⟩:=(Q8a (hT.ty t _ hty)).ex
  obtain ⟨i2,d',l1,l2,l3,_⟩:=Qac g8
  have hb':=Qyh (P:=P) (w:=w1) (isS:=true) F.tm hb
  simp only[Option.map_none] at hb'
  simp[execOp,ho,hv,Instr.sliceAt,Instr.slice,run_underlying g2,hb',Qnb l1,l3]
 have:=Qwg (Q:=NP (KQ P Q c k s)) hio hns hfr hr (fun _ _ _ h=>h.elim) Qje hyl hSX hH
 exact (this w (Below.refl _ _)).2 j' hj⟩⟩
theorem Qxoa {T:Tb} (hT:TOk P T) {o:Oper} {all:Array Oper} {k:List Item} {st:St} {i:Nat} {l:List Bool} {f:Nat} (q j p r:Nat) {t:Nat} {x:Operand} {lo hi:Option Operand} {a:Option Addr} {n cap l0 h0 m es:Nat} {ea} {z} {el el':Nat->List SC} (hio:all[i]? =some o) (hg:o.guard=none) (ho:o.op=.slice t x lo hi none) (hx:evO st x=.pt (.one (.xs p r))) (hp:c p r=⟨a,n,cap,es,el'⟩)
 (hty:T.ty t=some (.slice es ea z)) (hb:Q4m st n cap lo hi none=some (l0,h0,m)) (hr:c q j=⟨if m=l0 then a else a.map (·.add (l0 * es)),h0 - l0,m - l0,es,el⟩)
 (h:Goes P Q c w0 (.aops all (Q0b l i true) f::k) (st.put o.dst (.pt (.one (.xs q j))))):Goes P Q c w0 (.aop all i l f::k) st:=
 Qq4 (.pt (.one (.xs q j))) hio hg (fun e s ac w hc F=>by
  have h1:=Qab F.tm x
  rw[hx] at h1
  have hv:ac.eval x=.slice (e.chi p r).a (e.chi p r).n (e.chi p r).c:=h1
  rw[hc,hp] at hv
  simp only at hv
  obtain ⟨i',d,zv,g1,g2,g3,g4,g5,g6,g7,el',j',u,rfl,g8,_⟩:=(Q8a (hT.ty t _ hty)).ex
  obtain ⟨i2,d',l1,l2,l3,_⟩:=Qac g8
  refine ⟨.slice (if m=l0 then a else a.map (·.add (l0 * es))) (h0 - l0) (m - l0),?_,?_⟩
  · show _=Value.slice (e.chi q j).a (e.chi q j).n (e.chi q j).c
    rw[hc,hr]
  · have hb':=Qyh (P:=P) (w:=w) (isS:=true) F.tm hb
    simp only[Option.map_none] at hb'
    simp[execOp,ho,hv,Instr.sliceAt,Instr.slice,run_underlying g2,hb',Qnb l1,l3]) h
end
section
variable {P:Program} {Q:E9z}
theorem Q3na {w:World} {X:Inhabited Exs} {c0:R9z} {K:Nat} {G:R9z} {k:List Item} {st:St} (q p i:Nat) (G':Option Addr->Nat->Nat->Nat->Row) {R0 R:ORow} (hq:nth st.r q=some (some R0)) (hle:RowLe R0 R) (hk:Qb8 k=true)
 (hn:∀v,(st.frz q v).qb K=true) (hr:qbR K (Q0b st.r q none)) (hR:∀j,j<R.n->Qob (R.el j)=true) (hc:∀q i j,q<K->j<(c0 q i).n->qbL K ((c0 q i).el j)=true) (hG:∀p i j,j<(G p i).n->Qob ((G p i).el j)=true)
 (h0:(G p i).n=0) (h1:∀a cap p' i',¬(p'=p/\i'=i)->G' a cap p' i'=G p' i') (h2:∀a cap,G' a cap p i=⟨a,R.n,cap,R.es,R.el⟩)
 (h:∀a cap,Q3d w a->R.n<=cap->Goes P Q (Q3a c0 K (G' a cap)) ⟨w,[]⟩ k (st.frz q (.slice a R.n cap))):Goes P Q (Q3a c0 K G) ⟨w,[]⟩ k st:=⟨fun e s a w' hce F=>by
 rw[Qva] at hq
 obtain ⟨v,xs,g1,g2,g3⟩:=F.rows.row q R0 hq
 rw[hle.n,hle.es] at g2
 replace g3:=hle.els g3
 obtain ⟨ad,cap,rfl⟩:=g2.form
 have hnew:Q3d w ad:=fun b p' hb=>by
  have:=F.rows.lo q b ⟨R0,_,hq,g1,by rw[hb];rfl⟩
  simpa using this
 have hcap:R.n<=cap:=by
  rcases g2.2.2 with ⟨hv2,g0⟩|⟨b,o,cap',cur,ty,hv2,hg,h3,_⟩
  · omega
  · cases hv2;exact h3
 obtain ⟨F',hF'⟩:=F.frz hq g1
 have h12:∀q' i',q'<K->e.chi q' i'=Q3a c0 K (G' ad cap) q' i':=fun q' i' hl=>by rw[hce,Q4a hl,Q4a hl]
 refine Q36 (c':=Q3a c0 K (G' ad cap)) (fun w1 hx q' i' j hj=>?_) hk _ _ _ ?_
 · have hl:(q'<K\/¬(q' - K=p/\i'=i)):=by
    by_cases g:q'<K
    · exact .inl g
    · refine .inr fun ⟨ga,gb⟩=>?_
      simp only[Q2a (show K<=q' by omega)] at hj
      rw[ga,gb,h0] at hj
      exact absurd hj (Nat.not_lt_zero _)
   have ex:Q3a c0 K (G' ad cap) q' i'=Q3a c0 K G q' i':=by
    by_cases g:q'<K
    · rw[Q4a g,Q4a g]
    · rw[Q2a o9,Q2a o9]
      exact h1 _ _ _ _ (by rcases hl with hl|hl<;>first|omega|exact hl)
   have:=hx q' i' j (by simp only[ex];exact hj)
   simp only[ex] at this
   obtain ⟨b,p',f1,f2,f3,vs,f4,f5⟩:=this
   refine ⟨b,p',f1,f2,f3,vs,?_,f5⟩
   by_cases g:q'<K
   · simp only[Q4a g] at hj f4⊢
     exact Qbe (fun q i h=>by rw[Q4a h,Q4a h]) (hc q' i' j g hj) f4
   · simp only[Q2a (show K<=q' by omega)] at hj f4⊢
     exact Q2b (hG _ _ j hj) f4
 refine (h ad cap hnew hcap).run ⟨e.rho,Q3a c0 K (G' ad cap),e.sg⟩ s a w' rfl (F'.chi (K:=K) (c':=Q3a c0 K (G' ad cap)) h12 (hn _) hr (fun q' i' j hl hj=>?_) (fun q' i' j hl hj=>?_) (fun q' i' j b o hl hj ha=>?_))
 · have e1:e.chi q' i'=c0 q' i':=by rw[hce,Q4a hl]
   rw[e1] at hj⊢
   exact hc q' i' j hl hj
 · rw[Q2a hl] at hj⊢
   by_cases g:q' - K=p/\i'=i
   · obtain ⟨ga,gb⟩:=g
     rw[ga,gb,h2] at hj⊢
     simp only at hj⊢
     rcases g2.2.2 with ⟨_,g0⟩|⟨b,o,cap',cur,ty,hv,hg,rest⟩
     · omega
     · cases hv
       obtain ⟨f1,f2⟩:=hF' b rfl
       refine ⟨b,o,rfl,F.rows.hi q b ⟨R0,_,hq,g1,rfl⟩,by simp,f1,f2,_,Q2b (hR j hj) (g3 j hj),fun t v ht=>?_⟩
       simp only[List.getElem?_take,List.getElem?_drop] at ht
       split at ht
       · exact g2.cell ht
       · cases ht
   · rw[h1 _ _ _ _ g] at hj⊢
     have e1:e.chi q' i'=G (q' - K) i':=by rw[hce,Q2a hl]
     have hx:=F'.ext.ok q' i' j (by rw[e1];exact hj)
     rw[e1] at hx
     obtain ⟨b,p',f1,f2,f3,f4,f5,vs,f6,f7⟩:=hx
     exact ⟨b,p',f1,f2,f3,f4,f5,vs,Q2b (hG _ _ j hj) f6,f7⟩
 · rw[Q2a hl] at hj ha
   by_cases g:q' - K=p/\i'=i
   · obtain ⟨ga,gb⟩:=g
     rw[ga,gb,h2] at ha
     have ha:ad=some ⟨b,o,none⟩:=ha
     subst ha
     cases hx:(⟨w,[]⟩:Base).ex b with
     | none=>rfl
     | some ob=>exact absurd ⟨R0,_,hq,g1,rfl⟩ ((F.ext.ex b ob hx).2.2.2.2 q)
   · rw[h1 _ _ _ _ g] at hj ha
     have e1:e.chi q' i'=G (q' - K) i':=by rw[hce,Q2a hl]
     exact F'.ext.exx q' i' j b o (by rw[e1];exact hj) (by rw[e1];exact ha)⟩
end
end Go.Proofs.Ytemnfncbgalljab
