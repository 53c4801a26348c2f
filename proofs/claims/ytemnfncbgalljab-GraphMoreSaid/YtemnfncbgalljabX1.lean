/- Lemmas. No condition. -/
import Derived.Test.YtemnfncbgalljabM5
namespace Go.Proofs.Ytemnfncbgalljab
open Go.RowKit
set_option linter.all false
section
variable {P:Program} {Q:E9z} {c:R9z} {w0:Base}
def Qc8 (fs:List Nat):Op->Bool
 | .call ⟨.value (.func n),_,_⟩=>fs.all fun m=>m !=n
 | _=>true
theorem Qqs (fs:List Nat) {id:Nat} {ops:Array Oper} {k:List Item} {st:St} (_hn:ops.toList.all (fun o=>Qc8 fs o.op)=true) (hq:ops.toList.all (fun o=>Qyy o.op)=true) (hm:P.follows .mixedOrders=true) (hB:Region.lexB .any ops=true) (h:Goes P Q c w0 (.qops ops ops.toList::k) st):OutOk P Q c w0 (.draw id ops k st):=
 Qbn hq hm hB h
theorem Qpu {f:Nat} {args:List SV} {dst:Option Nat} {k:List Item} {st:St} {vs:(Nat->Value)->List Value} {v:Value} (hv:∀S:Nat->Value,Qlq S c args=some (vs S)) (hf:∀(args:Array Value) (w:World),(callFunc f args).run P w=.ok (.enter f args) w)
 (hC:∀(w:World) (S:Nat->Value),KB w0 w->XOk ⟨[],c,[]⟩ ⟨w,[]⟩->(∀q R,nth st.r q=some (some R)->RowIs c w R (S q))->Calls P f (vs S).toArray w (Ret w v))
 (h:Goes P Q c w0 k (st.put dst (ofR v))):OutOk P Q c w0 (.callq f args dst k st):=⟨fun e s a w hc F us hu=>by
 rw[Qhi hc (S:=fun q=>(e.sg[q]?).getD undef) (fun q v hq=>by simp only[hq,Option.getD_some]) (hv _) hu]
 refine ⟨v,fun w' hw'=>⟨hf _ _,(hC w' _ (F.later hw').blw ((F.later hw').ext.xok0 hc) fun q R hq=>?_).mono fun en w'' ⟨he,hb⟩=>⟨v,he,rfl,hw'.trans (hb.mono hw'.size)⟩⟩,?_⟩
 · have F:=F.later hw'
   rw[Qva] at hq
   obtain ⟨v,xs,h1,h2,h3⟩:=F.rows.row q R hq
   simp only[h1,Option.getD_some]
   exact ⟨xs,h2,by rw[<-hc];exact h3,fun b hb=>F.rows.hi q b ⟨R,v,hq,h1,hb⟩⟩
 · exact h.run e s _ _ hc (F.put (Qkm e v))⟩
end
def Qj2 (k:Nat):List (Nat×Nat)->Bool
 | []=>false
 | (j,_)::l=>j==k||Qj2 k l
def SC.bx (k K:Nat):SC->SC
 | .ptr j o=>if j=k then .xp K 0 0 o else .ptr j o
 | .pi j o=>if j=k then .any else .pi j o
 | .sl j o n c=>if j=k then .any else .sl j o n c
 | .fn f cap=>if Qj2 k cap then .any else .fn f cap
 | x=>x
def bxL (k K:Nat):List SC->List SC
 | []=>[]
 | c::l=>c.bx k K::bxL k K l
def SA.bx (k K:Nat):SA->SA
 | .one c=>.one (c.bx k K)
 | .agg l=>.agg (bxL k K l)
def bxA (k K:Nat):List SA->List SA
 | []=>[]
 | c::l=>c.bx k K::bxA k K l
def SV.bx (k K:Nat):SV->SV
 | .pt a=>.pt (a.bx k K)
 | .tup l=>.tup (bxA k K l)
def bxV (k K:Nat):List SV->List SV
 | []=>[]
 | c::l=>c.bx k K::bxV k K l
def bxF (k K:Nat):List (List SV)->List (List SV)
 | []=>[]
 | c::l=>bxV k K c::bxF k K l
def bxH (k K:Nat):List (Option (List SC))->List (Option (List SC))
 | []=>[]
 | none::l=>none::bxH k K l
 | some c::l=>some (bxL k K c)::bxH k K l
def St.bx (st:St) (k K:Nat):St:=⟨bxV k K st.t,Q0b (bxH k K st.h) k none,bxF k K st.fr,st.r⟩
def Q1g (a:Option Addr) (cs:List SC):Nat->Nat->Row:=fun p i=>if p=0/\i=0 then ⟨a,1,1,cs.length,fun _=>cs⟩ else ⟨none,0,0,0,fun _=>[]⟩
section
variable {r:List Nat} {g:List Value} {c1 c2:R9z} {K k b n cc sz:Nat} {el:Nat->List SC}
theorem SC.bx_is (hk:r[k]? =some b) (hK:c2 K 0=⟨some ⟨b,0,none⟩,1,cc,sz,el⟩) (h12:∀q i,q<K->c1 q i=c2 q i) {x:SC} {v:Value} (hq:x.qb K=true) (h:x.is ⟨r,c1,g⟩ v):(x.bx k K).is ⟨r,c2,g⟩ v:=by
 cases x
 case ptr j o=>
  simp only[SC.bx]
  split
  · rename_i e
    subst e
    obtain ⟨b',h1,rfl⟩:=h
    simp only[hk,Option.some.injEq] at h1
    subst h1
    refine ⟨by rw[show (Env.mk r c2 g).chi K 0=c2 K 0 from rfl,hK];exact Nat.one_pos,b,0,by rw[show (Env.mk r c2 g).chi K 0=c2 K 0 from rfl,hK],?_⟩
    simp
  · exact SC.is_chi h12 hq h
 case pi j o=>
  simp only[SC.bx]
  split
  · trivial
  · exact SC.is_chi h12 hq h
 case sl j o m c=>
  simp only[SC.bx]
  split
  · trivial
  · exact SC.is_chi h12 hq h
 case fn f cap=>
  simp only[SC.bx]
  split
  · trivial
  · exact SC.is_chi h12 hq h
 all_goals exact SC.is_chi h12 hq h
theorem Qvv (hk:r[k]? =some b) (hK:c2 K 0=⟨some ⟨b,0,none⟩,1,cc,sz,el⟩) (h12:∀q i,q<K->c1 q i=c2 q i):∀{l:List SC} {vs:List Value},qbL K l=true->isL ⟨r,c1,g⟩ l vs->isL ⟨r,c2,g⟩ (bxL k K l) vs
 | [],[],_,_=>trivial
 | c::l,v::vs,hb,h=>by
   simp only[qbL,Bool.and_eq_true] at hb
   exact ⟨SC.bx_is hk hK h12 hb.1 h.1,Qvv hk hK h12 hb.2 h.2⟩
 | [],_::_,_,h=>h.elim
 | _::_,[],_,h=>h.elim
theorem SA.bx_is (hk:r[k]? =some b) (hK:c2 K 0=⟨some ⟨b,0,none⟩,1,cc,sz,el⟩) (h12:∀q i,q<K->c1 q i=c2 q i) {x:SA} {v:Value} (hq:x.qb K=true) (h:x.is ⟨r,c1,g⟩ v):(x.bx k K).is ⟨r,c2,g⟩ v:=by
 cases x
 · exact SC.bx_is hk hK h12 hq h
 · obtain ⟨vs,hv,hl⟩:=h;exact ⟨vs,hv,Qvv hk hK h12 hq hl⟩
theorem Qh2 (hk:r[k]? =some b) (hK:c2 K 0=⟨some ⟨b,0,none⟩,1,cc,sz,el⟩) (h12:∀q i,q<K->c1 q i=c2 q i):∀{l:List SA} {vs:List Value},qbA K l=true->isA ⟨r,c1,g⟩ l vs->isA ⟨r,c2,g⟩ (bxA k K l) vs
 | [],[],_,_=>trivial
 | c::l,v::vs,hb,h=>by
   simp only[qbA,Bool.and_eq_true] at hb
   exact ⟨SA.bx_is hk hK h12 hb.1 h.1,Qh2 hk hK h12 hb.2 h.2⟩
 | [],_::_,_,h=>h.elim
 | _::_,[],_,h=>h.elim
theorem SV.bx_is (hk:r[k]? =some b) (hK:c2 K 0=⟨some ⟨b,0,none⟩,1,cc,sz,el⟩) (h12:∀q i,q<K->c1 q i=c2 q i) {x:SV} {v:Value} (hq:x.qb K=true) (h:x.is ⟨r,c1,g⟩ v):(x.bx k K).is ⟨r,c2,g⟩ v:=by
 cases x
 · exact SA.bx_is hk hK h12 hq h
 · obtain ⟨vs,hv,hl⟩:=h;exact ⟨vs,hv,Qh2 hk hK h12 hq hl⟩
theorem Qwv (hk:r[k]? =some b) (hK:c2 K 0=⟨some ⟨b,0,none⟩,1,cc,sz,el⟩) (h12:∀q i,q<K->c1 q i=c2 q i):∀{l:List SV} {vs:List Value},qbV K l=true->isV ⟨r,c1,g⟩ l vs->isV ⟨r,c2,g⟩ (bxV k K l) vs
 | [],[],_,_=>trivial
 | c::l,v::vs,hb,h=>by
   simp only[qbV,Bool.and_eq_true] at hb
   exact ⟨SV.bx_is hk hK h12 hb.1 h.1,Qwv hk hK h12 hb.2 h.2⟩
 | [],_::_,_,h=>h.elim
 | _::_,[],_,h=>h.elim
theorem Qi2 (hk:r[k]? =some b) (hK:c2 K 0=⟨some ⟨b,0,none⟩,1,cc,sz,el⟩) (h12:∀q i,q<K->c1 q i=c2 q i):∀{l:List (List SV)} {vs:List Act},qbF K l=true->Qzl ⟨r,c1,g⟩ l vs->Qzl ⟨r,c2,g⟩ (bxF k K l) vs
 | [],[],_,_=>trivial
 | c::l,v::vs,hb,h=>by
   simp only[qbF,Bool.and_eq_true] at hb
   exact ⟨⟨h.1.1,Qwv hk hK h12 hb.1 h.1.2⟩,Qi2 hk hK h12 hb.2 h.2⟩
 | [],_::_,_,h=>h.elim
 | _::_,[],_,h=>h.elim
end
theorem Qqq {k K:Nat}:∀{l:List (Option (List SC))} {j:Nat} {cs:List SC},(bxH k K l)[j]? =some (some cs)->∃cs0,l[j]? =some (some cs0)/\cs=bxL k K cs0
 | [],j,cs,h=>by simp[bxH] at h
 | none::l,0,cs,h=>by simp[bxH] at h
 | some c::l,0,cs,h=>by simp[bxH] at h;exact ⟨c,by simp,h.symm⟩
 | none::l,j+1,cs,h=>by simpa using Qqq (l:=l) (by simpa [bxH] using h)
 | some c::l,j+1,cs,h=>by simpa using Qqq (l:=l) (by simpa [bxH] using h)
theorem Qvi {k K:Nat}:∀l:List (Option (List SC)),(bxH k K l).length=l.length
 | []=>rfl
 | none::l=>by simp[bxH,Qvi l]
 | some _::l=>by simp[bxH,Qvi l]
section
variable {P:Program} {Q:E9z} {c:R9z} {w0:Base} {T:Tb}
theorem Fit.bx {w1:World} {X:Inhabited Exs} {e:Env} {st:St} {a:Act} {s:List Act} {w:World} (F:Fit e ⟨w1,[]⟩ st a s w) {K k:Nat} {cs:List SC} (hk:st.h[k]? =some (some cs)) (hf:Qsk cs=true) (hq:qbL K cs=true)
 (hn:st.qb K=true) (hr:qbR K st.r) (hc:∀q i j,q<K->j<(e.chi q i).n->qbL K ((e.chi q i).el j)=true):
 ∃b,Q3d w1 (some ⟨b,0,none⟩)/\Fit ⟨e.rho,Q3a e.chi K (Q1g (some ⟨b,0,none⟩) cs),e.sg⟩ ⟨w1,[]⟩ (st.bx k K) a s w:=by
 obtain ⟨rho,chi,sg⟩:=e
 have hkl:k<rho.length:=by rw[F.len];exact (List.getElem?_eq_some_iff.1 hk).1
 obtain ⟨b,hb⟩:∃b,rho[k]? =some b:=⟨_,List.getElem?_eq_getElem hkl⟩
 refine ⟨b,fun b' p' e=>?_,?_⟩
 · cases e
   rcases F.lo k b hb with h|h
   · exact h
   · simp at h
 simp only[St.qb,Bool.and_eq_true] at hn
 have h12:∀q i,q<K->chi q i=Q3a chi K (Q1g (some ⟨b,0,none⟩) cs) q i:=fun q i h=>(Q4a h).symm
 have hK:Q3a chi K (Q1g (some ⟨b,0,none⟩) cs) K 0=⟨some ⟨b,0,none⟩,1,1,cs.length,fun _=>cs⟩:=by
  rw[Q2a (Nat.le_refl K),Nat.sub_self]
  simp only[Q1g,and_self,if_true]
 have hget:∀j cs',(st.bx k K).h[j]? =some (some cs')->j≠k/\∃cs0,st.h[j]? =some (some cs0)/\cs'=bxL k K cs0:=fun j cs' h=>by
  simp only[St.bx,Qci] at h
  split at h
  · split at h<;>cases h
  · exact ⟨y9,Qqq h⟩
 have hH:∀j b',Qhd ⟨rho,Q3a chi K (Q1g (some ⟨b,0,none⟩) cs),sg⟩ (st.bx k K) j b'->j≠k/\Qhd ⟨rho,chi,sg⟩ st j b':=fun j b' ⟨cs',h1,h2⟩=>by
  obtain ⟨h3,cs0,h4,_⟩:=hget j cs' h1
  exact ⟨h3,cs0,h4,h2⟩
 have hR:∀q b',Qdd ⟨rho,Q3a chi K (Q1g (some ⟨b,0,none⟩) cs),sg⟩ (st.bx k K) q b'->Qdd ⟨rho,chi,sg⟩ st q b':=fun q b' h=>h
 have hHb:Qhd ⟨rho,chi,sg⟩ st k b:=⟨cs,hk,hb⟩
 obtain ⟨vs,t,hw,hl⟩:=F.cells k b cs hb hk
 refine ⟨Qi2 hb hK h12 hn.2 F.fr,F.dfr,Qwv hb hK h12 hn.1.1 F.tm,F.blw,F.lo,F.hi,F.nd,by simp only[St.bx,Qkf,Qvi];exact F.len,fun j b' cs' h1 h2=>?_,⟨fun q i j hj=>?_,fun b' o ho=>let ⟨f1,f2,f3,f4,f5⟩:=F.ext.ex b' o ho;⟨f1,f2,f3,fun k' h=>f4 k' (hH k' b' h).2,fun q' h=>f5 q' (hR q' b' h)⟩,fun q i j b' p hj ha=>?_⟩,F.pre,⟨F.rows.len,fun q R hq'=>?_,F.rows.lo,F.rows.hi,F.rows.nd,fun q b' h j hj=>F.rows.no q b' (hR q b' h) j (hH j b' hj).2⟩⟩
 · obtain ⟨_,cs0,h3,rfl⟩:=hget j cs' h2
   obtain ⟨vs',t',g1,g2⟩:=F.cells j b' cs0 h1 h3
   exact ⟨vs',t',g1,Qvv hb hK h12 (Q9n hn.1.2 h3) g2⟩
 · by_cases g:q<K
   · have e1:=h12 q i g
     simp only at hj⊢
     rw[<-e1] at hj⊢
     obtain ⟨b',p,g1,g2,g3,g4,g5,vs',g6,g7⟩:=F.ext.ok q i j hj
     exact ⟨b',p,g1,g2,g3,fun k' h=>g4 k' (hH k' b' h).2,fun q' h=>g5 q' (hR q' b' h),vs',Qbe h12 (hc q i j g hj) g6,g7⟩
   · simp only at hj⊢
     rw[Q2a o9] at hj⊢
     simp only[Q1g] at hj⊢
     split at hj
     · rename_i hpi
       simp only[if_pos hpi]
       have hj:j<1:=hj
       obtain rfl:j=0:=by omega
       refine ⟨b,0,rfl,F.hi k b hb,by simp,fun k' h=>?_,fun q' h=>?_,vs.toList,Qbe (c1:=chi) h12 hq (Qxe hf hl),fun u v hv=>?_⟩
       · obtain ⟨h1,h2⟩:=hH k' b h
         obtain ⟨_,_,h3⟩:=h2
         exact h1 (F.nd k' k b h3 hb)
       · exact F.rows.no q' b (hR q' b h) k hHb
       · have hv':vs[u]? =some v:=by simpa using hv
         simp only[World.cell?,Nat.zero_add,Nat.zero_mul,hw]
         simpa using hv'
     · exact absurd hj (Nat.not_lt_zero _)
 · by_cases g:q<K
   · have e1:=h12 q i g
     simp only at hj ha
     rw[<-e1] at hj ha
     exact F.ext.exx q i j b' p hj ha
   · simp only at hj ha
     rw[Q2a o9] at hj ha
     simp only[Q1g] at hj ha
     split at ha
     · cases ha
       cases hx:(⟨w1,[]⟩:Base).ex b with
       | none=>rfl
       | some ob=>exact absurd hHb ((F.ext.ex b ob hx).2.2.2.1 k)
     · cases ha
 · obtain ⟨v,xs,g1,g2,g3⟩:=F.rows.row q R hq'
   exact ⟨v,xs,g1,g2,fun j hj=>Qbe (c1:=chi) h12 (Qao hr hq' j hj) (g3 j hj)⟩
theorem Qr7 {w:World} {X:Inhabited Exs} (k K:Nat) {its:List Item} {st:St} {cs:List SC} (hk:nth st.h k=some (some cs)) (hf:Qsk cs=true) (hq:qbL K cs=true) (hn:st.qb K=true) (hr:qbR K st.r) (hi:Qb8 its=true)
 (hc:∀q i j,q<K->j<(c q i).n->qbL K ((c q i).el j)=true) (hx:∀q i,K<=q->(c q i).n=0)
 (h:∀a,Q3d w a->Goes P Q (Q3a c K (Q1g a cs)) ⟨w,[]⟩ its (st.bx k K)):Goes P Q c ⟨w,[]⟩ its st:=⟨fun e s a w' hce F=>by
 subst hce
 rw[Qva] at hk
 obtain ⟨b,hnew,F'⟩:=F.bx hk hf hq hn hr hc
 refine Q36 (c':=Q3a e.chi K (Q1g (some ⟨b,0,none⟩) cs)) (fun w1 hX q i j hj=>?_) hi _ _ _ ((h _ hnew).run ⟨e.rho,Q3a e.chi K (Q1g (some ⟨b,0,none⟩) cs),e.sg⟩ s a w' rfl F')
 have g:q<K:=by
  rcases Nat.lt_or_ge q K with g|g
  · exact g
  · have:=hx q i g
    simp only at hj
    omega
 have e1:Q3a e.chi K (Q1g (some ⟨b,0,none⟩) cs) q i=e.chi q i:=Q4a g
 have:=hX q i j (by simp only[e1];exact hj)
 simp only[e1] at this
 obtain ⟨b',p',f1,f2,f3,vs,f4,f5⟩:=this
 exact ⟨b',p',f1,f2,f3,vs,Qbe (fun q i h=>Q4a h) (hc q i j g hj) f4,f5⟩⟩
theorem Q9d {w:World} {X:Inhabited Exs} (t K:Nat) {k:Nat} {its:List Item} {st:St} {cs:List SC} (_ht:nth st.t t=some (.pt (.one (.ptr k 0)))) (hk:nth st.h k=some (some cs)) (hf:Qsk cs=true) (hq:qbL K cs=true) (hn:st.qb K=true) (hr:qbR K st.r) (hi:Qb8 its=true)
 (hc:∀q i j,q<K->j<(c q i).n->qbL K ((c q i).el j)=true) (hx:∀q i,K<=q->(c q i).n=0)
 (h:∀a,Q3d w a->Goes P Q (Q3a c K (Q1g a cs)) ⟨w,[]⟩ its (st.bx k K)):Goes P Q c ⟨w,[]⟩ its st:=Qr7 k K hk hf hq hn hr hi hc hx h
def Q0w (all:Array Oper) (st:St) (o:Oper):Option Bool:=match o.guard with
 | none=>some true
 | some (j,want)=>match (all[j]?).bind (·.dst) with
   | some d=>match nth st.t d with
     | some (.pt (.one (.lit b)))=>some (b==want)
     | some (.tup _)=>some false
     | _=>none
   | none=>none
theorem Q1w {e:Env} {st:St} {a:Act} {s:List Act} {w:World} (F:Fit e w0 st a s w) {all:Array Oper} {o:Oper} {b:Bool} (hb:Q0w all st o=some b):Region.wanted o (yielded all a.tmps)=b:=by
 unfold Q0w at hb
 split at hb
 · rename_i hg;cases hb;simp[Region.wanted,hg]
 · rename_i j want hg
   split at hb
   · rename_i d hd
     split at hb
     · rename_i b' hb'
       cases hb
       rw[Qva] at hb'
       have hy:=Q6d F hd hb'
       simp only[Region.wanted,hg,hy]
       cases b'<;>cases want<;>rfl
     · rename_i l hb'
       cases hb
       rw[Qva] at hb'
       exact Q0e hg (Qxg F hd hb')
     · cases hb
   · cases hb
end
theorem Qlba (K:Nat):∀q i j,q<K->j<(Qra q i).n->qbL K ((Qra q i).el j)=true:=fun q i j _ hj=>absurd hj (Nat.not_lt_zero _)
theorem Qlca (K:Nat):∀q i,K<=q->(Qra q i).n=0:=fun _ _ _=>rfl
theorem Qyf {c:R9z} {K:Nat} {a:Option Addr} {cs:List SC} (hc:∀q i j,q<K->j<(c q i).n->qbL K ((c q i).el j)=true) (hq:qbL (K+1) cs=true) (hup:∀l:List SC,qbL K l=true->qbL (K+1) l=true):∀q i j,q<K+1->j<(Q3a c K (Q1g a cs) q i).n->qbL (K+1) ((Q3a c K (Q1g a cs) q i).el j)=true:=fun q i j hK hj=>by
 by_cases g:q<K
 · rw[Q4a g] at hj⊢
   exact hup _ (hc q i j g hj)
 · rw[Q2a o9] at hj⊢
   simp only[Q1g] at hj⊢
   split at hj
   · rename_i h;rw[if_pos h];exact hq
   · exact absurd hj (Nat.not_lt_zero _)
theorem Qvc {K:Nat}:∀l:List SC,qbL K l=true->qbL (K+1) l=true
 | [],_=>rfl
 | c::l,h=>by
   simp only[qbL,Bool.and_eq_true] at h⊢
   refine ⟨?_,Qvc l h.2⟩
   have h1:=h.1
   cases c<;>simp only[SC.qb,decide_eq_true_eq] at h1⊢
   all_goals omega
theorem Q2g {c:R9z} {K:Nat} (hc:∀q i j,q<K->j<(c q i).n->qbL K ((c q i).el j)=true):∀q i j,q<K->j<(Q3a c K NoFam q i).n->qbL K ((Q3a c K NoFam q i).el j)=true:=fun q i j h hj=>by
 rw[Q4a h] at hj⊢
 exact hc q i j h hj
theorem Qi4 {c:R9z} {K:Nat}:∀q i,K<=q->(Q3a c K NoFam q i).n=0:=fun q i h=>by rw[Q2a h];rfl
section
variable {P:Program} {Q:E9z} {c:R9z} {w0:Base}
end
section
variable {P:Program} {Q:E9z} {c:R9z} {T:Tb} {w0:Base} {all:Array Oper} {k:List Item} {st:St}
end
section
variable {P:Program} {Q:E9z} {c:R9z} {w0:Base}
end
end Go.Proofs.Ytemnfncbgalljab
