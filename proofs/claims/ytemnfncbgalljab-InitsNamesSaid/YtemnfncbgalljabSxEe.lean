/- Lemmas. No condition. -/
import Derived.Test.YtemnfncbgalljabX2
namespace Go.Proofs.Ytemnfncbgalljab
open Go.RowKit
set_option linter.all false
def swI (p q k:Nat):Nat:=if k=p then q else if k=q then p else k
theorem Qyr (p q k:Nat):swI p q (swI p q k)=k:=by
 unfold swI
 repeat' split
 all_goals omega
def swN {α:Type} (l:List α) (p q:Nat):List α:=match nth l p,nth l q with
 | some x,some y=>Q0b (Q0b l p y) q x
 | _,_=>l
theorem Qnl {α:Type} (l:List α) {p q:Nat} (hp:p<l.length) (hq:q<l.length) (i:Nat):(swN l p q)[i]? =l[swI p q i]? :=by
 unfold swN
 rw[Qva,Qva,List.getElem?_eq_getElem hp,List.getElem?_eq_getElem hq]
 simp only[Qci,Qkf]
 unfold swI
 by_cases h1:i=q
 · subst h1
   rw[if_pos rfl,if_pos hq]
   by_cases h2:i=p
   · subst h2;rw[if_pos rfl,List.getElem?_eq_getElem hp]
   · rw[if_neg h2,if_pos rfl,List.getElem?_eq_getElem hp]
 · rw[if_neg h1]
   by_cases h2:i=p
   · subst h2;rw[if_pos rfl,if_pos rfl,if_pos hp,List.getElem?_eq_getElem hq]
   · rw[if_neg h2,if_neg h2,if_neg h1]
theorem Qp6 {α:Type} (l:List α) (p q:Nat):(swN l p q).length=l.length:=by
 unfold swN
 split
 · rw[Qkf,Qkf]
 · rfl
def sbC (p q:Nat):List (Nat×Nat)->List (Nat×Nat)
 | []=>[]
 | x::l=>(swI p q x.1,x.2)::sbC p q l
def SC.sb (p q:Nat):SC->SC
 | .ptr k o=>.ptr (swI p q k) o
 | .pi k o=>.pi (swI p q k) o
 | .sl k o n c=>.sl (swI p q k) o n c
 | .fn f cap=>.fn f (sbC p q cap)
 | x=>x
def sbL (p q:Nat):List SC->List SC
 | []=>[]
 | c::l=>c.sb p q::sbL p q l
def SA.sb (p q:Nat):SA->SA
 | .one c=>.one (c.sb p q)
 | .agg l=>.agg (sbL p q l)
def sbA (p q:Nat):List SA->List SA
 | []=>[]
 | c::l=>c.sb p q::sbA p q l
def SV.sb (p q:Nat):SV->SV
 | .pt a=>.pt (a.sb p q)
 | .tup l=>.tup (sbA p q l)
def sbV (p q:Nat):List SV->List SV
 | []=>[]
 | c::l=>c.sb p q::sbV p q l
def sbF (p q:Nat):List (List SV)->List (List SV)
 | []=>[]
 | c::l=>sbV p q c::sbF p q l
def sbH (p q:Nat):List (Option (List SC))->List (Option (List SC))
 | []=>[]
 | none::l=>none::sbH p q l
 | some c::l=>some (sbL p q c)::sbH p q l
def St.sb (st:St) (p q:Nat):St:=⟨sbV p q st.t,swN (sbH p q st.h) p q,sbF p q st.fr,st.r⟩
section
variable {e:Env} {p q:Nat} {g:List Nat}
theorem Qbda (hq:∀k v,e.rho[k]? =some v->g[swI p q k]? =some v):∀{l:List (Nat×Nat)} {vs:List Value},Qfd e l vs->Qfd ⟨g,e.chi,e.sg⟩ (sbC p q l) vs
 | [],[],_=>trivial
 | (k,o)::l,v::vs,⟨⟨x,hx,hv⟩,h⟩=>⟨⟨x,hq _ _ hx,hv⟩,Qbda hq h⟩
 | [],_::_,h=>h.elim
 | _::_,[],h=>h.elim
theorem SC.sb_is (hq:∀k v,e.rho[k]? =some v->g[swI p q k]? =some v) {x:SC} {v:Value} (h:x.is e v):(x.sb p q).is ⟨g,e.chi,e.sg⟩ v:=by
 cases x<;>try exact h
 case ptr k o=>obtain ⟨b,h1,h2⟩:=h;exact ⟨b,hq _ _ h1,h2⟩
 case pi k o=>obtain ⟨b,h1,h2⟩:=h;exact ⟨b,hq _ _ h1,h2⟩
 case sl k o n c=>obtain ⟨b,h1,h2⟩:=h;exact ⟨b,hq _ _ h1,h2⟩
 case fn f cap=>obtain ⟨vs,h1,h2⟩:=h;exact ⟨vs,h1,Qbda hq h2⟩
theorem Qyca (hq:∀k v,e.rho[k]? =some v->g[swI p q k]? =some v):∀{l:List SC} {vs:List Value},isL e l vs->isL ⟨g,e.chi,e.sg⟩ (sbL p q l) vs
 | [],[],_=>trivial
 | c::l,v::vs,h=>⟨SC.sb_is hq h.1,Qyca hq h.2⟩
 | [],_::_,h=>h.elim
 | _::_,[],h=>h.elim
theorem SA.sb_is (hq:∀k v,e.rho[k]? =some v->g[swI p q k]? =some v) {x:SA} {v:Value} (h:x.is e v):(x.sb p q).is ⟨g,e.chi,e.sg⟩ v:=by
 cases x
 · exact SC.sb_is hq h
 · obtain ⟨vs,hv,hl⟩:=h;exact ⟨vs,hv,Qyca hq hl⟩
theorem Qada (hq:∀k v,e.rho[k]? =some v->g[swI p q k]? =some v):∀{l:List SA} {vs:List Value},isA e l vs->isA ⟨g,e.chi,e.sg⟩ (sbA p q l) vs
 | [],[],_=>trivial
 | c::l,v::vs,h=>⟨SA.sb_is hq h.1,Qada hq h.2⟩
 | [],_::_,h=>h.elim
 | _::_,[],h=>h.elim
theorem SV.sb_is (hq:∀k v,e.rho[k]? =some v->g[swI p q k]? =some v) {x:SV} {v:Value} (h:x.is e v):(x.sb p q).is ⟨g,e.chi,e.sg⟩ v:=by
 cases x
 · exact SA.sb_is hq h
 · obtain ⟨vs,hv,hl⟩:=h;exact ⟨vs,hv,Qada hq hl⟩
theorem Qzca (hq:∀k v,e.rho[k]? =some v->g[swI p q k]? =some v):∀{l:List SV} {vs:List Value},isV e l vs->isV ⟨g,e.chi,e.sg⟩ (sbV p q l) vs
 | [],[],_=>trivial
 | c::l,v::vs,h=>⟨SV.sb_is hq h.1,Qzca hq h.2⟩
 | [],_::_,h=>h.elim
 | _::_,[],h=>h.elim
theorem Qcda (hq:∀k v,e.rho[k]? =some v->g[swI p q k]? =some v):∀{ts:List (List SV)} {us:List Act},Qzl e ts us->Qzl ⟨g,e.chi,e.sg⟩ (sbF p q ts) us
 | [],[],_=>trivial
 | c::l,v::vs,h=>⟨⟨h.1.1,Qzca hq h.1.2⟩,Qcda hq h.2⟩
 | [],_::_,h=>h.elim
 | _::_,[],h=>h.elim
end
theorem Qjca {p q:Nat}:∀{l:List (Option (List SC))} {k:Nat} {cs:List SC},(sbH p q l)[k]? =some (some cs)->∃cs0,l[k]? =some (some cs0)/\cs=sbL p q cs0
 | [],k,cs,h=>by simp[sbH] at h
 | none::l,0,cs,h=>by simp[sbH] at h
 | some c::l,0,cs,h=>by simp[sbH] at h;exact ⟨c,by simp,h.symm⟩
 | none::l,k+1,cs,h=>by simpa using Qjca (l:=l) (by simpa [sbH] using h)
 | some c::l,k+1,cs,h=>by simpa using Qjca (l:=l) (by simpa [sbH] using h)
theorem Qpba {p q:Nat}:∀l:List (Option (List SC)),(sbH p q l).length=l.length
 | []=>rfl
 | none::l=>by simp[sbH,Qpba l]
 | some _::l=>by simp[sbH,Qpba l]
section
variable {P:Program} {Q:E9z} {c:R9z} {w0:Base}
theorem Fit.sb {e:Env} {st:St} {a:Act} {s:List Act} {w:World} (F:Fit e w0 st a s w) {p q:Nat} (hp:p<st.h.length) (hq:q<st.h.length) (hp0:w0.mo.length<=p) (hq0:w0.mo.length<=q):
 Fit ⟨swN e.rho p q,e.chi,e.sg⟩ w0 (st.sb p q) a s w:=by
 have hl:=F.len
 have hg:∀k b,e.rho[k]? =some b->(swN e.rho p q)[swI p q k]? =some b:=fun k b h=>by
  rw[Qnl _ o9 o9,Qyr];exact h
 have hg':∀k b,(swN e.rho p q)[k]? =some b->e.rho[swI p q k]? =some b:=fun k b h=>by
  rw[Qnl _ o9 o9] at h;exact h
 have hh:∀k cs,(st.sb p q).h[k]? =some (some cs)->∃cs0,st.h[swI p q k]? =some (some cs0)/\cs=sbL p q cs0:=fun k cs h=>by
  simp only[St.sb] at h
  rw[Qnl _ (by rw[Qpba];exact hp) (by rw[Qpba];exact hq)] at h
  exact Qjca h
 have hH:∀k b,Qhd ⟨swN e.rho p q,e.chi,e.sg⟩ (st.sb p q) k b->Qhd e st (swI p q k) b:=fun k b ⟨cs,h1,h2⟩=>by
  obtain ⟨cs0,h3,_⟩:=hh k cs h1
  exact ⟨cs0,h3,hg' k b h2⟩
 have hR:∀k b,Qdd ⟨swN e.rho p q,e.chi,e.sg⟩ (st.sb p q) k b->Qdd e st k b:=fun k b h=>h
 refine ⟨Qcda hg F.fr,F.dfr,Qzca hg F.tm,F.blw,fun k b h=>F.lo _ b (hg' k b h),fun k b h=>F.hi _ b (hg' k b h),fun j k b h h'=>?_,by simp only[St.sb,Qp6,Qpba];exact hl,fun k b cs h1 h2=>?_,⟨fun q' i j hj=>?_,fun b o hbo=>?_,F.ext.exx⟩,fun i b h=>?_,⟨F.rows.len,F.rows.row,F.rows.lo,F.rows.hi,F.rows.nd,fun k b h i hi=>F.rows.no k b (hR k b h) _ (hH i b hi)⟩⟩
 · have:=F.nd _ _ b (hg' j b h) (hg' k b h')
   have h2:=congrArg (swI p q) this
   rwa [Qyr,Qyr] at h2
 · obtain ⟨cs0,h3,rfl⟩:=hh k cs h2
   obtain ⟨vs,t,g1,g2⟩:=F.cells _ b cs0 (hg' k b h1) h3
   exact ⟨vs,t,g1,Qyca hg g2⟩
 · obtain ⟨b,p',f1,f2,f3,f4,f5,f6⟩:=F.ext.ok q' i j hj
   exact ⟨b,p',f1,f2,f3,fun k h=>f4 _ (hH k b h),fun k h=>f5 _ (hR k b h),f6⟩
 · obtain ⟨f1,f2,f3,f4,f5⟩:=F.ext.ex b o hbo
   exact ⟨f1,f2,f3,fun k h=>f4 _ (hH k b h),fun k h=>f5 _ (hR k b h)⟩
 · have hi:i<w0.mo.length:=by
    rcases Nat.lt_or_ge i w0.mo.length with g|g
    · exact g
    · rw[List.getElem?_eq_none g] at h;cases h
   have e1:swI p q i=i:=by unfold swI;rw[if_neg o9,if_neg o9]
   have:=hg i b (F.pre i b h)
   rwa [e1] at this
theorem Q3ca {σ:Type} (C:σ->Nat->Nat->Row) (inv:σ->St) {ops:Array Oper} {l:List Bool} {f:Nat} {k:List Item} {st:St} (hk:noA k=true)
 (h1:Goes P (fun _ _ _=>False) c w0 [.aops ops l f,.stop (Q3z C w0 inv)] st) (h2:∀y,Goes P Q (C y) w0 k (inv y)):Goes P Q c w0 (.aops ops l f::k) st:=⟨fun e s a w hc F=>by
 have:=h1.run e s a w hc F
 simp only[KQ,Exit.then] at this⊢
 refine ⟨this.1,Qql (fun en a' w' hq=>?_) _ _ _ _ this.2⟩
 cases en with
 | normal=>
   obtain ⟨y,e',h3,h4⟩:=hq
   have h5:KQ P Q (C y) k s .normal a' w':=(h2 y).run e' s a' w' h3 h4
   rw[Qkc (c':=c) hk] at h5
   exact h5
 | _=>first|exact hq|exact hq.elim⟩
theorem Q5ba (ws:List Nat) (ups:List (Nat×SV)) (hups:List (Nat×List SC)) (hh:List (Option (List SC))) {ops:Array Oper} {l:List Bool} {f:Nat} {k:List Item} {st:St} (hk:noA k=true)
 (h1:Goes P (fun _ _ _=>False) c w0 [.aops ops l f,.stop (Q3z (fun _:Unit=>c) w0 (fun _=>{ st.lay ws ups hups [] with h:=(st.lay ws ups hups []).h++hh }))] st) (h2:Goes P Q c w0 k { st.lay ws ups hups [] with h:=(st.lay ws ups hups []).h++hh }):Goes P Q c w0 (.aops ops l f::k) st:=Q3ca (fun _=>c) _ hk h1 (fun _=>h2)
def St.sbs:List (Nat×Nat)->St->St
 | [],st=>st
 | x::l,st=>St.sbs l (st.sb x.1 x.2)
def okS (m n:Nat):List (Nat×Nat)->Bool
 | []=>true
 | x::l=>decide (m<=x.1)&&decide (m<=x.2)&&decide (x.1<n)&&decide (x.2<n)&&okS m n l
theorem St.sb_len (st:St) (p q:Nat):(st.sb p q).h.length=st.h.length:=by simp only[St.sb,Qp6,Qpba]
theorem Fit.sbs {a:Act} {s:List Act} {w:World}:∀(l:List (Nat×Nat)) {e:Env} {st:St},okS w0.mo.length st.h.length l=true->Fit e w0 st a s w->∃rho,Fit ⟨rho,e.chi,e.sg⟩ w0 (St.sbs l st) a s w
 | [],e,st,_,F=>⟨e.rho,F⟩
 | x::l,e,st,h,F=>by
   simp only[okS,Bool.and_eq_true,decide_eq_true_eq] at h
   obtain ⟨⟨⟨⟨h1,h2⟩,h3⟩,h4⟩,h5⟩:=h
   exact Fit.sbs (e:=⟨swN e.rho x.1 x.2,e.chi,e.sg⟩) l (by rw[St.sb_len];exact h5) (F.sb h3 h4 h1 h2)
theorem Qtba (l:List (Nat×Nat)) {σ:Type} {C:σ->Nat->Nat->Row} {inv:σ->St} {k:List Item} {st:St} (y:σ) (hcy:c=C y) (hl:okS w0.mo.length st.h.length l=true) (h:Le (St.sbs l st) (inv y)) (hb:(inv y).bnd=true) (hw:w0.mo.length<=(inv y).h.length):OutOk P Q c w0 (.stop (Q3z C w0 inv) k st):=
 ⟨fun e s a w hc F=>by
  obtain ⟨rho,F'⟩:=F.sbs l hl
  exact ⟨y,(⟨rho,e.chi,e.sg⟩:Env).cut (inv y).h.length (inv y).r.length,hc.trans hcy,F'.le h hb hw⟩⟩
end
end Go.Proofs.Ytemnfncbgalljab
