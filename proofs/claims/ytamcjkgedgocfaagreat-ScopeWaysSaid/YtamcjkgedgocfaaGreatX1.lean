/- Texts joined: SxP SxQ SxU SxEd ScCut. No condition. -/
import Derived.Test.YtamcjkgedgocfaaGreatM5
namespace Go.Proofs.YtamcjkgedgocfaaGreat
open Go.RowKit
set_option linter.unusedVariables false
set_option linter.unusedSimpArgs false
section
section
variable {P:Program} {Q:Exit→Act→World→Prop} {c:Nat→Nat→Row} {w0:Base}
def noneOf (fs:List Nat):Op→Bool
 | .call ⟨.value (.func n),_,_⟩=>fs.all fun m=>m !=n
 | _=>true
theorem go_drawQ (fs:List Nat) {id:Nat} {ops:Array Oper} {k:List Item} {st:St} (_hn:ops.toList.all (fun o=>noneOf fs o.op)=true) (hq:ops.toList.all (fun o=>quietOp o.op)=true) (hm:P.follows .mixedOrders=true) (hB:Region.lexB .any ops=true) (h:Goes P Q c w0 (.qops ops ops.toList::k) st):OutOk P Q c w0 (.draw id ops k st):=
 go_draw hq hm hB h
end
end
section
def capHas (k:Nat):List (Nat×Nat)→Bool
 | []=>false
 | (j,_)::l=>j==k||capHas k l
def SC.bx (k K:Nat):SC→SC
 | .ptr j o=>if j=k then .xp K 0 0 o else .ptr j o
 | .pi j o=>if j=k then .any else .pi j o
 | .sl j o n c=>if j=k then .any else .sl j o n c
 | .fn f cap=>if capHas k cap then .any else .fn f cap
 | x=>x
def bxL (k K:Nat):List SC→List SC
 | []=>[]
 | c::l=>c.bx k K::bxL k K l
def SA.bx (k K:Nat):SA→SA
 | .one c=>.one (c.bx k K)
 | .agg l=>.agg (bxL k K l)
def bxA (k K:Nat):List SA→List SA
 | []=>[]
 | c::l=>c.bx k K::bxA k K l
def SV.bx (k K:Nat):SV→SV
 | .pt a=>.pt (a.bx k K)
 | .tup l=>.tup (bxA k K l)
def bxV (k K:Nat):List SV→List SV
 | []=>[]
 | c::l=>c.bx k K::bxV k K l
def bxF (k K:Nat):List (List SV)→List (List SV)
 | []=>[]
 | c::l=>bxV k K c::bxF k K l
def bxH (k K:Nat):List (Option (List SC))→List (Option (List SC))
 | []=>[]
 | none::l=>none::bxH k K l
 | some c::l=>some (bxL k K c)::bxH k K l
def St.bx (st:St) (k K:Nat):St:=⟨bxV k K st.t,setN (bxH k K st.h) k none,bxF k K st.fr,st.r⟩
def boxG (a:Option Addr) (cs:List SC):Nat→Nat→Row:=fun p i=>if p=0∧i=0 then ⟨a,1,1,cs.length,fun _=>cs⟩ else ⟨none,0,0,0,fun _=>[]⟩
section
variable {r:List Nat} {g:List Value} {c1 c2:Nat→Nat→Row} {K k b n cc sz:Nat} {el:Nat→List SC}
theorem SC.bx_is (hk:r[k]? =some b) (hK:c2 K 0=⟨some ⟨b,0,none⟩,1,cc,sz,el⟩) (h12:∀q i,q<K→c1 q i=c2 q i) {x:SC} {v:Value} (hq:x.qb K=true) (h:x.is ⟨r,c1,g⟩ v):(x.bx k K).is ⟨r,c2,g⟩ v:=by
 cases x
 case ptr j o=>
  simp only[SC.bx]
  split
  · rename_i e
    subst e
    obtain ⟨b',h1,rfl⟩:=h
    simp only[hk,Option.some.injEq] at h1
    subst h1
    refine ⟨by rw[show (Env.mk r c2 g).chi K 0=c2 K 0 from rfl,hK];exact Nat.one_pos,b,0,by rw[show (Env.mk r c2 g).chi K 0=c2 K 0 from rfl,hK],?_⟩
    simp
  · exact SC.is_chi h12 hq h
 case pi j o=>
  simp only[SC.bx]
  split
  · trivial
  · exact SC.is_chi h12 hq h
 case sl j o m c=>
  simp only[SC.bx]
  split
  · trivial
  · exact SC.is_chi h12 hq h
 case fn f cap=>
  simp only[SC.bx]
  split
  · trivial
  · exact SC.is_chi h12 hq h
 all_goals exact SC.is_chi h12 hq h
theorem bxL_is (hk:r[k]? =some b) (hK:c2 K 0=⟨some ⟨b,0,none⟩,1,cc,sz,el⟩) (h12:∀q i,q<K→c1 q i=c2 q i):∀{l:List SC} {vs:List Value},qbL K l=true→isL ⟨r,c1,g⟩ l vs→isL ⟨r,c2,g⟩ (bxL k K l) vs
 | [],[],_,_=>trivial
 | c::l,v::vs,hb,h=>by
   simp only[qbL,Bool.and_eq_true] at hb
   exact ⟨SC.bx_is hk hK h12 hb.1 h.1,bxL_is hk hK h12 hb.2 h.2⟩
 | [],_::_,_,h=>h.elim
 | _::_,[],_,h=>h.elim
theorem SA.bx_is (hk:r[k]? =some b) (hK:c2 K 0=⟨some ⟨b,0,none⟩,1,cc,sz,el⟩) (h12:∀q i,q<K→c1 q i=c2 q i) {x:SA} {v:Value} (hq:x.qb K=true) (h:x.is ⟨r,c1,g⟩ v):(x.bx k K).is ⟨r,c2,g⟩ v:=by
 cases x
 · exact SC.bx_is hk hK h12 hq h
 · obtain ⟨vs,hv,hl⟩:=h;exact ⟨vs,hv,bxL_is hk hK h12 hq hl⟩
theorem bxA_is (hk:r[k]? =some b) (hK:c2 K 0=⟨some ⟨b,0,none⟩,1,cc,sz,el⟩) (h12:∀q i,q<K→c1 q i=c2 q i):∀{l:List SA} {vs:List Value},qbA K l=true→isA ⟨r,c1,g⟩ l vs→isA ⟨r,c2,g⟩ (bxA k K l) vs
 | [],[],_,_=>trivial
 | c::l,v::vs,hb,h=>by
   simp only[qbA,Bool.and_eq_true] at hb
   exact ⟨SA.bx_is hk hK h12 hb.1 h.1,bxA_is hk hK h12 hb.2 h.2⟩
 | [],_::_,_,h=>h.elim
 | _::_,[],_,h=>h.elim
theorem SV.bx_is (hk:r[k]? =some b) (hK:c2 K 0=⟨some ⟨b,0,none⟩,1,cc,sz,el⟩) (h12:∀q i,q<K→c1 q i=c2 q i) {x:SV} {v:Value} (hq:x.qb K=true) (h:x.is ⟨r,c1,g⟩ v):(x.bx k K).is ⟨r,c2,g⟩ v:=by
 cases x
 · exact SA.bx_is hk hK h12 hq h
 · obtain ⟨vs,hv,hl⟩:=h;exact ⟨vs,hv,bxA_is hk hK h12 hq hl⟩
theorem bxV_is (hk:r[k]? =some b) (hK:c2 K 0=⟨some ⟨b,0,none⟩,1,cc,sz,el⟩) (h12:∀q i,q<K→c1 q i=c2 q i):∀{l:List SV} {vs:List Value},qbV K l=true→isV ⟨r,c1,g⟩ l vs→isV ⟨r,c2,g⟩ (bxV k K l) vs
 | [],[],_,_=>trivial
 | c::l,v::vs,hb,h=>by
   simp only[qbV,Bool.and_eq_true] at hb
   exact ⟨SV.bx_is hk hK h12 hb.1 h.1,bxV_is hk hK h12 hb.2 h.2⟩
 | [],_::_,_,h=>h.elim
 | _::_,[],_,h=>h.elim
theorem bxF_is (hk:r[k]? =some b) (hK:c2 K 0=⟨some ⟨b,0,none⟩,1,cc,sz,el⟩) (h12:∀q i,q<K→c1 q i=c2 q i):∀{l:List (List SV)} {vs:List Act},qbF K l=true→isVs ⟨r,c1,g⟩ l vs→isVs ⟨r,c2,g⟩ (bxF k K l) vs
 | [],[],_,_=>trivial
 | c::l,v::vs,hb,h=>by
   simp only[qbF,Bool.and_eq_true] at hb
   exact ⟨⟨h.1.1,bxV_is hk hK h12 hb.1 h.1.2⟩,bxF_is hk hK h12 hb.2 h.2⟩
 | [],_::_,_,h=>h.elim
 | _::_,[],_,h=>h.elim
end
theorem bxH_get {k K:Nat}:∀{l:List (Option (List SC))} {j:Nat} {cs:List SC},(bxH k K l)[j]? =some (some cs)→∃cs0,l[j]? =some (some cs0)∧cs=bxL k K cs0
 | [],j,cs,h=>by simp[bxH] at h
 | none::l,0,cs,h=>by simp[bxH] at h
 | some c::l,0,cs,h=>by simp[bxH] at h;exact ⟨c,by simp,h.symm⟩
 | none::l,j+1,cs,h=>by simpa using bxH_get (l:=l) (by simpa [bxH] using h)
 | some c::l,j+1,cs,h=>by simpa using bxH_get (l:=l) (by simpa [bxH] using h)
theorem bxH_length {k K:Nat}:∀l:List (Option (List SC)),(bxH k K l).length=l.length
 | []=>rfl
 | none::l=>by simp[bxH,bxH_length l]
 | some _::l=>by simp[bxH,bxH_length l]
section
variable {P:Program} {Q:Exit→Act→World→Prop} {c:Nat→Nat→Row} {w0:Base} {T:Tb}
theorem Fit.bx {w1:World} {X:Inhabited Exs} {e:Env} {st:St} {a:Act} {s:List Act} {w:World} (F:Fit e ⟨w1,[]⟩ st a s w) {K k:Nat} {cs:List SC} (hk:st.h[k]? =some (some cs)) (hf:freeL cs=true) (hq:qbL K cs=true)
 (hn:st.qb K=true) (hr:qbR K st.r) (hc:∀q i j,q<K→j<(e.chi q i).n→qbL K ((e.chi q i).el j)=true):
 ∃b,NewA w1 (some ⟨b,0,none⟩)∧Fit ⟨e.rho,chiG e.chi K (boxG (some ⟨b,0,none⟩) cs),e.sg⟩ ⟨w1,[]⟩ (st.bx k K) a s w:=by
 obtain ⟨rho,chi,sg⟩:=e
 have hkl:k<rho.length:=by rw[F.len];exact (List.getElem?_eq_some_iff.1 hk).1
 obtain ⟨b,hb⟩:∃b,rho[k]? =some b:=⟨_,List.getElem?_eq_getElem hkl⟩
 refine ⟨b,fun b' p' e=>?_,?_⟩
 · cases e
   rcases F.lo k b hb with h|h
   · exact h
   · simp at h
 simp only[St.qb,Bool.and_eq_true] at hn
 have h12:∀q i,q<K→chi q i=chiG chi K (boxG (some ⟨b,0,none⟩) cs) q i:=fun q i h=>(chiG_lt h).symm
 have hK:chiG chi K (boxG (some ⟨b,0,none⟩) cs) K 0=⟨some ⟨b,0,none⟩,1,1,cs.length,fun _=>cs⟩:=by
  rw[chiG_ge (Nat.le_refl K),Nat.sub_self]
  simp only[boxG,and_self,if_true]
 have hget:∀j cs',(st.bx k K).h[j]? =some (some cs')→j≠k∧∃cs0,st.h[j]? =some (some cs0)∧cs'=bxL k K cs0:=fun j cs' h=>by
  simp only[St.bx,setN_get] at h
  split at h
  · split at h<;>cases h
  · exact ⟨‹_›,bxH_get h⟩
 have hH:∀j b',HasH ⟨rho,chiG chi K (boxG (some ⟨b,0,none⟩) cs),sg⟩ (st.bx k K) j b'→j≠k∧HasH ⟨rho,chi,sg⟩ st j b':=fun j b' ⟨cs',h1,h2⟩=>by
  obtain ⟨h3,cs0,h4,_⟩:=hget j cs' h1
  exact ⟨h3,cs0,h4,h2⟩
 have hR:∀q b',HasR ⟨rho,chiG chi K (boxG (some ⟨b,0,none⟩) cs),sg⟩ (st.bx k K) q b'→HasR ⟨rho,chi,sg⟩ st q b':=fun q b' h=>h
 have hHb:HasH ⟨rho,chi,sg⟩ st k b:=⟨cs,hk,hb⟩
 obtain ⟨vs,t,hw,hl⟩:=F.cells k b cs hb hk
 refine ⟨bxF_is hb hK h12 hn.2 F.fr,F.dfr,bxV_is hb hK h12 hn.1.1 F.tm,F.blw,F.lo,F.hi,F.nd,by simp only[St.bx,setN_len,bxH_length];exact F.len,fun j b' cs' h1 h2=>?_,⟨fun q i j hj=>?_,fun b' o ho=>let ⟨f1,f2,f3,f4,f5⟩:=F.ext.ex b' o ho;⟨f1,f2,f3,fun k' h=>f4 k' (hH k' b' h).2,fun q' h=>f5 q' (hR q' b' h)⟩,fun q i j b' p hj ha=>?_⟩,F.pre,⟨F.rows.len,fun q R hq'=>?_,F.rows.lo,F.rows.hi,F.rows.nd,fun q b' h j hj=>F.rows.no q b' (hR q b' h) j (hH j b' hj).2⟩⟩
 · obtain ⟨_,cs0,h3,rfl⟩:=hget j cs' h2
   obtain ⟨vs',t',g1,g2⟩:=F.cells j b' cs0 h1 h3
   exact ⟨vs',t',g1,bxL_is hb hK h12 (qbH_get hn.1.2 h3) g2⟩
 · by_cases g:q<K
   · have e1:=h12 q i g
     simp only at hj⊢
     rw[←e1] at hj⊢
     obtain ⟨b',p,g1,g2,g3,g4,g5,vs',g6,g7⟩:=F.ext.ok q i j hj
     exact ⟨b',p,g1,g2,g3,fun k' h=>g4 k' (hH k' b' h).2,fun q' h=>g5 q' (hR q' b' h),vs',isL_chi h12 (hc q i j g hj) g6,g7⟩
   · simp only at hj⊢
     rw[chiG_ge (by omega)] at hj⊢
     simp only[boxG] at hj⊢
     split at hj
     · rename_i hpi
       simp only[if_pos hpi]
       have hj:j<1:=hj
       obtain rfl:j=0:=by omega
       refine ⟨b,0,rfl,F.hi k b hb,by simp,fun k' h=>?_,fun q' h=>?_,vs.toList,isL_chi (c1:=chi) h12 hq (freeL_nil hf hl),fun u v hv=>?_⟩
       · obtain ⟨h1,h2⟩:=hH k' b h
         obtain ⟨_,_,h3⟩:=h2
         exact h1 (F.nd k' k b h3 hb)
       · exact F.rows.no q' b (hR q' b h) k hHb
       · have hv':vs[u]? =some v:=by simpa using hv
         simp only[World.cell?,Nat.zero_add,Nat.zero_mul,hw]
         simpa using hv'
     · exact absurd hj (Nat.not_lt_zero _)
 · by_cases g:q<K
   · have e1:=h12 q i g
     simp only at hj ha
     rw[←e1] at hj ha
     exact F.ext.exx q i j b' p hj ha
   · simp only at hj ha
     rw[chiG_ge (by omega)] at hj ha
     simp only[boxG] at hj ha
     split at ha
     · cases ha
       cases hx:(⟨w1,[]⟩:Base).ex b with
       | none=>rfl
       | some ob=>exact absurd hHb ((F.ext.ex b ob hx).2.2.2.1 k)
     · cases ha
 · obtain ⟨v,xs,g1,g2,g3⟩:=F.rows.row q R hq'
   exact ⟨v,xs,g1,g2,fun j hj=>isL_chi (c1:=chi) h12 (qbR_get hr hq' j hj) (g3 j hj)⟩
theorem go_box {w:World} {X:Inhabited Exs} (k K:Nat) {its:List Item} {st:St} {cs:List SC} (hk:nth st.h k=some (some cs)) (hf:freeL cs=true) (hq:qbL K cs=true) (hn:st.qb K=true) (hr:qbR K st.r) (hi:noA1 its=true)
 (hc:∀q i j,q<K→j<(c q i).n→qbL K ((c q i).el j)=true) (hx:∀q i,K≤q→(c q i).n=0)
 (h:∀a,NewA w a→Goes P Q (chiG c K (boxG a cs)) ⟨w,[]⟩ its (st.bx k K)):Goes P Q c ⟨w,[]⟩ its st:=⟨fun e s a w' hce F=>by
 subst hce
 rw[nth_eq] at hk
 obtain ⟨b,hnew,F'⟩:=F.bx hk hf hq hn hr hc
 refine KQ_to (c':=chiG e.chi K (boxG (some ⟨b,0,none⟩) cs)) (fun w1 hX q i j hj=>?_) hi _ _ _ ((h _ hnew).run ⟨e.rho,chiG e.chi K (boxG (some ⟨b,0,none⟩) cs),e.sg⟩ s a w' rfl F')
 have g:q<K:=by
  rcases Nat.lt_or_ge q K with g|g
  · exact g
  · have:=hx q i g
    simp only at hj
    omega
 have e1:chiG e.chi K (boxG (some ⟨b,0,none⟩) cs) q i=e.chi q i:=chiG_lt g
 have:=hX q i j (by simp only[e1];exact hj)
 simp only[e1] at this
 obtain ⟨b',p',f1,f2,f3,vs,f4,f5⟩:=this
 exact ⟨b',p',f1,f2,f3,vs,isL_chi (fun q i h=>chiG_lt h) (hc q i j g hj) f4,f5⟩⟩
theorem go_boxT {w:World} {X:Inhabited Exs} (t K:Nat) {k:Nat} {its:List Item} {st:St} {cs:List SC} (_ht:nth st.t t=some (.pt (.one (.ptr k 0)))) (hk:nth st.h k=some (some cs)) (hf:freeL cs=true) (hq:qbL K cs=true) (hn:st.qb K=true) (hr:qbR K st.r) (hi:noA1 its=true)
 (hc:∀q i j,q<K→j<(c q i).n→qbL K ((c q i).el j)=true) (hx:∀q i,K≤q→(c q i).n=0)
 (h:∀a,NewA w a→Goes P Q (chiG c K (boxG a cs)) ⟨w,[]⟩ its (st.bx k K)):Goes P Q c ⟨w,[]⟩ its st:=go_box k K hk hf hq hn hr hi hc hx h
def guardE (all:Array Oper) (st:St) (o:Oper):Option Bool:=match o.guard with
 | none=>some true
 | some (j,want)=>match (all[j]?).bind (·.dst) with
   | some d=>match nth st.t d with
     | some (.pt (.one (.lit b)))=>some (b==want)
     | some (.tup _)=>some false
     | _=>none
   | none=>none
theorem guardE_is {e:Env} {st:St} {a:Act} {s:List Act} {w:World} (F:Fit e w0 st a s w) {all:Array Oper} {o:Oper} {b:Bool} (hb:guardE all st o=some b):Region.wanted o (yielded all a.tmps)=b:=by
 unfold guardE at hb
 split at hb
 · rename_i hg;cases hb;simp[Region.wanted,hg]
 · rename_i j want hg
   split at hb
   · rename_i d hd
     split at hb
     · rename_i b' hb'
       cases hb
       rw[nth_eq] at hb'
       have hy:=yields_lit F hd hb'
       simp only[Region.wanted,hg,hy]
       cases b'<;>cases want<;>rfl
     · rename_i l hb'
       cases hb
       rw[nth_eq] at hb'
       exact not_wanted hg (yields_tup F hd hb')
     · cases hb
   · cases hb
theorem go_takeC (n:Nat) (hT:TOk P T) {all:Array Oper} {i:Nat} {listed:List Bool} {f:Nat} {k:List Item} {l:List (List Item)} {st:St} {o:Oper} {cl:Call} {g:Nat} {args:List SV} {vs:List Value} {v:Value} (_hn:l[n]? =some (.aop all i listed f::k))
 (hl:l=(Region.ready .any all listed.toArray).map fun j=>(.aop all j listed f::k:List Item)) (hi:all[i]? =some o) (ho:o.op=.call cl) (hA:cl.callee≠.builtin .append) (hns:Region.noSelect all=true) (hfr:Region.free .any all listed.toArray i=true) (hr:(Region.ready .any all listed.toArray).contains i=true)
 (hg:guardE all st o=some true) (hE:opE T c st o.op=.call g args) (hv:toVs c args=some vs) (hfun:∀(args:Array Value) (w:World),(callFunc g args).run P w=.ok (.enter g args) w)
 (hC:∀w,Calls P g vs.toArray w (Ret w v)) (h:Goes P Q c w0 (.aops all (setN listed i true) f::k) (st.put o.dst (ofR v))):OutOk P Q c w0 (.fork l st):=⟨fun x hx=>⟨fun e s a w hc F=>by
 rw[hl] at hx
 obtain ⟨j,hj,rfl⟩:=List.mem_map.1 hx
 have hSX:SX c w:=F.ext.xok0 hc
 have hH:=(h.run e s (a.put o.dst v) w hc (F.put (ofR_is e v))).2
 rw[setN_arr] at hH
 have hcall:CallIf P all (SX c) o v a:=by
  refine ⟨guardE_is F hg,g,vs.toArray,fun w1 hS=>?_⟩
  have:=ok_call (P:=P) (T:=T) (e:=e) (st:=st) (a:=a) (w:=w1) hT F.tm F.rl hA o ho
  rw[hc,hE] at this
  obtain ⟨us,h1,h2⟩:=this
  have e1:=toVs_is hc hv h1
  subst e1
  refine ⟨by rw[h2,hfun],(hC w1).mono fun en w'' ⟨he,hb⟩=>⟨he,hb,SX_later _ _ hS hb⟩⟩
 have:=wpL_call (Q:=NP (KQ P Q c k s)) hi (Region.noSelect_spec hns) (fun _ _ _ h=>h.elim) SX_later f listed.toArray a w (Region.free_spec hi hfr) (by simpa using hr) hcall hSX hH
 exact (this w (Below.refl _ _)).2 j hj⟩⟩
theorem RetR.toC {w w':World} {x:SV} {r:List ORow} {c c':Nat→Nat→Row} {en:Ending} (hr:plainR r) (hx:x.noX=true) (h:RetR w c x r en w'):RetR w c' x r en w':=by
 obtain ⟨v,g,h1,h2,h3,h4⟩:=h
 exact ⟨v,g,h1,h2,h3.to hr,noXV_is hx h4⟩
theorem go_ret_rowsC (hT:TOk P T) {w:World} {Y:Inhabited Exs} {fn:Func} {st:St} {X x:SV} {r:List ORow} {sel:List RSrc} {c0:Nat→Nat→Row} (h:resE T c st fn.results.toList=some X) (hs:selV X x=sel) (hx:chkV sel X x) (hr:srcPs st sel r) (hn:ndS sel=true) (hp:plainR r) (hxx:x.noX=true):OutOk P (bodyPost P fn (RetR w c0 x r)) c ⟨w,[]⟩ (.ret st):=
 go_ret_any hT h fun _ _ _ _ _ hc F hv=>(ret_rows F hc hv hx hr hn).toC hp hxx
theorem go_fin_rowsC (hT:TOk P T) {w:World} {Y:Inhabited Exs} {fn:Func} {st:St} {X x:SV} {r:List ORow} {sel:List RSrc} {c0:Nat→Nat→Row} (h:resE T c st fn.results.toList=some X) (hs:selV X x=sel) (hx:chkV sel X x) (hr:srcPs st sel r) (hn:ndS sel=true) (hp:plainR r) (hxx:x.noX=true):OutOk P (bodyPost P fn (RetR w c0 x r)) c ⟨w,[]⟩ (.fin st):=
 go_fin_any hT h fun _ _ _ _ _ hc F hv=>(ret_rows F hc hv hx hr hn).toC hp hxx
end
theorem noRows_qb (K:Nat):∀q i j,q<K→j<(NoRows q i).n→qbL K ((NoRows q i).el j)=true:=fun q i j _ hj=>absurd hj (Nat.not_lt_zero _)
theorem noRows_n (K:Nat):∀q i,K≤q→(NoRows q i).n=0:=fun _ _ _=>rfl
theorem box_qb {c:Nat→Nat→Row} {K:Nat} {a:Option Addr} {cs:List SC} (hc:∀q i j,q<K→j<(c q i).n→qbL K ((c q i).el j)=true) (hq:qbL (K+1) cs=true) (hup:∀l:List SC,qbL K l=true→qbL (K+1) l=true):∀q i j,q<K+1→j<(chiG c K (boxG a cs) q i).n→qbL (K+1) ((chiG c K (boxG a cs) q i).el j)=true:=fun q i j hK hj=>by
 by_cases g:q<K
 · rw[chiG_lt g] at hj⊢
   exact hup _ (hc q i j g hj)
 · rw[chiG_ge (by omega)] at hj⊢
   simp only[boxG] at hj⊢
   split at hj
   · rename_i h;rw[if_pos h];exact hq
   · exact absurd hj (Nat.not_lt_zero _)
theorem qbL_up {K:Nat}:∀l:List SC,qbL K l=true→qbL (K+1) l=true
 | [],_=>rfl
 | c::l,h=>by
   simp only[qbL,Bool.and_eq_true] at h⊢
   refine ⟨?_,qbL_up l h.2⟩
   have h1:=h.1
   cases c<;>simp only[SC.qb,decide_eq_true_eq] at h1⊢
   all_goals omega
theorem box_n {c:Nat→Nat→Row} {K:Nat} {a:Option Addr} {cs:List SC}:∀q i,K+1≤q→(chiG c K (boxG a cs) q i).n=0:=fun q i h=>by
 rw[chiG_ge (by omega)]
 simp only[boxG]
 rw[if_neg (by omega)]
theorem fam_qb {c:Nat→Nat→Row} {K:Nat} (hc:∀q i j,q<K→j<(c q i).n→qbL K ((c q i).el j)=true):∀q i j,q<K→j<(chiG c K NoFam q i).n→qbL K ((chiG c K NoFam q i).el j)=true:=fun q i j h hj=>by
 rw[chiG_lt h] at hj⊢
 exact hc q i j h hj
theorem go_ret_rowsCP {P:Program} {c:Nat→Nat→Row} {T:Tb} (hT:TOk P T) {w:World} {Y:Inhabited Exs} {fn:Func} {st:St} {X x:SV} {r:List ORow} {sel:List RSrc} {c0:Nat→Nat→Row} (h:resE T c st fn.results.toList=some X) (hs:selV X x=sel) (hx:Pf (chkV sel X x)) (hr:Pf (srcPs st sel r)) (hn:ndS sel=true) (hp:plainR r) (hxx:x.noX=true):OutOk P (bodyPost P fn (RetR w c0 x r)) c ⟨w,[]⟩ (.ret st):=go_ret_rowsC hT h hs hx.pf hr.pf hn hp hxx
theorem go_fin_rowsCP {P:Program} {c:Nat→Nat→Row} {T:Tb} (hT:TOk P T) {w:World} {Y:Inhabited Exs} {fn:Func} {st:St} {X x:SV} {r:List ORow} {sel:List RSrc} {c0:Nat→Nat→Row} (h:resE T c st fn.results.toList=some X) (hs:selV X x=sel) (hx:Pf (chkV sel X x)) (hr:Pf (srcPs st sel r)) (hn:ndS sel=true) (hp:plainR r) (hxx:x.noX=true):OutOk P (bodyPost P fn (RetR w c0 x r)) c ⟨w,[]⟩ (.fin st):=go_fin_rowsC hT h hs hx.pf hr.pf hn hp hxx
end
section
section
variable {P:Program} {Q:Exit→Act→World→Prop} {c:Nat→Nat→Row} {w0:Base}
theorem go_takeR (n:Nat) {all:Array Oper} {i:Nat} {listed:List Bool} {f:Nat} {k:List Item} {l:List (List Item)} {st:St} {o:Oper} {t u:Nat} {x y:Operand} {m:Int} {d:Nat} (z:Nat) (_hn:l[n]? =some (.aop all i listed f::k))
 (hl:l=(Region.ready .any all listed.toArray).map fun j=>(.aop all j listed f::k:List Item)) (hi:all[i]? =some o) (ho:o.op=.binOp .rem t x y u) (hns:Region.noSelect all=true) (hfr:Region.free .any all listed.toArray i=true) (hr:(Region.ready .any all listed.toArray).contains i=true)
 (hg:guardE all st o=some true) (hx:evO st x=.pt (.one (.int .i64 m))) (hy:evO st y=.pt (.one (.int .i64 (.ofNat d)))) (hm:0≤m) (hd:0<d) (hz:z=m.toNat % d) (h:Goes P Q c w0 (.aops all (setN listed i true) f::k) (st.put o.dst (ofR (.int .i64 (.ofNat z))))):OutOk P Q c w0 (.fork l st):=⟨fun x' hx'=>⟨fun e s a w hc F=>by
 rw[hl] at hx'
 obtain ⟨j,hj,rfl⟩:=List.mem_map.1 hx'
 have hSX:SX c w:=F.ext.xok0 hc
 have hH:=(h.run e s (a.put o.dst (.int .i64 (.ofNat z))) w hc (F.put (ofR_is e _))).2
 rw[setN_arr] at hH
 have hyl:YieldsIf P all (SX c) o (.int .i64 (.ofNat z)) a:=by
  refine .inl ⟨guardE_is F hg,fun w1 _=>?_⟩
  have h1:=evO_is F.tm x
  have h2:=evO_is F.tm y
  rw[hx] at h1
  rw[hy] at h2
  have h1:=one_int h1
  have h2:=one_int h2
  have hn0:¬d=0:=by omega
  obtain ⟨m',rfl⟩:∃m':Nat,m=.ofNat m':=⟨m.toNat,by simp only[Int.ofNat_eq_natCast];omega⟩
  simp[execOp,ho,h1,h2,eqGuard_at_int,binOp,Op.intDiv,hn0,hz]
  exact (Int.ofNat_tmod m' d).symm
 have:=wpL_take (Q:=NP (KQ P Q c k s)) hi hns hfr hr (fun _ _ _ h=>h.elim) SX_later hyl hSX hH
 exact (this w (Below.refl _ _)).2 j hj⟩⟩
end
end
section
def markAll:List Nat→List Bool→List Bool
 | [],l=>l
 | i::is,l=>markAll is (setN l i true)
def okPlan (all:Array Oper):List Nat→List Bool→Bool
 | [],_=>true
 | i::is,l=>((Region.ready .any all l.toArray).contains i&&Region.free .any all l.toArray i)&&okPlan all is (setN l i true)
def guardP (all:Array Oper) (st:St) (o:Oper):Option Bool:=match o.guard with
 | none=>some true
 | some (j,want)=>match (all[j]?).bind (·.dst) with
   | some d=>match nth st.t d with
     | some (.pt (.one (.lit b)))=>some (b==want)
     | some (.pt (.one (.bool b)))=>some (b==want)
     | some (.tup _)=>some false
     | _=>none
   | none=>none
def litC:SC→SC
 | .bool true=>.lit true
 | .bool false=>.lit false
 | c=>c
def litV:SV→SV
 | .pt (.one c)=>.pt (.one (litC c))
 | x=>x
theorem litV_is {x:SV} {e:Env} {v:Value} (h:x.is e v):(litV x).is e v:=by
 unfold litV
 split
 · rename_i c
   have h:c.is e v:=h
   show (litC c).is e v
   unfold litC
   split
   · exact h
   · exact h
   · exact h
 · exact h
def runPlan (b:Bool) (T:Tb) (e:Nat→Nat→Row) (all:Array Oper):List Nat→St→Option St
 | [],st=>some st
 | i::is,st=>match all[i]? with
   | none=>none
   | some o=>match guardP all st o with
     | some true=>(match stabE T e st o.op with
       | .v x=>if x.det then runPlan b T e all is (st.put o.dst (if b then litV x else x)) else none
       | .need j m x=>if x.det&&(decide (0≤j)&&decide (j<m)) then runPlan b T e all is (st.put o.dst (if b then litV x else x)) else none
       | _=>none)
     | some false=>runPlan b T e all is (st.put o.dst skipS)
     | none=>none
section
variable {P:Program} {Q:Exit→Act→World→Prop} {c:Nat→Nat→Row} {T:Tb} {w0:Base} {all:Array Oper} {k:List Item} {st:St}
theorem yields_bool {e:Env} {st:St} {a:Act} {s:List Act} {w:World} (F:Fit e w0 st a s w) {all:Array Oper} {j d:Nat} {b:Bool} (hj:(all[j]?).bind (·.dst)=some d) (h:st.t[d]? =some (.pt (.one (.bool b)))):yielded all a.tmps j=some b:=by
 obtain ⟨v,hv,hs⟩:=isV_get F.tm h
 have hs:v=.bool b:=hs
 subst hs
 have hv':a.tmps[d]? =some (.bool b):=by simpa using hv
 simp[yielded,hj,hv']
theorem guardP_is {e:Env} {st:St} {a:Act} {s:List Act} {w:World} (F:Fit e w0 st a s w) {all:Array Oper} {o:Oper} {b:Bool} (hb:guardP all st o=some b):Region.wanted o (yielded all a.tmps)=b:=by
 unfold guardP at hb
 split at hb
 · rename_i hg;cases hb;simp[Region.wanted,hg]
 · rename_i j want hg
   split at hb
   · rename_i d hd
     split at hb
     · rename_i b' hb'
       cases hb
       rw[nth_eq] at hb'
       have hy:=yields_lit F hd hb'
       simp only[Region.wanted,hg,hy]
       cases b'<;>cases want<;>rfl
     · rename_i b' hb'
       cases hb
       rw[nth_eq] at hb'
       have hy:=yields_bool F hd hb'
       simp only[Region.wanted,hg,hy]
       cases b'<;>cases want<;>rfl
     · rename_i l hb'
       cases hb
       rw[nth_eq] at hb'
       exact not_wanted hg (yields_tup0 F hd hb')
     · cases hb
   · cases hb
theorem go_takeP1 (hT:TOk P T) {i:Nat} {o:Oper} {x x':SV} {l:List Bool} {f:Nat} (hx:∀e v,x.is e v→x'.is e v) (hns:Region.noSelect all=true) (hr:(Region.ready .any all l.toArray).contains i=true) (hf:Region.free .any all l.toArray i=true) (ho:all[i]? =some o) (hg:guardP all st o=some true) (hs:stabE T c st o.op=.v x) (hd:x.det=true)
 (h:Goes P Q c w0 (.aops all (setN l i true) f::k) (st.put o.dst x')):Goes P Q c w0 (.aops all l (f+1)::k) st:=⟨fun e s a w hc F=>by
 have hSX:SX c w:=F.ext.xok0 hc
 refine ⟨hSX,?_⟩
 show wpL P .any all (NP (KQ P Q c k s)) (SX c) (f+1) l.toArray a w
 have hop:=stab_v hT F o (by rw[hc];exact hs)
 rw[hc] at hop
 obtain ⟨v,h1,h2⟩:=hop w hSX
 refine wpL_take (v:=v) ho hns hf hr (fun _ _ _ h=>h.elim) SX_later (.inl ⟨guardP_is F hg,fun w' hS=>?_⟩) hSX ?_
 · obtain ⟨v',h1',h2'⟩:=hop w' hS
   rw[h2',SV.one_of hd h1' h1]
 · rw[←setN_arr]
   exact (h.run e s _ w hc (F.put (hx e v h1))).2⟩
theorem go_needP1 (hT:TOk P T) {i:Nat} {o:Oper} {x x':SV} {j:Int} {m:Nat} {l:List Bool} {f:Nat} (hx:∀e v,x.is e v→x'.is e v) (hns:Region.noSelect all=true) (hr:(Region.ready .any all l.toArray).contains i=true) (hf:Region.free .any all l.toArray i=true) (ho:all[i]? =some o) (hg:guardP all st o=some true) (hs:stabE T c st o.op=.need j m x) (h0:0≤j) (h1:j<m) (hd:x.det=true)
 (h:Goes P Q c w0 (.aops all (setN l i true) f::k) (st.put o.dst x')):Goes P Q c w0 (.aops all l (f+1)::k) st:=⟨fun e s a w hc F=>by
 have hSX:SX c w:=F.ext.xok0 hc
 refine ⟨hSX,?_⟩
 show wpL P .any all (NP (KQ P Q c k s)) (SX c) (f+1) l.toArray a w
 have hop:=stab_need hT F o (by rw[hc];exact hs) h0 h1
 rw[hc] at hop
 obtain ⟨v,h1,h2⟩:=hop w hSX
 refine wpL_take (v:=v) ho hns hf hr (fun _ _ _ h=>h.elim) SX_later (.inl ⟨guardP_is F hg,fun w' hS=>?_⟩) hSX ?_
 · obtain ⟨v',h1',h2'⟩:=hop w' hS
   rw[h2',SV.one_of hd h1' h1]
 · rw[←setN_arr]
   exact (h.run e s _ w hc (F.put (hx e v h1))).2⟩
theorem go_skipP {i:Nat} {o:Oper} {l:List Bool} {f:Nat} (hns:Region.noSelect all=true) (hr:(Region.ready .any all l.toArray).contains i=true) (hf:Region.free .any all l.toArray i=true) (ho:all[i]? =some o) (hg:guardP all st o=some false)
 (h:Goes P Q c w0 (.aops all (setN l i true) f::k) (st.put o.dst skipS)):Goes P Q c w0 (.aops all l (f+1)::k) st:=⟨fun e s a w hc F=>by
 have hSX:SX c w:=F.ext.xok0 hc
 refine ⟨hSX,?_⟩
 show wpL P .any all (NP (KQ P Q c k s)) (SX c) (f+1) l.toArray a w
 refine wpL_take (v:=undef) ho hns hf hr (fun _ _ _ h=>h.elim) SX_later (.inr ⟨guardP_is F hg,rfl⟩) hSX ?_
 rw[←setN_arr]
 exact (h.run e s _ w hc (F.put (undef_is e))).2⟩
theorem plan_ok (b:Bool) (hT:TOk P T) (hns:Region.noSelect all=true) {f:Nat}:∀(is:List Nat) (l:List Bool) (st st':St),okPlan all is l=true→runPlan b T c all is st=some st'→Goes P Q c w0 (.aops all (markAll is l) f::k) st'→Goes P Q c w0 (.aops all l (f+is.length)::k) st
 | [],l,st,st',_,hr,h=>by
   simp only[runPlan,Option.some.injEq] at hr
   subst hr;exact h
 | i::is,l,st,st',hp,hr,h=>by
   simp only[okPlan,Bool.and_eq_true] at hp
   obtain ⟨⟨h1,h2⟩,h3⟩:=hp
   show Goes P Q c w0 (.aops all l (f+is.length+1)::k) st
   unfold runPlan at hr
   split at hr
   · cases hr
   · rename_i o ho
     split at hr
     · rename_i hg
       split at hr
       · rename_i x hx
         split at hr
         · rename_i hd
           exact go_takeP1 hT (x':=if b then litV x else x) (fun e v h=>by cases b;exact h;exact litV_is h) hns h1 h2 ho hg hx hd (plan_ok b hT hns is _ _ _ h3 hr h)
         · cases hr
       · rename_i j m x hx
         split at hr
         · rename_i hd
           simp only[Bool.and_eq_true,decide_eq_true_eq] at hd
           exact go_needP1 hT (x':=if b then litV x else x) (fun e v h=>by cases b;exact h;exact litV_is h) hns h1 h2 ho hg hx hd.2.1 hd.2.2 hd.1 (plan_ok b hT hns is _ _ _ h3 hr h)
         · cases hr
       · cases hr
     · rename_i hg
       exact go_skipP hns h1 h2 ho hg (plan_ok b hT hns is _ _ _ h3 hr h)
     · cases hr
theorem go_plan (b:Bool) (hT:TOk P T) (m n:Nat) (is:List Nat) {l l':List Bool} {f f':Nat} {st':St} (hm:all.size=m) (hn:l.count true=n) (hf:f'=f+is.length) (hns:Region.noSelect all=true) (hp:okPlan all is l=true) (hl:markAll is l=l') (hr:runPlan b T c all is st=some st') (h:Goes P Q c w0 (.aops all l' f::k) st'):Goes P Q c w0 (.aops all l f'::k) st:=by
 subst hf hl
 exact plan_ok b hT hns is l st st' hp hr h
theorem go_one1 (m n i:Nat) {l:List Bool} {f:Nat} (hm:all.size=m) (hn:l.count true=n) (hr:Region.ready .any all l.toArray=[i]) (h:Goes P Q c w0 (.aop all i l f::k) st):Goes P Q c w0 (.aops all l (f+1)::k) st:=⟨fun e s a w hc F=>by
 have hSX:SX c w:=F.ext.xok0 hc
 refine ⟨hSX,?_⟩
 show wpL P .any all (NP (KQ P Q c k s)) (SX c) (f+1) l.toArray a w
 refine wpL_all hr (by simp) fun w' hw' j hj=>?_
 have:j=i:=by simpa using hj
 subst this
 exact h.run e s a w' hc (F.later hw')⟩
theorem go_oneV (hT:TOk P T) {i:Nat} {o:Oper} {l:List Bool} {f:Nat} {x:SV} (ho:all[i]? =some o) (hg:guardP all st o=some true) (hop:opE T c st o.op=.v x) (h:Goes P Q c w0 (.aops all (setN l i true) f::k) (st.put o.dst x)):Goes P Q c w0 (.aop all i l f::k) st:=⟨fun e s a w hc F=>by
 show wpOp P all (NP (KQ P Q c k s)) i (fun a w=>SX c w∧wpL P .any all (NP (KQ P Q c k s)) (SX c) f (l.toArray.setIfInBounds i true) a w) a w
 rw[←setN_arr]
 unfold wpOp
 simp only[ho,guardP_is F hg,if_true]
 refine .inl ?_
 have hop':=opE_ok hT F o
 rw[hc,hop] at hop'
 obtain ⟨v,h1,h2⟩:=hop'
 unfold Oper.wp
 rw[h2,Oper.upon_value]
 exact h.run e s _ _ hc (F.put h1)⟩
theorem go_oneCall (hT:TOk P T) {i:Nat} {o:Oper} {l:List Bool} {f f':Nat} {args:List SV} (ho:all[i]? =some o) (hg:guardP all st o=some true) (hop:opE T c st o.op=.call f' args) (h:OutOk P Q c w0 (.call f' args o.dst (.aops all (setN l i true) f::k) st)):Goes P Q c w0 (.aop all i l f::k) st:=⟨fun e s a w hc F=>by
 show wpOp P all (NP (KQ P Q c k s)) i (fun a w=>SX c w∧wpL P .any all (NP (KQ P Q c k s)) (SX c) f (l.toArray.setIfInBounds i true) a w) a w
 rw[←setN_arr]
 unfold wpOp
 simp only[ho,guardP_is F hg,if_true]
 refine .inl ?_
 have hop':=opE_ok hT F o
 rw[hc,hop] at hop'
 obtain ⟨vs,h1,h2⟩:=hop'
 obtain ⟨h3,h4⟩:=h.ok e s a w hc F vs h1
 unfold Oper.wp
 rw[h2,h3,Oper.upon_enter]
 exact h4.mono fun en w' ⟨v,he,hk⟩=>by subst he;exact hk⟩
theorem go_oneNeed (hT:TOk P T) {i:Nat} {o:Oper} {l:List Bool} {f:Nat} {j:Int} {m:Nat} {x:SV} (ho:all[i]? =some o) (hg:guardP all st o=some true) (hop:opE T c st o.op=.need j m x) (h:OutOk P Q c w0 (.need j m (.aops all (setN l i true) f::k) (st.put o.dst x))):Goes P Q c w0 (.aop all i l f::k) st:=⟨fun e s a w hc F=>by
 show wpOp P all (NP (KQ P Q c k s)) i (fun a w=>SX c w∧wpL P .any all (NP (KQ P Q c k s)) (SX c) f (l.toArray.setIfInBounds i true) a w) a w
 rw[←setN_arr]
 unfold wpOp
 simp only[ho,guardP_is F hg,if_true]
 refine .inl ?_
 have hop':=opE_ok hT F o
 rw[hc,hop] at hop'
 obtain ⟨⟨g1,g2⟩,h⟩:=h.ok
 obtain ⟨v,h1,h2⟩:=hop' g1 g2
 unfold Oper.wp
 rw[h2,Oper.upon_value]
 exact h.run e s _ _ hc (F.put h1)⟩
theorem go_lit (d:Nat) (b:Bool) (hd:nth st.t d=some (.pt (.one (.bool b)))) (h:Goes P Q c w0 k { st with t:=setN st.t d (.pt (.one (.lit b))) }):Goes P Q c w0 k st:=⟨fun e s a w hc F=>h.run e s a w hc (F.lit (by rw[nth_eq] at hd;exact hd) rfl)⟩
theorem go_litN (m n d:Nat) (b:Bool) {x:Bool} {l:List Bool} {f:Nat} (hm:all.size=m) (hn:l.count true=n) (hd:nth st.t d=some (.pt (.one (.bool x)))) (hx:x=b) (h:Goes P Q c w0 (.aops all l f::k) { st with t:=setN st.t d (.pt (.one (.lit b))) }):Goes P Q c w0 (.aops all l f::k) st:=by
 subst hx
 exact go_lit d x hd h
theorem go_planEnd (m:Nat) {l:List Bool} {f:Nat} (hm:all.size=m) (hn:l.count true=m) (hr:Region.ready .any all l.toArray=[]) (h:Goes P Q c w0 k st):Goes P Q c w0 (.aops all l f::k) st:=⟨fun e s a w hc F=>by
 have hSX:SX c w:=F.ext.xok0 hc
 refine ⟨hSX,?_⟩
 show wpL P .any all (NP (KQ P Q c k s)) (SX c) f l.toArray a w
 exact wpL_done (Q:=NP (KQ P Q c k s)) hr (fun w' hw'=>h.run e s a w' hc (F.later hw')) f⟩
end
end
section
section
variable {P:Program} {Q:Exit→Act→World→Prop} {c:Nat→Nat→Row} {w0:Base}
theorem go_cutCodeW {σ:Type} (C:σ→Nat→Nat→Row) (inv:σ→St) {cd:Code} {k:List Item} {st:St} (hk:noA k=true) (h1:Goes P (fun _ _ _=>False) c w0 [.code cd,.stop (CutI C w0 inv)] st) (h2:∀y,Goes P Q (C y) w0 k (inv y)):Goes P Q c w0 (.code cd::k) st:=⟨fun e s a w hc F=>by
 have h:=h1.run e s a w hc F
 show cd.wp P (KQ P Q c k s) a w
 refine wp_mono (Q:=KQ P (fun _ _ _=>False) c [.stop (CutI C w0 inv)] s) h (fun en a' w' hq=>?_)
 cases en with
 | normal=>
   obtain ⟨y,e',h3,h4⟩:=hq
   have h5:KQ P Q (C y) k s .normal a' w':=(h2 y).run e' s a' w' h3 h4
   rw[KQ_chi (c':=c) hk] at h5
   exact h5
 | _=>exact hq.elim⟩
theorem go_cutR1 (id:Nat) {σ:Type} (C:σ→Nat→Nat→Row) (ws:List Nat) (rups:σ→List (Nat×ORow)) {ops:Array Oper} {d:Bool} {b:Code} {k:List Item} {st:St} (hk:noA (.code b::k)=true) (h1:Goes P (fun _ _ _=>False) c w0 [.code (.region id ops d),.stop (CutI C w0 (fun y=>st.lay ws [] [] (rups y)))] st) (h2:∀y,Goes P Q (C y) w0 (.code b::k) (st.lay ws [] [] (rups y))):Goes P Q c w0 (.code ((Code.region id ops d).seq b)::k) st:=⟨fun e s a w hc F=>wp_seq ((go_cutCodeW C _ hk h1 h2).run e s a w hc F)⟩
theorem go_cutR2 (id:Nat) {σ:Type} (C:σ→Nat→Nat→Row) (ws:List Nat) (rups:σ→List (Nat×ORow)) {ops:Array Oper} {d:Bool} {b c2:Code} {k:List Item} {st:St} (hk:noA (.code b::k)=true) (h1:Goes P (fun _ _ _=>False) c w0 [.code ((Code.region id ops d).seq c2),.stop (CutI C w0 (fun y=>st.lay ws [] [] (rups y)))] st) (h2:∀y,Goes P Q (C y) w0 (.code b::k) (st.lay ws [] [] (rups y))):Goes P Q c w0 (.code (((Code.region id ops d).seq c2).seq b)::k) st:=⟨fun e s a w hc F=>wp_seq ((go_cutCodeW C _ hk h1 h2).run e s a w hc F)⟩
theorem go_cutR0 (id i:Nat) {σ:Type} (C:σ→Nat→Nat→Row) (ws:List Nat) (rups:σ→List (Nat×ORow)) {ops:Array Oper} {d:Bool} {b c2:Code} {k:List Item} {st:St} (hk:noA (.code b::.blk i::.code c2::k)=true) (h1:Goes P (fun _ _ _=>False) c w0 [.code (.region id ops d),.stop (CutI C w0 (fun y=>st.lay ws [] [] (rups y)))] st) (h2:∀y,Goes P Q (C y) w0 (.code b::.blk i::.code c2::k) (st.lay ws [] [] (rups y))):Goes P Q c w0 (.code .skip::.code ((Code.block i ((Code.region id ops d).seq b)).seq c2)::k) st:=⟨fun e s a w hc F=>by
 have h:=(go_cutCodeW C _ hk h1 h2).run e s a w hc F
 refine wp_skip (Q:=KQ P Q c (.code ((Code.block i ((Code.region id ops d).seq b)).seq c2)::k) s) ?_
 exact wp_seq (wp_block (wp_seq h))⟩
end
end
end Go.Proofs.YtamcjkgedgocfaaGreat
