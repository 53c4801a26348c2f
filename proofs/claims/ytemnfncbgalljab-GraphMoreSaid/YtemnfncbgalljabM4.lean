/- Lemmas. No condition. -/
import Derived.Test.YtemnfncbgalljabM3
import Derived.Deep.LoopGhost
import Derived.LoopN
import Derived.IntWalk
namespace Go.Proofs.Ytemnfncbgalljab
open Go.RowKit
set_option linter.all false
section
variable {P:Program} {ops:Array Oper} {Q:E9z} {md:Region.Mode} {S:World->Prop}
def wpL (P:Program) (md:Region.Mode) (ops:Array Oper) (Q:E9z) (S:World->Prop):Nat->Array Bool->Act->World->Prop
 | 0,listed,a,w=>∀w',Below w.heap.size w w'->Region.ready md ops listed=[]/\Q .normal a w'
 | f+1,listed,a,w=>∀w',Below w.heap.size w w'->(Region.ready md ops listed=[]->Q .normal a w')/\
   ∀i∈Region.ready md ops listed,wpOp P ops Q i (fun a'' w''=>S w''/\wpL P md ops Q S f (listed.setIfInBounds i true) a'' w'') a w'
theorem Qni:∀{f:Nat} {l:Array Bool} {a:Act} {w w2:World},wpL P md ops Q S f l a w->Below w.heap.size w w2->wpL P md ops Q S f l a w2
 | 0,_,_,_,_,h,hb=>fun w' hb'=>h w' (hb.trans (hb'.mono hb.size))
 | _+1,_,_,_,_,h,hb=>fun w' hb'=>h w' (hb.trans (hb'.mono hb.size))
theorem Qpl:∀(f:Nat) (l:Array Bool) (a:Act) (w:World),wpL P md ops Q S f l a w->wpAnyH P md ops Q S f l a w
 | 0,_,_,w,h=>h w (Below.refl _ _)
 | f+1,_,_,w,h=>⟨(h w (Below.refl _ _)).1,fun i hi=>wpOp_mono (fun a' w' h'=>⟨h'.1,Qpl f _ a' w' h'.2⟩) ((h w (Below.refl _ _)).2 i hi)⟩
theorem Qiu {S':World->Prop} (hS:∀w,S' w->S w):∀(f:Nat) (l:Array Bool) (a:Act) (w:World),wpL P md ops Q S' f l a w->wpL P md ops Q S f l a w
 | 0,_,_,_,h=>h
 | f+1,_,_,_,h=>fun w' hb=>⟨(h w' hb).1,fun i hi=>wpOp_mono (fun a' w' h'=>⟨hS w' h'.1,Qiu hS f _ a' w' h'.2⟩) ((h w' hb).2 i hi)⟩
theorem Qa2 {l:Array Bool} {a:Act} {w:World} (hr:Region.ready md ops l=[]) (h:∀w',Below w.heap.size w w'->Q .normal a w'):∀f,wpL P md ops Q S f l a w
 | 0=>fun w' hb=>⟨hr,h w' hb⟩
 | _+1=>fun w' hb=>⟨fun _=>h w' hb,fun i hi=>by rw[hr] at hi;cases hi⟩
theorem Q3r {rs:List Nat} {f:Nat} {l:Array Bool} {a:Act} {w:World} (hr:Region.ready md ops l=rs) (hne:rs≠[])
 (h:∀w',Below w.heap.size w w'->∀i∈rs,wpOp P ops Q i (fun a'' w''=>S w''/\wpL P md ops Q S f (l.setIfInBounds i true) a'' w'') a w'):wpL P md ops Q S (f+1) l a w:=
 fun w' hb=>⟨fun h0=>absurd (hr▸h0) hne,hr▸h w' hb⟩
def CallIf (P:Program) (ops:Array Oper) (S:World->Prop) (o:Oper) (v:Value) (a:Act):Prop:=
 Region.wanted o (yielded ops a.tmps)=true/\∃(f:Nat) (args:Array Value),∀w,S w->(execOp a.eval o).run P w=.ok (.enter f args) w/\Calls P f args w (fun e w''=>e=.returned v/\Below w.heap.size w w''/\S w'')
theorem CallIf.put {o:Oper} {v:Value} {a:Act} (hs:∀cs b,o.op≠.select cs b) (hc:CallIf P ops S o v a) {d:Option Tmp} (hd:∀t,d=some t->t ∉ o.looksAt ops) (u:Value):CallIf P ops S o v (a.put d u):=by
 unfold CallIf at *
 rw[execOp_put o hs a d u hd,wanted_put o a d u hd]
 exact hc
theorem Q2z {i:Nat} {oi:Oper} {v:Value} (hi:ops[i]? =some oi) (hsel:∀(j:Nat) (o:Oper) cs b,ops[j]? =some o->o.op≠.select cs b)
 (hQ:∀c a w,Q (.panic c) (a.put oi.dst v) w->Q (.panic c) a w) (hcl:∀w w',S w->Below w.heap.size w w'->S w'):
 ∀(fuel:Nat) (listed:Array Bool) (a:Act) (w:World),
  (∀j oj,ops[j]? =some oj->j≠i->listed.getD j true=false->(∀e∈oj.after,Region.binds md e=true->e.on≠i)->oi.apart ops oj=true)->
  i∈Region.ready md ops listed->YieldsIf P ops S oi v a->S w->
  wpL P md ops Q S fuel (listed.setIfInBounds i true) (a.put oi.dst v) w->wpL P md ops Q S (fuel+1) listed a w:=by
 intro fuel
 induction fuel with
 | zero=>
   intro listed a w _ hr hy hS H w' hb
   refine ⟨fun h=>(by rw[h] at hr;cases hr),fun j hj=>?_⟩
   by_cases hji:j=i
   · subst hji
     exact hy.wpOp hi (hcl _ _ hS hb) ⟨hcl _ _ hS hb,Qni H hb⟩
   · have:=ready_mono hj hji
     rw[(H w' hb).1] at this
     cases this
 | succ fuel ih=>
   intro listed a w hfree hr hy hS H w' hb
   refine ⟨fun h=>(by rw[h] at hr;cases hr),fun j hj=>?_⟩
   by_cases hji:j=i
   · subst hji
     exact hy.wpOp hi (hcl _ _ hS hb) ⟨hcl _ _ hS hb,Qni H hb⟩
   · have h1:=(H w' hb).2 j (ready_mono hj hji)
     obtain ⟨hjun,oj,hoj,hall⟩:=mem_ready.1 hj
     have hnot:∀e∈oj.after,Region.binds md e=true->e.on≠i:=fun e he hbd heq=>by
      have g1:=hall e he hbd
      have g0:=(mem_ready.1 hr).1
      rw[heq] at g1
      rcases Nat.lt_or_ge i listed.size with h'|h'
      · simp[h'] at g0 g1;rw[g0] at g1;cases g1
      · simp[Array.getElem?_eq_none h'] at g1
     have h2:=wpOp_putIf hoj (hfree j oj hoj hji hjun hnot) (fun cs b=>hsel i oi cs b hi) (fun cs b=>hsel j oj cs b hoj) hQ hy h1
     have hfree':∀k ok,ops[k]? =some ok->k≠i->(listed.setIfInBounds j true).getD k true=false->(∀e∈ok.after,Region.binds md e=true->e.on≠i)->oi.apart ops ok=true:=fun k ok hk hki hun hno=>by
      refine hfree k ok hk hki ?_ hno
      by_cases hjk:j=k
      · subst hjk;exact hjun
      · rw[getD_set_ne true hjk] at hun;exact hun
     refine wpOp_mono (fun a' w' h3=>⟨h3.2.1,ih (listed.setIfInBounds j true) a' w' hfree' (ready_mono hr (Ne.symm hji)) h3.1 h3.2.1 ?_⟩) h2
     rw[Array.setIfInBounds_comm _ _ hji]
     exact h3.2.2
theorem Qwg {i:Nat} {oi:Oper} {v:Value} {fuel:Nat} {listed:Array Bool} {a:Act} {w:World} (hi:ops[i]? =some oi)
 (hs:Region.noSelect ops=true) (hf:Region.free md ops listed i=true) (hr:(Region.ready md ops listed).contains i=true)
 (hQ:∀c a w,Q (.panic c) (a.put oi.dst v) w->Q (.panic c) a w) (hcl:∀w w',S w->Below w.heap.size w w'->S w') (hy:YieldsIf P ops S oi v a) (hS:S w)
 (h:wpL P md ops Q S fuel (listed.setIfInBounds i true) (a.put oi.dst v) w):wpL P md ops Q S (fuel+1) listed a w:=
 Q2z hi (Region.noSelect_spec hs) hQ hcl fuel listed a w (Region.free_spec hi hf) (by simpa using hr) hy hS h
end
def Qxm:Nat->List SV
 | 0=>[]
 | n+1=>undefS::Qxm n
theorem Qki (e:Env):∀n,isV e (Qxm n) (List.replicate n undef)
 | 0=>trivial
 | n+1=>⟨trivial,Qki e n⟩
def Qy8 (tmps:Array Value):ResultVar->Sem Value
 | .tmp t=>pure (tmps.getD t undef)
 | .cell a t=>do loadVar t (<-asAddr (tmps.getD a undef))
def Q6p (rs:Array ResultVar) (tmps:Array Value):Sem Value:=do
 let vs <-rs.mapM (Qy8 tmps)
 pure (if h:vs.size=1 then vs[0] else .tuple vs)
theorem Qfj (fn:Func) (tmps:Array Value):results fn tmps=Q6p fn.results tmps:=rfl
def NP (Q:E9z):Exit->Act->World->Prop
 | .normal,a,w=>Q .normal a w
 | _,_,_=>False
theorem Q83 {Q:E9z} (e:Exit) (a:Act) (w:World) (h:NP Q e a w):Q e a w:=by cases e<;>first|exact h|exact h.elim
def KQ (P:Program) (Q:E9z) (c:R9z):List Item->List Act->Exit->Act->World->Prop
 | [],_=>Q
 | .code cd::k,s=>Exit.then (cd.wp P (KQ P Q c k s)) (KQ P Q c k s)
 | .ops all rest::k,s=>Exit.then (wpList P all (KQ P Q c k s) rest) (KQ P Q c k s)
 | .blk id::k,s=>Exit.inBlock id (KQ P Q c k s)
 | .stop I::k,s=>Exit.then (I s) (KQ P Q c k s)
 | .rnds b m::k,s=>Exit.then (Code.rounds P b (KQ P Q c k s) m) (KQ P Q c k s)
 | .aops all l f::k,s=>Exit.then (fun a w=>SX c w/\wpL P .any all (NP (KQ P Q c k s)) (SX c) f l.toArray a w) (KQ P Q c k s)
 | .aop all i l f::k,s=>Exit.then (wpOp P all (NP (KQ P Q c k s)) i (fun a w=>SX c w/\wpL P .any all (NP (KQ P Q c k s)) (SX c) f (l.toArray.setIfInBounds i true) a w)) (KQ P Q c k s)
 | .qops all rest::k,s=>Exit.then (fun a w=>wpQuiet P all (fun w'=>Below w.heap.size w w') (fun a'=>∀w',Below w.heap.size w w'->KQ P Q c k s .normal a' w') rest a) (KQ P Q c k s)
 | .back r d::k,s=>fun x a w=>match x,s with
   | .normal,a0::s'=>a.defers=[]/\∃v,(Q6p r.toArray a.tmps).run P w=.ok v w/\KQ P Q c k s' .normal (a0.put d v) w
   | .ret,a0::s'=>a.defers=[]/\∃v,(Q6p r.toArray a.tmps).run P w=.ok v w/\KQ P Q c k s' .normal (a0.put d v) w
   | _,_=>False
theorem XOk.ext {c:R9z} {e:Env} {w0:Base} {st:St} (h:XOk ⟨[],c,[]⟩ w0) (hc:e.chi=c) (hH:∀k b,Qhd e st k b->b∈w0.mo) (hR:∀q b,¬Qdd e st q b) (hE:∀b,w0.ex b=none):Ext e w0 st w0.w:=⟨fun q i j hj=>by
 subst hc
 obtain ⟨b,p,h1,h2,h3,vs,h4,h5⟩:=h q i j hj
 exact ⟨b,p,h1,h2,h3,fun k hk=>h3 (hH k b hk),fun q'=>hR q' b,vs,h4,h5⟩,fun b o h=>absurd h (by rw[hE];simp),fun _ _ _ _ _ _ _=>hE _⟩
theorem Ext.xok {e:Env} {w0:Base} {st:St} {w:World} (h:Ext e w0 st w) (bs:List Nat) (hb:∀b∈bs,∃k,Qhd e st k b):XOk ⟨[],e.chi,[]⟩ ⟨w,bs⟩:=fun q i j hj=>by
 obtain ⟨b,p,h1,h2,h3,h4,h5,vs,h6,h7⟩:=h.ok q i j hj
 exact ⟨b,p,h1,h2,fun hm=>(hb b hm).elim fun k hk=>h4 k hk,vs,h6,h7⟩
theorem Ext.xok0 {c:R9z} {e:Env} {w0:Base} {st:St} {w:World} (h:Ext e w0 st w) (hc:e.chi=c):XOk ⟨[],c,[]⟩ ⟨w,[]⟩:=by
 subst hc;exact h.xok [] (fun b hb=>by simp at hb)
theorem Qje {c:R9z}:∀w w',SX c w->Below w.heap.size w w'->SX c w':=fun w w' h hb q i j hj=>by
 obtain ⟨b,p,h1,h2,h3,vs,h4,h5⟩:=h q i j hj
 exact ⟨b,p,h1,Nat.lt_of_lt_of_le h2 hb.size,h3,vs,h4,fun t v ht=>(hb.cell (p:=⟨b,_,none⟩) h2).trans (h5 t v ht)⟩
def Qzm (c:R9z) (w0:Base) (st:St) (G:Env->List Act->Act->World->Prop):Prop:=∀(e:Env) (s:List Act) (a:Act) (w:World),e.chi=c->Fit e w0 st a s w->G e s a w
structure Goes (P:Program) (Q:E9z) (c:R9z) (w0:Base) (k:List Item) (st:St):Prop where
 run:Qzm c w0 st fun _ s a w=>KQ P Q c k s .normal a w
def Met (P:Program) (f:Nat) (vs:List Value) (w:World) (R:Value->World->Prop):Prop:=
 ((callFunc f vs.toArray).run P w=.ok (.enter f vs.toArray) w)/\Calls P f vs.toArray w (fun en w'=>∃v,en=.returned v/\R v w')
def Qo8 (P:Program) (Q:E9z) (c:R9z) (w0:Base):Out->Prop
 | .fin st=>Qzm c w0 st fun _ _ a w=>Q .normal a w
 | .ret st=>Qzm c w0 st fun _ _ a w=>Q .ret a w
 | .br b kt st1 kf st2=>(b=true->Goes P Q c w0 kt st1)/\(b=false->Goes P Q c w0 kf st2)
 | .call f args dst k st=>Qzm c w0 st fun e s a w=>∀vs,isV e args vs->Met P f vs w fun v w'=>KQ P Q c k s .normal (a.put dst v) w'
 | .callq f args dst k st=>Qzm c w0 st fun e s a w=>∀vs,isV e args vs->∃v,(∀w',Below w.heap.size w w'->Met P f vs w' fun u w''=>u=v/\Below w.heap.size w w'')/\KQ P Q c k s .normal (a.put dst v) w
 | .fork l st=>∀k∈l,Goes P Q c w0 k st
 | .ask o cs dst k st=>∃x,cs[o]? =some x/\x.det=true/\Goes P Q c w0 k (st.put dst (.pt (.one x)))
 | .askS b o cs x dst k st=>o<cs.length/\Goes P Q c w0 k (({ st with h:=Q0b st.h b (some (Qka cs o [x])) }:St).put dst undefS)
 | .loop b k st=>Qzm c w0 st fun _ s a w=>(Code.loop b).wp P (KQ P Q c k s) a w
 | .draw id ops k st=>Qzm c w0 st fun _ s a w=>(Code.region id ops true).wp P (KQ P Q c k s) a w
 | .stop I _ st=>Qzm c w0 st fun _ s a w=>I s a w
 | .need i n k st=>(0<=i/\i<n)/\Goes P Q c w0 k st
 | .row ob k st=>ob/\Goes P Q c w0 k st
 | .man o all rest k st=>Qzm c w0 st fun _ s a w=>wpList P all (KQ P Q c k s) (o::rest) a w
 | .stuck=>False
structure OutOk (P:Program) (Q:E9z) (c:R9z) (w0:Base) (o:Out):Prop where
 ok:Qo8 P Q c w0 o
theorem Qvo {e:Env}:∀{l:List (Nat×Nat)} {us vs:List Value},Qfd e l us->Qfd e l vs->us=vs
 | [],[],[],_,_=>rfl
 | (k,o)::l,u::us,v::vs,⟨⟨b,h1,h2⟩,h3⟩,⟨⟨b',h1',h2'⟩,h3'⟩=>by
  rw[h1] at h1';cases h1'
  rw[h2,h2',Qvo h3 h3']
 | [],_::_,_,h,_=>h.elim
 | [],[],_::_,_,h=>h.elim
 | _::_,[],_,h,_=>h.elim
 | _::_,_::_,[],_,h=>h.elim
theorem SC.one {e:Env} {c:SC} {u v:Value} (hd:c.det=true) (h:c.is e u) (h':c.is e v):u=v:=by
 cases c<;>simp only[SC.is] at h h'
 case int=>rw[h,h']
 case bool=>rw[h,h']
 case lit=>rw[h,h']
 case pi=>obtain ⟨b,h1,h2⟩:=h;obtain ⟨b',h1',h2'⟩:=h';rw[h1] at h1';cases h1';rw[h2,h2']
 case ptr=>obtain ⟨b,h1,h2⟩:=h;obtain ⟨b',h1',h2'⟩:=h';rw[h1] at h1';cases h1';rw[h2,h2']
 case sl=>obtain ⟨b,h1,h2⟩:=h;obtain ⟨b',h1',h2'⟩:=h';rw[h1] at h1';cases h1';rw[h2,h2']
 case xs=>rw[h,h']
 case xp=>obtain ⟨_,b,p,h1,h2⟩:=h;obtain ⟨_,b',p',h1',h2'⟩:=h';rw[h1] at h1';cases h1';rw[h2,h2']
 case rs=>have h1:=h.1;rw[h'.1] at h1;cases h1;rfl
 case rp=>obtain ⟨b,p,n,c,h1,h2,h3⟩:=h;obtain ⟨b',p',n',c',h1',h2',h3'⟩:=h';rw[h1] at h1';cases h1';rw[h3,h3']
 case fn=>
  obtain ⟨us,h1,h2⟩:=h;obtain ⟨us',h1',h2'⟩:=h'
  rw[h1,h1']
  congr 1
  apply Array.ext'
  exact Qvo h2 h2'
 case val=>rw[h,h']
 case ob=>rw[h,h']
 case any=>simp[SC.det] at hd
theorem Qax {e:Env}:∀{l:List SC} {us vs:List Value},Qv9 l=true->isL e l us->isL e l vs->us=vs
 | [],[],[],_,_,_=>rfl
 | c::l,u::us,v::vs,hd,h,h'=>by
   simp only[Qv9,Bool.and_eq_true] at hd
   rw[SC.one hd.1 h.1 h'.1,Qax hd.2 h.2 h'.2]
 | [],_::_,_,_,h,_=>h.elim
 | [],[],_::_,_,_,h=>h.elim
 | _::_,[],_,_,h,_=>h.elim
 | _::_,_::_,[],_,_,h=>h.elim
theorem SA.one_of {e:Env} {c:SA} {u v:Value} (hd:c.det=true) (h:c.is e u) (h':c.is e v):u=v:=by
 cases c with
 | one c=>exact SC.one hd h h'
 | agg l=>
   obtain ⟨us,rfl,h⟩:=h
   obtain ⟨vs,rfl,h'⟩:=h'
   congr 1
   apply Array.ext'
   exact Qax hd h h'
theorem Q9w {e:Env}:∀{l:List SA} {us vs:List Value},Qu9 l=true->isA e l us->isA e l vs->us=vs
 | [],[],[],_,_,_=>rfl
 | c::l,u::us,v::vs,hd,h,h'=>by
   simp only[Qu9,Bool.and_eq_true] at hd
   rw[SA.one_of hd.1 h.1 h'.1,Q9w hd.2 h.2 h'.2]
 | [],_::_,_,_,h,_=>h.elim
 | [],[],_::_,_,_,h=>h.elim
 | _::_,[],_,_,h,_=>h.elim
 | _::_,_::_,[],_,_,h=>h.elim
theorem SV.one_of {e:Env} {c:SV} {u v:Value} (hd:c.det=true) (h:c.is e u) (h':c.is e v):u=v:=by
 cases c with
 | pt c=>exact SA.one_of hd h h'
 | tup l=>
   obtain ⟨us,rfl,h⟩:=h
   obtain ⟨vs,rfl,h'⟩:=h'
   congr 1
   apply Array.ext'
   exact Q9w hd h h'
theorem Qdx {e:Env}:∀{l:List SV} {us vs:List Value},Qw9 l=true->isV e l us->isV e l vs->us=vs
 | [],[],[],_,_,_=>rfl
 | c::l,u::us,v::vs,hd,h,h'=>by
   simp only[Qw9,Bool.and_eq_true] at hd
   rw[SV.one_of hd.1 h.1 h'.1,Qdx hd.2 h.2 h'.2]
 | [],_::_,_,_,h,_=>h.elim
 | [],[],_::_,_,_,h=>h.elim
 | _::_,[],_,_,h,_=>h.elim
 | _::_,_::_,[],_,_,h=>h.elim
section
variable {P:Program} {Q:E9z} {c:R9z} {w0:Base} {T:Tb}
theorem Qsh:∀(k:List Item) (s:List Act),Q15 k=none->KQ P Q c k s .ret=Q .ret
 | [],_,_=>rfl
 | .code _::k,s,h=>by funext a w;simp only[KQ,Exit.then,Qsh k s h]
 | .ops all rest::k,s,h=>by funext a w;simp only[KQ,Exit.then,Qsh k s h]
 | .qops all rest::k,s,h=>by funext a w;simp only[KQ,Exit.then,Qsh k s h]
 | .rnds b m::k,s,h=>by funext a w;simp only[KQ,Exit.then,Qsh k s h]
 | .aops all l f::k,s,h=>by funext a w;simp only[KQ,Exit.then,Qsh k s h]
 | .aop all i l f::k,s,h=>by funext a w;simp only[KQ,Exit.then,Qsh k s h]
 | .blk id::k,s,h=>by funext a w;simp only[KQ,Exit.inBlock,Qsh k s h]
 | .stop I::k,s,h=>by funext a w;simp only[KQ,Exit.then,Qsh k s h]
 | .back r d::k,s,h=>by simp[Q15] at h
theorem Q5e {r:List ResultVar} {d:Option Nat} {k':List Item}:∀(k:List Item) (s:List Act),Q15 k=some (r,d,k')->KQ P Q c k s .ret=KQ P Q c (.back r d::k') s .normal
 | [],_,h=>by simp[Q15] at h
 | .code _::k,s,h=>by funext a w;rw[<-Q5e k s h];simp only[KQ,Exit.then]
 | .ops all rest::k,s,h=>by funext a w;rw[<-Q5e k s h];simp only[KQ,Exit.then]
 | .qops all rest::k,s,h=>by funext a w;rw[<-Q5e k s h];simp only[KQ,Exit.then]
 | .rnds b m::k,s,h=>by funext a w;rw[<-Q5e k s h];simp only[KQ,Exit.then]
 | .aops all l f::k,s,h=>by funext a w;rw[<-Q5e k s h];simp only[KQ,Exit.then]
 | .aop all i l f::k,s,h=>by funext a w;rw[<-Q5e k s h];simp only[KQ,Exit.then]
 | .blk id::k,s,h=>by funext a w;rw[<-Q5e k s h];simp only[KQ,Exit.inBlock]
 | .stop I::k,s,h=>by funext a w;rw[<-Q5e k s h];simp only[KQ,Exit.then]
 | .back r' d'::k,s,h=>by
   simp only[Q15,Option.some.injEq,Prod.mk.injEq] at h
   obtain ⟨rfl,rfl,rfl⟩:=h
   funext a w
   cases s<;>rfl
theorem Q4e {id:Nat} {s:List Act}:∀{k k':List Item},Qzq id k=some k'->KQ P Q c k s (.exit id)=KQ P Q c k' s .normal
 | [],k',h=>by simp[Qzq] at h
 | .code _::k,k',h=>by funext a w;simp only[KQ,Exit.then];rw[Q4e (k:=k) h]
 | .ops all rest::k,k',h=>by funext a w;simp only[KQ,Exit.then];rw[Q4e (k:=k) h]
 | .qops all rest::k,k',h=>by funext a w;simp only[KQ,Exit.then];rw[Q4e (k:=k) h]
 | .stop I::k,k',h=>by funext a w;simp only[KQ,Exit.then];rw[Q4e (k:=k) h]
 | .rnds b m::k,k',h=>by funext a w;simp only[KQ,Exit.then];rw[Q4e (k:=k) h]
 | .aops all l f::k,k',h=>by funext a w;simp only[KQ,Exit.then];rw[Q4e (k:=k) h]
 | .aop all i l f::k,k',h=>by funext a w;simp only[KQ,Exit.then];rw[Q4e (k:=k) h]
 | .back r d::k,k',h=>by simp[Qzq] at h
 | .blk i::k,k',h=>by
   funext a w
   simp only[Qzq] at h
   simp only[KQ,Exit.inBlock]
   split at h
   · cases h
     rename_i hi
     rw[if_pos hi.symm]
   · rename_i hi
     rw[if_neg (fun h=>hi h.symm),Q4e (k:=k) h]
theorem Qej (hT:TOk P T) {e:Env} {st:St} {a:Act} {s:List Act} {w:World} {r:ResultVar} {x:SV} (F:Fit e w0 st a s w) (h:Qe3 T e.chi st r=some x):∃v,(Qy8 a.tmps r).run P w=.ok v w/\x.is e v:=by
 cases r with
 | tmp t=>
   cases h
   exact ⟨a.eval (.tmp t),rfl,Qab F.tm (.tmp t)⟩
 | cell u t=>
   have hop:=Qjy hT F (x:=.tmp u) (t:=t) { (default:Oper) with op:=.load t (.tmp u) } rfl
   simp only[opE] at hop
   simp only[Qe3] at h
   split at h
   · rename_i y hy
     cases h
     rw[hy] at hop
     obtain ⟨v,h1,h2⟩:=hop
     refine ⟨v,?_,h1⟩
     have e1:(Instr.loadAt t (a.eval (.tmp u))).run P w=.ok v w:=by
      simp only[execOp,Sem.run_bind] at h2
      generalize hg:(Instr.loadAt t (a.eval (.tmp u))).run P w=res at h2
      cases res with
      | ok q w'=>
        simp only[Result.andThen_ok,Sem.run_pure,Result.ok.injEq,Next.value.injEq] at h2
        rw[h2.1,h2.2]
      | halt q w'=>simp[Result.andThen] at h2
     have e2:∀q:Value,(Instr.loadAt t q).run P w=.ok v w->((do loadVar t (<-asAddr q)):Sem Value).run P w=.ok v w:=by
      intro q hq
      cases q<;>simp only[Instr.loadAt,Instr.sureAddr,Sem.run_bind] at hq
      case pointer a'=>
       cases a' with
       | none=>simp[Result.andThen] at hq
       | some a'=>simpa [asAddr] using hq
      all_goals simp[Result.andThen] at hq
     exact e2 _ e1
   · cases h
theorem Q4y (hT:TOk P T) {e:Env} {st:St} {a:Act} {s:List Act} {w:World} {r:List ResultVar} {x:SV} (F:Fit e w0 st a s w) (h:Qul T e.chi st r=some x):∃v,(Q6p r.toArray a.tmps).run P w=.ok v w/\x.is e v:=by
 unfold Qul at h
 split at h
 · rename_i r
   obtain ⟨v,h1,h2⟩:=Qej hT F h
   exact ⟨v,by simp[Q6p,h1],h2⟩
 · cases h
   exact ⟨.tuple #[],by simp[Q6p],#[],rfl,trivial⟩
 · rename_i r u
   split at h
   · rename_i x y g1 g2
     cases h
     obtain ⟨v1,h1,i1⟩:=Qej hT F g1
     obtain ⟨v2,h2,i2⟩:=Qej hT F g2
     exact ⟨.tuple #[v1,v2],by simp[Q6p,h1,h2],_,rfl,i1,i2,trivial⟩
   · cases h
 · rename_i r u o
   split at h
   · rename_i x y z g1 g2 g3
     cases h
     obtain ⟨v1,h1,i1⟩:=Qej hT F g1
     obtain ⟨v2,h2,i2⟩:=Qej hT F g2
     obtain ⟨v3,h3,i3⟩:=Qej hT F g3
     exact ⟨.tuple #[v1,v2,v3],by simp[Q6p,h1,h2,h3],_,rfl,i1,i2,i3,trivial⟩
   · cases h
 · cases h
theorem Qtr (hT:TOk P T) {e:Env} {st:St} {a:Act} {s:List Act} {w:World} {fn:Func} {x:SV} (F:Fit e w0 st a s w) (h:Qul T e.chi st fn.results.toList=some x):∃v,(results fn a.tmps).run P w=.ok v w/\x.is e v:=by
 have:=Q4y hT F h
 simpa [Qfj] using this
theorem Quc {all:Array Oper} {rest:List Oper} {o:Oper} {k:List Item} {s:List Act} {a:Act} {w:World} (hg:o.guard=none) (h:o.wp P a w (wpList P all (KQ P Q c k s) rest) (KQ P Q c k s)):wpList P all (KQ P Q c k s) (o::rest) a w:=by
 unfold wpList
 rw[if_pos (by simp[Region.wanted,hg])]
 exact .inl h
theorem Qop {all:Array Oper} {rest:List Oper} {o:Oper} {k:List Item} {s:List Act} {a:Act} {w:World} (hw:Region.wanted o (yielded all a.tmps)=false) (h:wpList P all (KQ P Q c k s) rest (a.put o.dst undef) w):wpList P all (KQ P Q c k s) (o::rest) a w:=by
 unfold wpList
 rw[if_neg (by simp[hw])]
 exact h
theorem Qpp {all:Array Oper} {rest:List Oper} {o:Oper} {k:List Item} {s:List Act} {a:Act} {w:World} (hw:Region.wanted o (yielded all a.tmps)=true) (h:wpList P all (KQ P Q c k s) ({ o with guard:=none }::rest) a w):wpList P all (KQ P Q c k s) (o::rest) a w:=by
 unfold wpList at h⊢
 rw[if_pos hw]
 rw[if_pos (by simp[Region.wanted])] at h
 exact h
theorem Fit.lit {e:Env} {st:St} {a:Act} {s:List Act} {w:World} (F:Fit e w0 st a s w) {t:Nat} {b b':Bool} (h:st.t[t]? =some (.pt (.one (.bool b)))) (hb:b=b'):Fit e w0 { st with t:=Q0b st.t t (.pt (.one (.lit b'))) } a s w:=by
 subst hb
 refine F.turn rfl rfl F.fr F.dfr ?_
 obtain ⟨v,hv,hs⟩:=Qce F.tm h
 have hs:v=.bool b:=hs
 have:=Qsn F.tm t (c:=.pt (.one (.lit b))) (v:=v) hs
 have e2:a.tmps.toList.set t v=a.tmps.toList:=by
  apply List.ext_getElem?
  intro j
  rw[List.getElem?_set]
  split
  · rename_i hj;subst hj
    split
    · exact hv.symm
    · rename_i hlt;rw[List.getElem?_eq_none o9]
  · rfl
 rw[e2] at this
 exact this
theorem Q6d {e:Env} {st:St} {a:Act} {s:List Act} {w:World} (F:Fit e w0 st a s w) {all:Array Oper} {j d:Nat} {b:Bool} (hj:(all[j]?).bind (·.dst)=some d) (h:st.t[d]? =some (.pt (.one (.lit b)))):yielded all a.tmps j=some b:=by
 obtain ⟨v,hv,hs⟩:=Qce F.tm h
 have hs:v=.bool b:=hs
 subst hs
 have hv':a.tmps[d]? =some (.bool b):=by simpa using hv
 simp[yielded,hj,hv']
theorem Q6s {all:Array Oper} {rest:List Oper} {o:Oper} {a:Act} {C:World->Prop} {K:Act->Prop} (hg:o.guard=none) (h:o.quiet P a C (wpQuiet P all C K rest)):wpQuiet P all C K (o::rest) a:=by
 unfold wpQuiet
 rw[if_pos (by simp[Region.wanted,hg])]
 exact h
theorem Q4k {all:Array Oper} {rest:List Oper} {o:Oper} {a:Act} {C:World->Prop} {K:Act->Prop} (hw:Region.wanted o (yielded all a.tmps)=false) (h:wpQuiet P all C K rest (a.put o.dst undef)):wpQuiet P all C K (o::rest) a:=by
 unfold wpQuiet
 rw[if_neg (by simp[hw])]
 exact h
theorem Q0l {all:Array Oper} {rest:List Oper} {o:Oper} {a:Act} {C:World->Prop} {K:Act->Prop} (hw:Region.wanted o (yielded all a.tmps)=true) (h:wpQuiet P all C K ({ o with guard:=none }::rest) a):wpQuiet P all C K (o::rest) a:=by
 unfold wpQuiet at h⊢
 rw[if_pos hw]
 rw[if_pos (by simp[Region.wanted])] at h
 exact h
theorem Fit.popped {e:Env} {st st':St} {a:Act} {s:List Act} {w:World} {d:Option Nat} {x:SV} {v:Value} (F:Fit e w0 st a s w) (hx:x.is e v) (h:st.pop d x=some st'):∃a0 s',s=a0::s'/\Fit e w0 st' (a0.put d v) s' w:=by
 have hfr:=F.fr
 unfold St.pop at h
 split at h
 · cases h
 · rename_i t fr hst
   cases h
   rw[hst] at hfr
   match s,hfr with
   | a0::s',hfr=>
     refine ⟨a0,s',rfl,Fit.put (st:={ t:=t,h:=st.h,fr:=fr,r:=st.r }) ?_ hx⟩
     exact F.turn rfl rfl hfr.2 hfr.1.1 hfr.1.2
theorem Qcd (l:List Bool) (i:Nat):(Q0b l i true).toArray=l.toArray.setIfInBounds i true:=by
 apply Array.ext';simp[Q8b]
theorem Qrl {e:Env} {st:St} {a:Act} {s:List Act} {w:World} (F:Fit e w0 st a s w) {all:Array Oper} {j d:Nat} {l:List SA} (hj:(all[j]?).bind (·.dst)=some d) (h:st.t[d]? =some (.tup l)):yielded all a.tmps j=none:=by
 obtain ⟨v,hv,vs,rfl,_⟩:=Qce F.tm h
 have hv':a.tmps[d]? =some (.tuple vs):=by simpa using hv
 simp[yielded,hj,hv']
inductive FrstOk (P:Program) (T:Tb) (e:Env) (st:St) (a:Act) (all:Array Oper) (listed:List Bool) (rs:List Nat):Frst->Prop
 | take (i:Nat) (o:Oper) (x:SV) (v:Value) (hi:i∈rs) (ho:all[i]? =some o) (hf:Region.free .any all listed.toArray i=true) (hx:x.is e v) (hy:YieldsIf P all (SX e.chi) o v a):FrstOk P T e st a all listed rs (.take i o.dst x)
 | skip (i:Nat) (o:Oper) (hi:i∈rs) (ho:all[i]? =some o) (hf:Region.free .any all listed.toArray i=true) (hy:YieldsIf P all (SX e.chi) o undef a):FrstOk P T e st a all listed rs (.skip i o.dst)
 | br (d:Nat) (b:Bool) (h:st.t[d]? =some (.pt (.one (.bool b)))):FrstOk P T e st a all listed rs (.br d b)
 | need (i:Nat) (o:Oper) (j:Int) (m:Nat) (x:SV) (hi:i∈rs) (ho:all[i]? =some o) (hf:Region.free .any all listed.toArray i=true) (hx:0<=j->j<m->∃v,x.is e v/\YieldsIf P all (SX e.chi) o v a):FrstOk P T e st a all listed rs (.need i o.dst j m x)
 | no:FrstOk P T e st a all listed rs .no
theorem FrstOk.mono {e:Env} {st:St} {a:Act} {all:Array Oper} {listed:List Bool} {rs rs':List Nat} {f:Frst} (h:FrstOk P T e st a all listed rs f) (hs:∀i∈rs,i∈rs'):FrstOk P T e st a all listed rs' f:=by
 cases h with
 | take i o x v hi ho hf hx hy=>exact .take i o x v (hs i hi) ho hf hx hy
 | need i o j m x hi ho hf hx=>exact .need i o j m x (hs i hi) ho hf hx
 | skip i o hi ho hf hy=>exact .skip i o (hs i hi) ho hf hy
 | br d b h=>exact .br d b h
 | no=>exact .no
theorem Q7o (hT:TOk P T) {e:Env} {st:St} {a:Act} {s:List Act} {w:World} (F:Fit e w0 st a s w) (all:Array Oper) (listed:List Bool):∀rs:List Nat,FrstOk P T e st a all listed rs (Q7d T e.chi st all listed rs)
 | []=>.no
 | i::l=>by
   have ih:=(Q7o hT F all listed l).mono (rs':=i::l) (fun j hj=>List.mem_cons_of_mem _ hj)
   unfold Q7d
   split
   · exact ih
   · rename_i o ho
     have take:∀x,Region.wanted o (yielded all a.tmps)=true->Region.free .any all listed.toArray i=true->Qkl T e.chi st o.op=.v x->x.det=true->FrstOk P T e st a all listed (i::l) (.take i o.dst x):=by
      intro x hw hf hx hd
      have hop:=Qk3 hT F o hx
      obtain ⟨v,h1,h2⟩:=hop w (F.ext.xok0 rfl)
      refine .take i o x v (List.mem_cons_self ..) ho hf h1 (.inl ⟨hw,fun w' hS=>?_⟩)
      obtain ⟨v',h1',h2'⟩:=hop w' hS
      rw[h2',SV.one_of hd h1' h1]
     have need:∀j m x,Region.wanted o (yielded all a.tmps)=true->Region.free .any all listed.toArray i=true->Qkl T e.chi st o.op=.need j m x->x.det=true->FrstOk P T e st a all listed (i::l) (.need i o.dst j m x):=by
      intro j m x hw hf hx hd
      refine .need i o j m x (List.mem_cons_self ..) ho hf (fun h0 h1=>?_)
      have hop:=Qkq hT F o hx h0 h1
      obtain ⟨v,g1,g2⟩:=hop w (F.ext.xok0 rfl)
      refine ⟨v,g1,.inl ⟨hw,fun w' hS=>?_⟩⟩
      obtain ⟨v',h1',h2'⟩:=hop w' hS
      rw[h2',SV.one_of hd h1' g1]
     split
     · rename_i j want hg
       split
       · rename_i d hd
         split
         · rename_i b hb
           rw[Qva] at hb
           have hy:=Q6d F hd hb
           have hwant:Region.wanted o (yielded all a.tmps)=(b==want):=by
            simp only[Region.wanted,hg,hy]
            cases b<;>cases want<;>rfl
           split
           · rename_i hbw
             split
             · rename_i hpf
               split
               · rename_i x hx
                 split
                 · rename_i hdet
                   exact take x (by rw[hwant,hbw];simp) hpf hx hdet
                 · exact ih
               · rename_i j m x hx
                 split
                 · rename_i hdet
                   exact need j m x (by rw[hwant,hbw];simp) hpf hx hdet
                 · exact ih
               · exact ih
             · exact ih
           · rename_i hbw
             split
             · rename_i hf
               exact .skip i o (List.mem_cons_self ..) ho hf (.inr ⟨by rw[hwant];simpa using hbw,rfl⟩)
             · exact ih
         · rename_i b hb
           rw[Qva] at hb
           exact .br d b hb
         · rename_i l' hb
           rw[Qva] at hb
           split
           · rename_i hf
             exact .skip i o (List.mem_cons_self ..) ho hf (.inr ⟨by rw[show Region.wanted o (yielded all a.tmps)=false from by simp[Region.wanted,hg,Qrl F hd hb]],rfl⟩)
           · exact ih
         · exact .no
       · exact .no
     · rename_i hg
       split
       · rename_i hpf
         split
         · rename_i x hx
           split
           · rename_i hdet
             exact take x (by simp[Region.wanted,hg]) hpf hx hdet
           · exact ih
         · rename_i j m x hx
           split
           · rename_i hdet
             exact need j m x (by simp[Region.wanted,hg]) hpf hx hdet
           · exact ih
         · exact ih
       · exact ih
theorem Qmf (e:Env):skipS.is e undef:=⟨#[],rfl,trivial⟩
theorem Qxg {e:Env} {st:St} {a:Act} {s:List Act} {w:World} (F:Fit e w0 st a s w) {all:Array Oper} {j d:Nat} {l:List SA} (hj:(all[j]?).bind (·.dst)=some d) (h:st.t[d]? =some (.tup l)):yielded all a.tmps j=none:=by
 obtain ⟨v,hv,vs,rfl,_⟩:=Qce F.tm h
 have hv':a.tmps[d]? =some (.tuple vs):=by simpa using hv
 simp[yielded,hj,hv']
theorem Q0e {o:Oper} {all:Array Oper} {a:Act} {j:Nat} {want:Bool} (hg:o.guard=some (j,want)) (hy:yielded all a.tmps j=none):Region.wanted o (yielded all a.tmps)=false:=by
 simp[Region.wanted,hg,hy]
theorem Qpc (hT:TOk P T):∀(n:Nat) (k:List Item) (st:St),Qo8 P Q c w0 (ev T c n k st)->Goes P Q c w0 k st
 | 0,k,st,h=>h.elim
 | n+1,[],st,h=>⟨fun e s a w hc F=>h e s a w hc F⟩
 | n+1,.blk id::k,st,h=>⟨fun e s a w hc F=>by
   have:=(Qpc hT n k st h).run e s a w hc F
   exact this⟩
 | n+1,.stop I::k,st,h=>⟨fun e s a w hc F=>h e s a w hc F⟩
 | n+1,.ops all []::k,st,h=>⟨fun e s a w hc F=>by
   have:=(Qpc hT n k st h).run e s a w hc F
   exact this⟩
 | n+1,.qops all []::k,st,h=>⟨fun e s a w hc F=>by
   have:=wpQuiet_nil (P:=P) (ops:=all) (C:=fun w'=>Below w.heap.size w w') (Q:=fun a'=>∀w',Below w.heap.size w w'->KQ P Q c k s .normal a' w') (a:=a) fun w' hw'=>(Qpc hT n k st h).run e s a w' hc (F.later hw')
   exact this⟩
 | n+1,.aops all l f::k,st,h=>⟨fun e s a w hc F=>by
   have hSX:SX c w:=F.ext.xok0 hc
   refine ⟨hSX,?_⟩
   show wpL P .any all (NP (KQ P Q c k s)) (SX c) f l.toArray a w
   unfold ev at h
   split at h
   · rename_i hr
     exact Qa2 (Q:=NP (KQ P Q c k s)) hr (fun w' hw'=>(Qpc hT n k st h).run e s a w' hc (F.later hw')) f
   · rename_i r rs hr
     split at h
     · exact h.elim
     · rename_i f'
       have hfo:FrstOk P T e st a all l (r::rs) (if Region.noSelect all=true then Q7d T c st all l (r::rs) else .no):=by
        split
        · rw[<-hc];exact Q7o hT F all l (r::rs)
        · exact .no
       split at h
       · rename_i i d x heq
         have hns:Region.noSelect all=true:=by
          by_cases hh:Region.noSelect all=true
          · exact hh
          · rw[if_neg hh] at heq;cases heq
         rw[heq] at hfo
         cases hfo with
         | take i o x v hi ho hf hx hy=>
           rw[hc] at hy
           refine Qwg ho hns hf (by rw[hr];simpa using hi) (fun _ _ _ h=>h.elim) Qje hy hSX ?_
           rw[<-Qcd]
           exact ((Qpc hT n _ _ h).run e s _ w hc (F.put hx)).2
       · rename_i i d heq
         have hns:Region.noSelect all=true:=by
          by_cases hh:Region.noSelect all=true
          · exact hh
          · rw[if_neg hh] at heq;cases heq
         rw[heq] at hfo
         cases hfo with
         | skip i o hi ho hf hy=>
           rw[hc] at hy
           refine Qwg ho hns hf (by rw[hr];simpa using hi) (fun _ _ _ h=>h.elim) Qje hy hSX ?_
           rw[<-Qcd]
           exact ((Qpc hT n _ _ h).run e s _ w hc (F.put (Qmf e))).2
       · rename_i d b heq
         rw[heq] at hfo
         cases hfo with
         | br d b hb=>
           cases hbb:b with
           | true=>exact ((h.1 hbb).run e s a w hc (F.lit hb hbb)).2
           | false=>exact ((h.2 hbb).run e s a w hc (F.lit hb hbb)).2
       · rename_i i d j m x heq
         have hns:Region.noSelect all=true:=by
          by_cases hh:Region.noSelect all=true
          · exact hh
          · rw[if_neg hh] at heq;cases heq
         rw[heq] at hfo
         cases hfo with
         | need i o j m x hi ho hf hx=>
           obtain ⟨⟨g1,g2⟩,h⟩:=h
           obtain ⟨v,hv,hy⟩:=hx g1 g2
           rw[hc] at hy
           refine Qwg ho hns hf (by rw[hr];simpa using hi) (fun _ _ _ h=>h.elim) Qje hy hSX ?_
           rw[<-Qcd]
           exact (h.run e s _ w hc (F.put hv)).2
       · refine Q3r hr (by simp) fun w' hw' i hi=>?_
         exact (h (.aop all i l f'::k) (List.mem_map.2 ⟨i,hi,rfl⟩)).run e s a w' hc (F.later hw')⟩
 | n+1,.aop all i l f::k,st,h=>⟨fun e s a w hc F=>by
   show wpOp P all (NP (KQ P Q c k s)) i (fun a w=>SX c w/\wpL P .any all (NP (KQ P Q c k s)) (SX c) f (l.toArray.setIfInBounds i true) a w) a w
   rw[<-Qcd]
   unfold ev at h
   split at h
   · exact h.elim
   · rename_i o ho
     have hw:∀b,(match o.guard with
      | none=>some true
      | some (j,want)=>match (all[j]?).bind (·.dst) with
        | some d=>match nth st.t d with
          | some (.pt (.one (.lit b)))=>some (b==want)
          | some (.tup _)=>some false
          | _=>none
        | none=>none)=some b->Region.wanted o (yielded all a.tmps)=b:=by
      intro b hb
      split at hb
      · rename_i hg;cases hb;simp[Region.wanted,hg]
      · rename_i j want hg
        split at hb
        · rename_i d hd
          split at hb
          · rename_i b' hb'
            cases hb
            rw[Qva] at hb'
            have hy:=Q6d F hd hb'
            simp only[Region.wanted,hg,hy]
            cases b'<;>cases want<;>rfl
          · rename_i l hb'
            cases hb
            rw[Qva] at hb'
            exact Q0e hg (Qxg F hd hb')
          · cases hb
        · cases hb
     split at h
     · exact h.elim
     · rename_i hb
       have hw:=hw false hb
       unfold wpOp
       simp only[ho,hw]
       exact (Qpc hT n _ _ h).run e s _ w hc (F.put (Qmf e))
     · rename_i hb
       have hw:=hw true hb
       unfold wpOp
       simp only[ho,hw,if_true]
       refine .inl ?_
       have hop:=Q9f hT F o
       rw[hc] at hop
       split at h
       · rename_i x hx
         rw[hx] at hop
         obtain ⟨v,h1,h2⟩:=hop
         unfold Oper.wp
         rw[h2,Oper.upon_value]
         exact (Qpc hT n _ _ h).run e s _ _ hc (F.put h1)
       · rename_i cs x hx
         rw[hx] at hop
         obtain ⟨vs,t,v,h1,h2,h3⟩:=hop
         unfold Oper.wp
         rw[h2,Oper.upon_value]
         exact (Qpc hT n _ _ h).run (e.more w.heap.size) s _ _ hc ((F.new h1).put h3)
       · rename_i b p cs hx
         have hin:=Q82 hx
         obtain ⟨old,hold,hle⟩:=hin
         rw[Qva,hold] at h
         simp only at h
         rw[hx] at hop
         obtain ⟨bb,w',vs,ov,t,h1,h2,h3,h4,h5,h6,h7,h8,h9,h10⟩:=hop
         unfold Oper.wp
         rw[h2,Oper.upon_skip]
         exact (Qpc hT n _ _ h).run e s _ _ hc ((F.stored h1 hold h3 hle h4 h5 h6 h7 h8 h9 h10).put trivial)
       · rename_i f' args hx
         rw[hx] at hop
         obtain ⟨vs,h1,h2⟩:=hop
         obtain ⟨h3,h4⟩:=h e s a w hc F vs h1
         unfold Oper.wp
         rw[h2,h3,Oper.upon_enter]
         exact h4.mono fun en w' ⟨v,he,hk⟩=>by subst he;exact hk
       · rename_i j m x hx
         rw[hx] at hop
         obtain ⟨⟨g1,g2⟩,h⟩:=h
         obtain ⟨v,h1,h2⟩:=hop g1 g2
         unfold Oper.wp
         rw[h2,Oper.upon_value]
         exact h.run e s _ _ hc (F.put h1)
       · rename_i b p cs hx
         obtain ⟨x,hcx,hd,h⟩:=h
         rw[hx] at hop
         obtain ⟨v,h1,h2⟩:=hop x hcx
         unfold Oper.wp
         rw[h2,Oper.upon_value]
         exact h.run e s _ _ hc (F.put (x:=.pt (.one x)) h1)
       · rename_i b p cs x hx
         obtain ⟨hlt,h⟩:=h
         have hold:=Qmy hx
         rw[hx] at hop
         obtain ⟨bb,w',vs,ov,t,h1,h2,h3,h4,h5,h6,h7,h8,h9,h10⟩:=hop hlt
         unfold Oper.wp
         rw[h2,Oper.upon_skip]
         exact h.run e s _ _ hc ((F.stored h1 hold h3 (by simp;omega) h4 h5 h6 h7 h8 h9 h10).put trivial)
       · rename_i q R x lost ob hx
         obtain ⟨hob,h⟩:=h
         rw[hx] at hop
         obtain ⟨v,w',h1,h2⟩:=hop hob
         obtain ⟨e',h3,h4,h5⟩:=F.rowed h2
         unfold Oper.wp
         rw[h1,Oper.upon_value]
         exact h.run e' s _ _ (h3.trans hc) (h5.put h4)
       · rename_i q R hx
         rw[hx] at hop
         obtain ⟨w',sv,xs,g,h1,h2,h3,h4,h5,h6,h7,h8⟩:=hop
         unfold Oper.wp
         rw[h1,Oper.upon_skip]
         exact (Qpc hT n _ _ h).run e s _ _ hc ((F.rst h2 h3 h4 h5 (hc▸h6) h7 h8).put trivial)
       · exact h.elim⟩
 | n+1,.rnds b 0::k,st,h=>h.elim
 | n+1,.rnds b (m+1)::k,st,h=>⟨fun e s a w hc F=>by
   have:=(Qpc hT n (.code b::.rnds b m::k) st h).run e s a w hc F
   exact this⟩
 | n+1,.back r d::k,st,h=>⟨fun e s a w hc F=>by
   unfold ev at h
   split at h
   · rename_i x hx
     rw[<-hc] at hx
     obtain ⟨v,h1,h2⟩:=Q4y (P:=P) hT F hx
     split at h
     · rename_i st' hst
       obtain ⟨a0,s',rfl,F'⟩:=F.popped h2 hst
       exact ⟨F.dfr,v,h1,(Qpc hT n k st' h).run e s' _ w hc F'⟩
     · exact h.elim
   · exact h.elim⟩
 | n+1,.qops all (o::rest)::k,st,h=>⟨fun e s a w hc F=>by
   show wpQuiet P all (fun w'=>Below w.heap.size w w') _ (o::rest) a
   unfold ev at h
   split at h
   · rename_i hg
     split at h
     · rename_i x hx
       split at h
       · rename_i hd
         have hop:=Q9f hT F o
         rw[hc,hx] at hop
         obtain ⟨v,h1,h2⟩:=hop
         refine Q6s hg ⟨v,fun w' hw'=>?_,?_⟩
         · have hop':=Q9f hT (F.later hw') o
           rw[hc,hx] at hop'
           obtain ⟨v',h1',h2'⟩:=hop'
           unfold Oper.quietAt
           rw[h2']
           exact ⟨rfl,SV.one_of hd h1' h1⟩
         · exact (Qpc hT n _ _ h).run e s _ w hc (F.put h1)
       · exact h.elim
     · rename_i f args hx
       split at h
       · rename_i hd
         have hop:=Q9f hT F o
         rw[hc,hx] at hop
         obtain ⟨vs,h1,h2⟩:=hop
         obtain ⟨v,h3,h4⟩:=h e s a w hc F vs h1
         refine Q6s hg ⟨v,fun w' hw'=>?_,h4⟩
         have hop':=Q9f hT (F.later hw') o
         rw[hc,hx] at hop'
         obtain ⟨vs',h1',h2'⟩:=hop'
         have:=Qdx hd h1' h1
         subst this
         obtain ⟨g1,g2⟩:=h3 w' hw'
         unfold Oper.quietAt
         rw[h2',g1]
         exact ⟨rfl,g2.mono fun en w'' ⟨u,hu,hu',hb⟩=>⟨by rw[hu,hu'],hb⟩⟩
       · exact h.elim
     · rename_i i m x hx
       split at h
       · rename_i hd
         obtain ⟨⟨g1,g2⟩,h⟩:=h
         have hop:=Q9f hT F o
         rw[hc,hx] at hop
         obtain ⟨v,h1,h2⟩:=hop g1 g2
         refine Q6s hg ⟨v,fun w' hw'=>?_,?_⟩
         · have hop':=Q9f hT (F.later hw') o
           rw[hc,hx] at hop'
           obtain ⟨v',h1',h2'⟩:=hop' g1 g2
           unfold Oper.quietAt
           rw[h2']
           exact ⟨rfl,SV.one_of hd h1' h1⟩
         · exact h.run e s _ w hc (F.put h1)
       · exact h.elim
     · rename_i b p cs hx
       obtain ⟨x,hcx,hd,h⟩:=h
       have hop:=Q9f hT F o
       rw[hc,hx] at hop
       obtain ⟨v,h1,h2⟩:=hop x hcx
       refine Q6s hg ⟨v,fun w' hw'=>?_,?_⟩
       · have hop':=Q9f hT (F.later hw') o
         rw[hc,hx] at hop'
         obtain ⟨v',h1',h2'⟩:=hop' x hcx
         unfold Oper.quietAt
         rw[h2']
         exact ⟨rfl,SC.one hd h1' h1⟩
       · exact h.run e s _ w hc (F.put (x:=.pt (.one x)) h1)
     · exact h.elim
   · rename_i j want hg
     split at h
     · rename_i d hd
       split at h
       · rename_i b hb
         rw[Qva] at hb
         have hy:=Q6d F hd hb
         have hwant:Region.wanted o (yielded all a.tmps)=(b==want):=by
          simp only[Region.wanted,hg,hy]
          cases b<;>cases want<;>rfl
         split at h
         · rename_i hbw
           refine Q0l (by rw[hwant,hbw];simp) ?_
           exact (Qpc hT n _ _ h).run e s a w hc F
         · rename_i hbw
           refine Q4k (by rw[hwant];simpa using hbw) ?_
           exact (Qpc hT n _ _ h).run e s _ w hc (F.put (Qmf e))
       · rename_i l hb
         rw[Qva] at hb
         refine Q4k (Q0e hg (Qxg F hd hb)) ?_
         exact (Qpc hT n _ _ h).run e s _ w hc (F.put (Qmf e))
       · rename_i b hb
         rw[Qva] at hb
         cases hbb:b with
         | true=>exact (h.1 hbb).run e s a w hc (F.lit hb hbb)
         | false=>exact (h.2 hbb).run e s a w hc (F.lit hb hbb)
       · exact h.elim
     · exact h.elim⟩
 | n+1,.ops all (o::rest)::k,st,h=>⟨fun e s a w hc F=>by
   show wpList P all (KQ P Q c k s) (o::rest) a w
   unfold ev at h
   split at h
   · rename_i hg
     have hop:=Q9f hT F o
     rw[hc] at hop
     split at h
     · rename_i x hx
       rw[hx] at hop
       obtain ⟨v,h1,h2⟩:=hop
       refine Quc hg ?_
       unfold Oper.wp
       rw[h2,Oper.upon_value]
       exact (Qpc hT n _ _ h).run e s _ _ hc (F.put h1)
     · rename_i cs x hx
       rw[hx] at hop
       obtain ⟨vs,t,v,h1,h2,h3⟩:=hop
       refine Quc hg ?_
       unfold Oper.wp
       rw[h2,Oper.upon_value]
       exact (Qpc hT n _ _ h).run (e.more w.heap.size) s _ _ hc ((F.new h1).put h3)
     · rename_i b p cs hx
       have hin:=Q82 hx
       obtain ⟨old,hold,hle⟩:=hin
       rw[Qva,hold] at h
       simp only at h
       rw[hx] at hop
       obtain ⟨bb,w',vs,ov,t,h1,h2,h3,h4,h5,h6,h7,h8,h9,h10⟩:=hop
       refine Quc hg ?_
       unfold Oper.wp
       rw[h2,Oper.upon_skip]
       exact (Qpc hT n _ _ h).run e s _ _ hc ((F.stored h1 hold h3 hle h4 h5 h6 h7 h8 h9 h10).put trivial)
     · rename_i f args hx
       rw[hx] at hop
       obtain ⟨vs,h1,h2⟩:=hop
       obtain ⟨h3,h4⟩:=h e s a w hc F vs h1
       refine Quc hg ?_
       unfold Oper.wp
       rw[h2,h3,Oper.upon_enter]
       exact h4.mono fun en w' ⟨v,he,hk⟩=>by subst he;exact hk
     · rename_i i m x hx
       rw[hx] at hop
       obtain ⟨⟨g1,g2⟩,h⟩:=h
       obtain ⟨v,h1,h2⟩:=hop g1 g2
       refine Quc hg ?_
       unfold Oper.wp
       rw[h2,Oper.upon_value]
       exact h.run e s _ _ hc (F.put h1)
     · rename_i b p cs hx
       obtain ⟨x,hcx,hd,h⟩:=h
       rw[hx] at hop
       obtain ⟨v,h1,h2⟩:=hop x hcx
       refine Quc hg ?_
       unfold Oper.wp
       rw[h2,Oper.upon_value]
       exact h.run e s _ _ hc (F.put (x:=.pt (.one x)) h1)
     · rename_i b p cs x hx
       obtain ⟨hlt,h⟩:=h
       have hold:=Qmy hx
       rw[hx] at hop
       obtain ⟨bb,w',vs,ov,t,h1,h2,h3,h4,h5,h6,h7,h8,h9,h10⟩:=hop hlt
       refine Quc hg ?_
       unfold Oper.wp
       rw[h2,Oper.upon_skip]
       exact h.run e s _ _ hc ((F.stored h1 hold h3 (by simp;omega) h4 h5 h6 h7 h8 h9 h10).put trivial)
     · rename_i q R x lost ob hx
       obtain ⟨hob,h⟩:=h
       rw[hx] at hop
       obtain ⟨v,w',h1,h2⟩:=hop hob
       obtain ⟨e',h3,h4,h5⟩:=F.rowed h2
       refine Quc hg ?_
       unfold Oper.wp
       rw[h1,Oper.upon_value]
       exact h.run e' s _ _ (h3.trans hc) (h5.put h4)
     · rename_i q R hx
       rw[hx] at hop
       obtain ⟨w',sv,xs,g,h1,h2,h3,h4,h5,h6,h7,h8⟩:=hop
       refine Quc hg ?_
       unfold Oper.wp
       rw[h1,Oper.upon_skip]
       exact (Qpc hT n _ _ h).run e s _ _ hc ((F.rst h2 h3 h4 h5 (hc▸h6) h7 h8).put trivial)
     · exact h e s a w hc F
   · rename_i j want hg
     split at h
     · rename_i d hd
       split at h
       · rename_i b hb
         rw[Qva] at hb
         have hy:=Q6d F hd hb
         have hwant:Region.wanted o (yielded all a.tmps)=(b==want):=by
          simp only[Region.wanted,hg,hy]
          cases b<;>cases want<;>rfl
         split at h
         · rename_i hbw
           refine Qpp (by rw[hwant,hbw];simp) ?_
           exact (Qpc hT n _ _ h).run e s a w hc F
         · rename_i hbw
           refine Qop (by rw[hwant];simpa using hbw) ?_
           exact (Qpc hT n _ _ h).run e s _ w hc (F.put (Qmf e))
       · rename_i l hb
         rw[Qva] at hb
         refine Qop (Q0e hg (Qxg F hd hb)) ?_
         exact (Qpc hT n _ _ h).run e s _ w hc (F.put (Qmf e))
       · rename_i b hb
         rw[Qva] at hb
         cases hbb:b with
         | true=>exact (h.1 hbb).run e s a w hc (F.lit hb hbb)
         | false=>exact (h.2 hbb).run e s a w hc (F.lit hb hbb)
       · exact h.elim
     · exact h.elim⟩
 | n+1,.code x::k,st,h=>⟨fun e s a w hc F=>by
   show x.wp P (KQ P Q c k s) a w
   unfold ev at h
   split at h
   · exact wp_skip ((Qpc hT n k st h).run e s a w hc F)
   · exact wp_label ((Qpc hT n k st h).run e s a w hc F)
   · exact wp_seq ((Qpc hT n _ st h).run e s a w hc F)
   · exact wp_block ((Qpc hT n _ st h).run e s a w hc F)
   · rename_i id
     split at h
     · rename_i k' hk
       refine wp_exit ?_
       rw[Q4e hk]
       exact (Qpc hT n _ st h).run e s a w hc F
     · exact h.elim
   · refine wp_ret ?_
     split at h
     · rename_i r d k' hk
       rw[Q5e k s hk]
       exact (Qpc hT n _ st h).run e s a w hc F
     · rename_i hk
       rw[Qsh k s hk]
       exact h e s a w hc F
   · exact wp_region_list ((Qpc hT n _ st h).run e s a w hc F)
   · exact h e s a w hc F
   · rename_i cnd y z
     have hcd:=Qab F.tm cnd
     split at h
     · rename_i b hb
       rw[hb] at hcd
       have hcd:=Qbl hcd
       split at h
       · rename_i hbt
         exact wp_cond_true (by rw[hcd,hbt]) ((Qpc hT n _ st h).run e s a w hc F)
       · rename_i hbf
         exact wp_cond_false (by rw[hcd];simpa using hbf) ((Qpc hT n _ st h).run e s a w hc F)
     · rename_i b hb
       have hset:∀b',b=b'->Fit e w0 (Qc6 st cnd b') a s w:=by
        intro b' hb'
        cases cnd with
        | tmp t=>
          simp only[evO,Qva] at hb
          split at hb
          · rename_i x hx
            subst hb
            exact F.lit hx hb'
          · cases hb
        | _=>exact F
       rw[hb] at hcd
       have hcd:=Q2n hcd
       refine wp_cond_split hcd (fun ht=>?_) (fun hf=>?_)
       · exact (h.1 ht).run e s a w hc (hset true ht)
       · exact (h.2 hf).run e s a w hc (hset false hf)
     · exact h.elim
   · exact h e s a w hc F
   · exact h.elim⟩
theorem Q1b (hT:TOk P T) (n:Nat) {k:List Item} {st:St} {o:Out} (he:ev T c n k st=o) (h:OutOk P Q c w0 o):Goes P Q c w0 k st:=Qpc hT n k st (by rw[he];exact h.ok)
theorem Qr4 {b:Bool} {kt kf:List Item} {s1 s2:St} (h1:b=true->Goes P Q c w0 kt s1) (h2:b=false->Goes P Q c w0 kf s2):OutOk P Q c w0 (.br b kt s1 kf s2):=⟨h1,h2⟩
theorem Qq2 {b:Bool} {kt kf:List Item} {s1 s2:St} (hb:b=true) (h1:Goes P Q c w0 kt s1):OutOk P Q c w0 (.br b kt s1 kf s2):=⟨fun _=>h1,fun h=>by rw[hb] at h;cases h⟩
theorem Qp2 {b:Bool} {kt kf:List Item} {s1 s2:St} (hb:b=false) (h1:Goes P Q c w0 kf s2):OutOk P Q c w0 (.br b kt s1 kf s2):=⟨fun h=>by (rw[hb] at h;cases h),fun _=>h1⟩
theorem Q3f {o:Nat} {cs:List SC} {dst:Option Nat} {k:List Item} {st:St} (x:SC) (hx:cs[o]? =some x) (hd:x.det=true) (h:Goes P Q c w0 k (st.put dst (.pt (.one x)))):OutOk P Q c w0 (.ask o cs dst k st):=⟨⟨x,hx,hd,h⟩⟩
theorem Qan {b o:Nat} {cs:List SC} {x:SC} {dst:Option Nat} {k:List Item} {st:St} (cs':List SC) (ho:o<cs.length) (hcs:Qka cs o [x]=cs') (h:Goes P Q c w0 k (({ st with h:=Q0b st.h b (some cs') }:St).put dst undefS)):OutOk P Q c w0 (.askS b o cs x dst k st):=⟨⟨ho,by rw[hcs];exact h⟩⟩
theorem Qxa {i:Int} {n:Nat} {k:List Item} {st:St} (h0:0<=i) (h1:i<n) (h:Goes P Q c w0 k st):OutOk P Q c w0 (.need i n k st):=⟨⟨h0,h1⟩,h⟩
def Qyy:Op->Bool
 | .store .. | .alloc .. | .box .. | .buildSlice .. | .makeSlice .. =>false
 | .call c=>match c.callee with
   | .builtin .append=>false
   | .builtin .copy=>false
   | _=>true
 | _=>true
theorem Qbn {id:Nat} {ops:Array Oper} {k:List Item} {st:St} (_hq:ops.toList.all (fun o=>Qyy o.op)=true) (hm:P.follows .mixedOrders=true) (hB:Region.lexB .any ops=true) (h:Goes P Q c w0 (.qops ops ops.toList::k) st):OutOk P Q c w0 (.draw id ops k st):=
 ⟨fun e s a w hc F=>by
  refine wp_region_quiet (C:=fun w'=>Below w.heap.size w w') hm hB ((Below.refl _ _).drew) ?_
  exact h.run e s a w hc F⟩
def Q4o:Nat->List Bool
 | 0=>[]
 | n+1=>false::Q4o n
theorem Q5o:∀n,Q4o n=List.replicate n false
 | 0=>rfl
 | n+1=>by rw[Q4o,Q5o n,List.replicate_succ]
theorem Q4d {id:Nat} {ops:Array Oper} {k:List Item} {st:St} (hm:P.follows .mixedOrders=true) (h:Goes P Q c w0 (.aops ops (Q4o ops.size) ops.size::k) st):OutOk P Q c w0 (.draw id ops k st):=
 ⟨fun e s a w hc F=>by
  refine wp_mono (Q:=NP (KQ P Q c k s)) ?_ Q83
  have:=(h.run e s a w.drew hc (F.later (Below.refl _ _).drew)).2
  refine wp_region_held (S:=SX c) hm ?_
  have e2:(Q4o ops.size).toArray=Array.replicate ops.size false:=by apply Array.ext';simp[Q5o]
  rw[<-e2]
  exact Qpl _ _ _ _ this⟩
theorem Qz4 {l:List (List Item)} {st:St} (h:∀k∈l,Goes P Q c w0 k st):OutOk P Q c w0 (.fork l st):=⟨h⟩
theorem Qj0 {st:St}:∀k∈([]:List (List Item)),Goes P Q c w0 k st:=fun k h=>by simp at h
theorem Qha {k:List Item} {l:List (List Item)} {st:St} (h:Goes P Q c w0 k st) (hl:∀k∈l,Goes P Q c w0 k st):∀k'∈k::l,Goes P Q c w0 k' st:=fun k' hk=>by
 rcases List.mem_cons.1 hk with rfl|hk
 · exact h
 · exact hl k' hk
theorem Qba {f:Nat} {fn:Func} {body:Code} {rs:List ResultVar} {args:List SV} {dst:Option Nat} {k:List Item} {st:St} {n:Nat} (hf:P.funcs[f]? =some fn) (hb:fn.body=some body) (hr:fn.results=rs.toArray)
 (hcall:∀(args:Array Value) (w:World),(callFunc f args).run P w=.ok (.enter f args) w) (hn:fn.ntmps - args.length=n)
 (h:Goes P Q c w0 (.code body::.back rs dst::k) ⟨args++Qxm n,st.h,st.t::st.fr,st.r⟩):OutOk P Q c w0 (.call f args dst k st):=⟨fun e s a w hc F vs hvs=>by
 refine ⟨hcall _ _,calls_of_wp hf hb ?_⟩
 have hl:=Qlg hvs
 have F':Fit e w0 ⟨args++Qxm n,st.h,st.t::st.fr,st.r⟩ { tmps:=vs.toArray++Array.replicate (fn.ntmps - vs.toArray.size) undef,defers:=[] } (a::s) w:=by
  refine F.turn rfl rfl ⟨⟨F.dfr,F.tm⟩,F.fr⟩ rfl ?_
  simp only[Array.toList_append,Array.toList_replicate,List.size_toArray]
  rw[<-hl,hn]
  exact Qye hvs (Qki _ _)
 refine wp_mono (h.run e (a::s) _ w hc F') ?_
 intro en a' w' hq
 cases en with
 | normal=>
   obtain ⟨h1,v,h2,h3⟩:=hq
   exact ⟨h1,v,by rw[Qfj,hr];exact h2,v,rfl,h3⟩
 | ret=>
   obtain ⟨h1,v,h2,h3⟩:=hq
   exact ⟨h1,v,by rw[Qfj,hr];exact h2,v,rfl,h3⟩
 | _=>exact hq.elim⟩
def Qre:SC->SC->Prop
 | _,.any=>True
 | .bool b,.bool b'=>b=b'
 | .lit b,.bool b'=>b=b'
 | .int k x,.int k' y=>k=k'/\x=y
 | .val u,.ob v=>u=v
 | .ob u,.val v=>u=v
 | x,y=>x=y
def Qbc:List SC->List SC->Prop
 | [],[]=>True
 | x::xs,y::ys=>Qre x y/\Qbc xs ys
 | _,_=>False
def leA:SA->SA->Prop
 | _,.one .any=>True
 | .one c,.one c'=>Qre c c'
 | .agg l,.agg l'=>Qbc l l'
 | _,_=>False
def leS:SV->SV->Prop
 | _,.pt (.one .any)=>True
 | .pt a,.pt a'=>leA a a'
 | x,y=>x=y
def leT:List SV->List SV->Prop
 | [],[]=>True
 | x::xs,y::ys=>leS x y/\leT xs ys
 | _,_=>False
def leB:Option (List SC)->Option (List SC)->Prop
 | _,none=>True
 | some x,some y=>Qbc x y
 | none,some _=>False
def leH:List (Option (List SC))->List (Option (List SC))->Prop
 | _,[]=>True
 | x::xs,y::ys=>leB x y/\leH xs ys
 | [],_::_=>False
def leF:List (List SV)->List (List SV)->Prop
 | [],[]=>True
 | x::xs,y::ys=>leT x y/\leF xs ys
 | _,_=>False
structure RowLe (R R':ORow):Prop where
 n:R.n=R'.n
 es:R.es=R'.es
 el:∀j,j<R.n->Qbc (R.el j) (R'.el j)
def leO:Option ORow->Option ORow->Prop
 | _,none=>True
 | some x,some y=>RowLe x y
 | none,some _=>False
def leR:List (Option ORow)->List (Option ORow)->Prop
 | _,[]=>True
 | x::xs,y::ys=>leO x y/\leR xs ys
 | [],_::_=>False
structure Le (st st':St):Prop where
 t:leT st.t st'.t
 h:leH st.h st'.h
 f:leF st.fr st'.fr
 r:leR st.r st'.r
theorem Qyk {e:Env} {c c':SC} {v:Value} (h:Qre c c') (hi:c.is e v):c'.is e v:=by
 unfold Qre at h
 split at h
 · trivial
 · subst h;exact hi
 · subst h;exact hi
 · obtain ⟨rfl,rfl⟩:=h;exact hi
 · subst h;exact hi
 · subst h;exact hi
 · subst h;exact hi
theorem Qjh {e:Env}:∀{l l':List SC} {vs:List Value},Qbc l l'->isL e l vs->isL e l' vs
 | [],[],[],_,h=>h
 | x::xs,y::ys,v::vs,h,hi=>⟨Qyk h.1 hi.1,Qjh h.2 hi.2⟩
 | [],_::_,_,h,_=>h.elim
 | _::_,[],_,h,_=>h.elim
 | _::_,_::_,[],_,h=>h.elim
 | [],[],_::_,_,h=>h.elim
theorem Q17 {e:Env} {a a':SA} {v:Value} (h:leA a a') (hi:a.is e v):a'.is e v:=by
 unfold leA at h
 split at h
 · trivial
 · exact Qyk h hi
 · obtain ⟨vs,rfl,hl⟩:=hi;exact ⟨vs,rfl,Qjh h hl⟩
 · exact h.elim
theorem Q27 {e:Env} {x y:SV} {v:Value} (h:leS x y) (hi:x.is e v):y.is e v:=by
 unfold leS at h
 split at h
 · trivial
 · exact Q17 h hi
 · subst h;exact hi
theorem Q5s {e:Env}:∀{xs ys:List SV} {vs:List Value},leT xs ys->isV e xs vs->isV e ys vs
 | [],[],[],_,h=>h
 | x::xs,y::ys,v::vs,h,hi=>⟨Q27 h.1 hi.1,Q5s h.2 hi.2⟩
 | [],_::_,_,h,_=>h.elim
 | _::_,[],_,h,_=>h.elim
 | _::_,_::_,[],_,h=>h.elim
 | [],[],_::_,_,h=>h.elim
theorem Qx2 {e:Env}:∀{xs ys:List (List SV)} {s:List Act},leF xs ys->Qzl e xs s->Qzl e ys s
 | [],[],[],_,h=>h
 | x::xs,y::ys,v::vs,h,hi=>⟨⟨hi.1.1,Q5s h.1 hi.1.2⟩,Qx2 h.2 hi.2⟩
 | [],_::_,_,h,_=>h.elim
 | _::_,[],_,h,_=>h.elim
 | _::_,_::_,[],_,h=>h.elim
 | [],[],_::_,_,h=>h.elim
theorem Qzk:∀{xs ys:List (Option (List SC))},leH xs ys->ys.length<=xs.length/\∀(k:Nat) (cs:List SC),ys[k]? =some (some cs)->∃cs0,xs[k]? =some (some cs0)/\Qbc cs0 cs
 | _,[],_=>⟨Nat.zero_le _,fun k cs h=>by simp at h⟩
 | x::xs,y::ys,h=>by
   obtain ⟨h1,h2⟩:=Qzk h.2
   refine ⟨by simpa using h1,fun k cs hk=>?_⟩
   cases k with
   | zero=>
     simp at hk
     subst hk
     have h0:=h.1
     cases x with
     | none=>exact h0.elim
     | some x=>exact ⟨x,by simp,h0⟩
   | succ k=>simpa using h2 k cs (by simpa using hk)
 | [],_::_,h=>h.elim
theorem Qpx:∀{xs ys:List (Option ORow)},leR xs ys->ys.length<=xs.length/\∀(k:Nat) (R:ORow),ys[k]? =some (some R)->∃R0,xs[k]? =some (some R0)/\RowLe R0 R
 | _,[],_=>⟨Nat.zero_le _,fun k cs h=>by simp at h⟩
 | x::xs,y::ys,h=>by
   obtain ⟨h1,h2⟩:=Qpx h.2
   refine ⟨by simpa using h1,fun k R hk=>?_⟩
   cases k with
   | zero=>
     simp at hk
     subst hk
     have h0:=h.1
     cases x with
     | none=>exact h0.elim
     | some x=>exact ⟨x,by simp,h0⟩
   | succ k=>simpa using h2 k R (by simpa using hk)
 | [],_::_,h=>h.elim
theorem RowLe.els {c:R9z} {R R':ORow} {xs:List Value} (h:RowLe R R') (hE:Q3c c R xs):Q3c c R' xs:=fun j hj=>by
 rw[<-h.n] at hj
 have:=Qjh (h.el j hj) (hE j hj)
 rw[<-h.es];exact this
def Qe2 (n:Nat):List (Nat×Nat)->Bool
 | []=>true
 | (k,_)::l=>decide (k<n)&&Qe2 n l
def SC.bnd (n m:Nat):SC->Bool
 | .ptr k _=>decide (k<n)
 | .pi k _=>decide (k<n)
 | .sl k _ _ _=>decide (k<n)
 | .fn _ cap=>Qe2 n cap
 | .rs q=>decide (q<m)
 | .rp q _ _ _=>decide (q<m)
 | _=>true
def Qmq (n m:Nat):List SC->Bool
 | []=>true
 | c::l=>c.bnd n m&&Qmq n m l
def SA.bnd (n m:Nat):SA->Bool
 | .one c=>c.bnd n m
 | .agg l=>Qmq n m l
def Qr9 (n m:Nat):List SA->Bool
 | []=>true
 | c::l=>c.bnd n m&&Qr9 n m l
def SV.bnd (n m:Nat):SV->Bool
 | .pt a=>a.bnd n m
 | .tup l=>Qr9 n m l
def Qf0 (n m:Nat):List SV->Bool
 | []=>true
 | c::l=>c.bnd n m&&Qf0 n m l
def Qd7 (n m:Nat):List (List SV)->Bool
 | []=>true
 | c::l=>Qf0 n m c&&Qd7 n m l
def Qe0 (n m:Nat):List (Option (List SC))->Bool
 | []=>true
 | none::l=>Qe0 n m l
 | some c::l=>Qmq n m c&&Qe0 n m l
def Qzg {α:Type}:List α->Nat
 | []=>0
 | _::l=>Qzg l+1
theorem Q6i {α:Type}:∀l:List α,Qzg l=l.length
 | []=>rfl
 | _::l=>by simp[Qzg,Q6i l]
def St.bnd (st:St):Bool:=Qf0 (Qzg st.h) (Qzg st.r) st.t&&Qe0 (Qzg st.h) (Qzg st.r) st.h&&Qd7 (Qzg st.h) (Qzg st.r) st.fr
def Env.cut (e:Env) (n m:Nat):Env:=⟨e.rho.take n,e.chi,e.sg.take m⟩
theorem Qgl {e:Env} {n m k b:Nat} (hk:k<n) (h:e.rho[k]? =some b):(e.cut n m).rho[k]? =some b:=by
 simp[Env.cut,List.getElem?_take,hk,h]
theorem Qbz {e:Env} {n m q:Nat} {v:Value} (hq:q<m) (h:e.sg[q]? =some v):(e.cut n m).sg[q]? =some v:=by
 simp[Env.cut,List.getElem?_take,hq,h]
theorem Quo {e:Env} {n m:Nat}:∀{l:List (Nat×Nat)} {vs:List Value},Qe2 n l=true->Qfd e l vs->Qfd (e.cut n m) l vs
 | [],[],_,_=>trivial
 | (k,o)::l,v::vs,hb,⟨⟨x,hx,hv⟩,h⟩=>by
  simp only[Qe2,Bool.and_eq_true,decide_eq_true_eq] at hb
  exact ⟨⟨x,Qgl hb.1 hx,hv⟩,Quo hb.2 h⟩
 | [],_::_,_,h=>h.elim
 | _::_,[],_,h=>h.elim
theorem SC.is_cut {e:Env} {n m:Nat} {c:SC} {v:Value} (hb:c.bnd n m=true) (h:c.is e v):c.is (e.cut n m) v:=by
 cases c<;>try exact h
 case pi k o=>simp only[SC.bnd,decide_eq_true_eq] at hb;obtain ⟨x,hx,hv⟩:=h;exact ⟨x,Qgl hb hx,hv⟩
 case ptr k o=>simp only[SC.bnd,decide_eq_true_eq] at hb;obtain ⟨x,hx,hv⟩:=h;exact ⟨x,Qgl hb hx,hv⟩
 case sl k o n c=>simp only[SC.bnd,decide_eq_true_eq] at hb;obtain ⟨x,hx,hv⟩:=h;exact ⟨x,Qgl hb hx,hv⟩
 case rs q=>simp only[SC.bnd,decide_eq_true_eq] at hb;exact ⟨Qbz hb h.1,h.2⟩
 case rp q es j o=>simp only[SC.bnd,decide_eq_true_eq] at hb;obtain ⟨b,p,n,c,h1,h2,h3⟩:=h;exact ⟨b,p,n,c,Qbz hb h1,h2,h3⟩
 case fn f cap=>obtain ⟨vs,hv,hc⟩:=h;exact ⟨vs,hv,Quo hb hc⟩
theorem Qmn {e:Env} {n m:Nat}:∀{l:List SC} {vs:List Value},Qmq n m l=true->isL e l vs->isL (e.cut n m) l vs
 | [],[],_,_=>trivial
 | c::l,v::vs,hb,h=>by
   simp only[Qmq,Bool.and_eq_true] at hb
   exact ⟨SC.is_cut hb.1 h.1,Qmn hb.2 h.2⟩
 | [],_::_,_,h=>h.elim
 | _::_,[],_,h=>h.elim
theorem SA.is_cut {e:Env} {n m:Nat} {c:SA} {v:Value} (hb:c.bnd n m=true) (h:c.is e v):c.is (e.cut n m) v:=by
 cases c
 · exact SC.is_cut hb h
 · obtain ⟨vs,hv,hl⟩:=h;exact ⟨vs,hv,Qmn hb hl⟩
theorem Q7w {e:Env} {n m:Nat}:∀{l:List SA} {vs:List Value},Qr9 n m l=true->isA e l vs->isA (e.cut n m) l vs
 | [],[],_,_=>trivial
 | c::l,v::vs,hb,h=>by
   simp only[Qr9,Bool.and_eq_true] at hb
   exact ⟨SA.is_cut hb.1 h.1,Q7w hb.2 h.2⟩
 | [],_::_,_,h=>h.elim
 | _::_,[],_,h=>h.elim
theorem SV.is_cut {e:Env} {n m:Nat} {c:SV} {v:Value} (hb:c.bnd n m=true) (h:c.is e v):c.is (e.cut n m) v:=by
 cases c
 · exact SA.is_cut hb h
 · obtain ⟨vs,hv,hl⟩:=h;exact ⟨vs,hv,Q7w hb hl⟩
theorem Qer {e:Env} {n m:Nat}:∀{l:List SV} {vs:List Value},Qf0 n m l=true->isV e l vs->isV (e.cut n m) l vs
 | [],[],_,_=>trivial
 | c::l,v::vs,hb,h=>by
   simp only[Qf0,Bool.and_eq_true] at hb
   exact ⟨SV.is_cut hb.1 h.1,Qer hb.2 h.2⟩
 | [],_::_,_,h=>h.elim
 | _::_,[],_,h=>h.elim
theorem Q0s {e:Env} {n m:Nat}:∀{l:List (List SV)} {vs:List Act},Qd7 n m l=true->Qzl e l vs->Qzl (e.cut n m) l vs
 | [],[],_,_=>trivial
 | c::l,v::vs,hb,h=>by
   simp only[Qd7,Bool.and_eq_true] at hb
   exact ⟨⟨h.1.1,Qer hb.1 h.1.2⟩,Q0s hb.2 h.2⟩
 | [],_::_,_,h=>h.elim
 | _::_,[],_,h=>h.elim
theorem Q3m {n m:Nat}:∀{l:List (Option (List SC))},Qe0 n m l=true->∀{k:Nat} {cs:List SC},l[k]? =some (some cs)->Qmq n m cs=true
 | [],_,k,cs,h=>by simp at h
 | none::l,hb,0,cs,h=>by simp at h
 | none::l,hb,k+1,cs,h=>Q3m (l:=l) hb (by simpa using h)
 | some c::l,hb,0,cs,h=>by
   simp only[Qe0,Bool.and_eq_true] at hb
   simp at h;subst h;exact hb.1
 | some c::l,hb,k+1,cs,h=>by
   simp only[Qe0,Bool.and_eq_true] at hb
   exact Q3m hb.2 (by simpa using h)
theorem Fit.le {e:Env} {st st':St} {a:Act} {s:List Act} {w:World} (F:Fit e w0 st a s w) (h:Le st st') (hb:st'.bnd=true) (hm:w0.mo.length<=st'.h.length):Fit (e.cut st'.h.length st'.r.length) w0 st' a s w:=by
 simp only[St.bnd,Bool.and_eq_true,Q6i] at hb
 obtain ⟨⟨b1,b2⟩,b3⟩:=hb
 obtain ⟨hlen,hget⟩:=Qzk h.h
 obtain ⟨hrlen,hrget⟩:=Qpx h.r
 have hcut:∀k b,(e.cut st'.h.length st'.r.length).rho[k]? =some b->k<st'.h.length/\e.rho[k]? =some b:=by
  intro k b hk
  simp only[Env.cut,List.getElem?_take] at hk
  split at hk
  · exact ⟨y9,hk⟩
  · cases hk
 have hscut:∀k v,(e.cut st'.h.length st'.r.length).sg[k]? =some v->k<st'.r.length/\e.sg[k]? =some v:=by
  intro k v hk
  simp only[Env.cut,List.getElem?_take] at hk
  split at hk
  · exact ⟨y9,hk⟩
  · cases hk
 have hH:∀k b,Qhd (e.cut st'.h.length st'.r.length) st' k b->Qhd e st k b:=fun k b ⟨cs,h1,h2⟩=>by
  obtain ⟨cs0,h3,_⟩:=hget k cs h1
  exact ⟨cs0,h3,(hcut k b h2).2⟩
 have hR:∀q b,Qdd (e.cut st'.h.length st'.r.length) st' q b->Qdd e st q b:=fun q b ⟨R,v,h1,h2,h3⟩=>by
  obtain ⟨R0,h4,_⟩:=hrget q R h1
  exact ⟨R0,v,h4,(hscut q v h2).2,h3⟩
 refine ⟨Q0s b3 (Qx2 h.f F.fr),F.dfr,Qer b1 (Q5s h.t F.tm),F.blw,fun k b hk=>F.lo k b (hcut k b hk).2,fun k b hk=>F.hi k b (hcut k b hk).2,
  fun j k b hj hk=>F.nd j k b (hcut j b hj).2 (hcut k b hk).2,by have:=F.len;simp[Env.cut,this];omega,fun k b cs hk hc=>?_,F.ext.kept rfl (Nat.le_refl _) (fun _ _ _ _ _=>rfl) (fun k b h=>.inl (hH k b h)) (fun q b h=>.inl (hR q b h)),fun i b hi=>?_,?_⟩
 · obtain ⟨cs0,hk0,hle⟩:=hget k cs hc
   obtain ⟨vs,t,g1,g2⟩:=F.cells k b cs0 (hcut k b hk).2 hk0
   exact ⟨vs,t,g1,Qmn (Q3m b2 hc) (Qjh hle g2)⟩
 · have:i<w0.mo.length:=(List.getElem?_eq_some_iff.1 hi).1
   exact Qgl o9 (F.pre i b hi)
 · have hl:=F.rows.len
   refine ⟨by simp[Env.cut];omega,fun q R hq=>?_,fun q b hq=>F.rows.lo q b (hR q b hq),fun q b hq=>F.rows.hi q b (hR q b hq),fun q q' b h1 h2=>F.rows.nd q q' b (hR q b h1) (hR q' b h2),fun q b hq k hk=>F.rows.no q b (hR q b hq) k (hH k b hk)⟩
   obtain ⟨R0,h1,h2⟩:=hrget q R hq
   obtain ⟨v,xs,h3,h4,h5⟩:=F.rows.row q R0 h1
   have hlt:q<st'.r.length:=(List.getElem?_eq_some_iff.1 hq).1
   exact ⟨v,xs,Qbz hlt h3,by rw[<-h2.n,<-h2.es];exact h4,h2.els h5⟩
theorem Qiaa {k:List Item} {st:St} (st':St) (h:Le st st') (hb:st'.bnd=true) (hm:w0.mo.length<=st'.h.length) (hg:Goes P Q c w0 k st'):Goes P Q c w0 k st:=
 ⟨fun e s a w hc F=>hg.run (e.cut st'.h.length st'.r.length) s a w hc (F.le h hb hm)⟩
theorem Qqa (m:Nat) {body:Code} {k:List Item} {st:St} (h:Goes P Q c w0 (.rnds body m::k) st):OutOk P Q c w0 (.loop body k st):=
 ⟨fun e s a w hc F=>wp_loop_rounds m (h.run e s a w hc F)⟩
def Q73 {σ:Type} (c:R9z) (w0:Base) (inv:σ->St) (μ:σ->Nat) (m:Nat) (s:List Act) (a:Act) (w:World):Prop:=∃y:σ,μ y<m/\∃e:Env,e.chi=c/\Fit e w0 (inv y) a s w
theorem Q14 {σ:Type} (inv:σ->St) (μ:σ->Nat) (x0:σ) {body:Code} {k:List Item} {st:St} (h0:Le st (inv x0)) (hb:(inv x0).bnd=true) (hm:w0.mo.length<=(inv x0).h.length)
 (hr:∀x,Goes P Q c w0 (.code body::.stop (Q73 c w0 inv μ (μ x))::k) (inv x)):OutOk P Q c w0 (.loop body k st):=⟨fun e s a w hc F=>by
 refine Go.wp_loop_ghost (fun n a w=>∃y:σ,μ y=n/\∃e:Env,e.chi=c/\Fit e w0 (inv y) a s w) (μ x0) ⟨x0,rfl,e.cut (inv x0).h.length (inv x0).r.length,hc,F.le h0 hb hm⟩ ?_
 rintro n a w ⟨y,rfl,e,hc,F⟩
 refine wp_mono ((hr y).run e s a w hc F) ?_
 intro en a' w' hq
 cases en with
 | normal=>obtain ⟨y',h1,e',h2,h3⟩:=hq;exact ⟨μ y',h1,y',rfl,e',h2,h3⟩
 | _=>exact hq⟩
theorem Qma {σ:Type} {inv:σ->St} {μ:σ->Nat} {m:Nat} {k:List Item} {st:St} (y:σ) (hm:μ y<m) (h:Le st (inv y)) (hb:(inv y).bnd=true) (hw:w0.mo.length<=(inv y).h.length):OutOk P Q c w0 (.stop (Q73 c w0 inv μ m) k st):=
 ⟨fun e s a w hc F=>⟨y,hm,e.cut (inv y).h.length (inv y).r.length,hc,F.le h hb hw⟩⟩
def toC (c:R9z):SC->Option Value
 | .int k x=>some (.int k x)
 | .bool b=>some (.bool b)
 | .lit b=>some (.bool b)
 | .val v=>some v
 | .ob v=>some v
 | .xs q i=>some (.slice (c q i).a (c q i).n (c q i).c)
 | _=>none
def Q7z (c:R9z):List SC->Option (List Value)
 | []=>some []
 | x::l=>match toC c x,Q7z c l with
   | some v,some vs=>some (v::vs)
   | _,_=>none
def toA (c:R9z):SA->Option Value
 | .one x=>toC c x
 | .agg l=>match Q7z c l with|some vs=>some (.agg vs.toArray)|none=>none
def Qp3 (c:R9z):List SA->Option (List Value)
 | []=>some []
 | x::l=>match toA c x,Qp3 c l with
   | some v,some vs=>some (v::vs)
   | _,_=>none
def toV (c:R9z):SV->Option Value
 | .pt a=>toA c a
 | .tup l=>match Qp3 c l with|some vs=>some (.tuple vs.toArray)|none=>none
def Q2r (c:R9z):List SV->Option (List Value)
 | []=>some []
 | x::l=>match toV c x,Q2r c l with
   | some v,some vs=>some (v::vs)
   | _,_=>none
theorem Qsz {e:Env} (hc:e.chi=c) {x:SC} {v u:Value} (h:toC c x=some v) (hu:x.is e u):u=v:=by
 cases x<;>simp only[toC,Option.some.injEq] at h<;>try (cases h;done)
 all_goals subst h
 all_goals first|exact hu|(have hu:u=_:=hu;rw[hc] at hu;exact hu)
theorem Q0r {e:Env} (hc:e.chi=c):∀{l:List SC} {vs us:List Value},Q7z c l=some vs->isL e l us->us=vs
 | [],vs,[],h,_=>by simp[Q7z] at h;exact h.symm▸rfl
 | x::l,vs,u::us,h,hi=>by
   simp only[Q7z] at h
   split at h
   · rename_i v vs' h1 h2
     cases h
     rw[Qsz hc h1 hi.1,Q0r hc h2 hi.2]
   · cases h
 | [],_,_::_,_,hi=>hi.elim
 | _::_,_,[],_,hi=>hi.elim
theorem Qn3 {e:Env} (hc:e.chi=c) {x:SA} {v u:Value} (h:toA c x=some v) (hu:x.is e u):u=v:=by
 cases x with
 | one x=>exact Qsz hc h hu
 | agg l=>
   simp only[toA] at h
   split at h
   · rename_i vs hvs
     cases h
     obtain ⟨us,rfl,hl⟩:=hu
     congr 1
     apply Array.ext'
     exact Q0r hc hvs hl
   · cases h
theorem Qpz {e:Env} (hc:e.chi=c):∀{l:List SA} {vs us:List Value},Qp3 c l=some vs->isA e l us->us=vs
 | [],vs,[],h,_=>by simp[Qp3] at h;exact h.symm▸rfl
 | x::l,vs,u::us,h,hi=>by
   simp only[Qp3] at h
   split at h
   · rename_i v vs' h1 h2
     cases h
     rw[Qn3 hc h1 hi.1,Qpz hc h2 hi.2]
   · cases h
 | [],_,_::_,_,hi=>hi.elim
 | _::_,_,[],_,hi=>hi.elim
theorem Qdu {e:Env} (hc:e.chi=c) {x:SV} {v u:Value} (h:toV c x=some v) (hu:x.is e u):u=v:=by
 cases x with
 | pt x=>exact Qn3 hc h hu
 | tup l=>
   simp only[toV] at h
   split at h
   · rename_i vs hvs
     cases h
     obtain ⟨us,rfl,hl⟩:=hu
     congr 1
     apply Array.ext'
     exact Qpz hc hvs hl
   · cases h
theorem Qko {e:Env} (hc:e.chi=c):∀{l:List SV} {vs us:List Value},Q2r c l=some vs->isV e l us->us=vs
 | [],vs,[],h,_=>by simp[Q2r] at h;exact h.symm▸rfl
 | x::l,vs,u::us,h,hi=>by
   simp only[Q2r] at h
   split at h
   · rename_i v vs' h1 h2
     cases h
     rw[Qdu hc h1 hi.1,Qko hc h2 hi.2]
   · cases h
 | [],_,_::_,_,hi=>hi.elim
 | _::_,_,[],_,hi=>hi.elim
theorem Qq3 {r:List Nat} {g:List Value} {x:SC} {v:Value} (h:toC c x=some v):x.is ⟨r,c,g⟩ v:=by
 cases x<;>simp only[toC,Option.some.injEq] at h<;>try (cases h;done)
 all_goals subst h;rfl
theorem Q1r {r:List Nat} {g:List Value}:∀{l:List SC} {vs:List Value},Q7z c l=some vs->isL ⟨r,c,g⟩ l vs
 | [],vs,h=>by simp[Q7z] at h;subst h;trivial
 | x::l,vs,h=>by
   simp only[Q7z] at h
   split at h
   · rename_i v vs' h1 h2
     cases h
     exact ⟨Qq3 h1,Q1r h2⟩
   · cases h
theorem Qo3 {r:List Nat} {g:List Value} {x:SA} {v:Value} (h:toA c x=some v):x.is ⟨r,c,g⟩ v:=by
 cases x with
 | one x=>exact Qq3 h
 | agg l=>
   simp only[toA] at h
   split at h
   · rename_i vs hvs
     cases h
     exact ⟨_,rfl,Q1r hvs⟩
   · cases h
theorem Qqz {r:List Nat} {g:List Value}:∀{l:List SA} {vs:List Value},Qp3 c l=some vs->isA ⟨r,c,g⟩ l vs
 | [],vs,h=>by simp[Qp3] at h;subst h;trivial
 | x::l,vs,h=>by
   simp only[Qp3] at h
   split at h
   · rename_i v vs' h1 h2
     cases h
     exact ⟨Qo3 h1,Qqz h2⟩
   · cases h
theorem Q98 {r:List Nat} {g:List Value} {x:SV} {v:Value} (h:toV c x=some v):x.is ⟨r,c,g⟩ v:=by
 cases x with
 | pt x=>exact Qo3 h
 | tup l=>
   simp only[toV] at h
   split at h
   · rename_i vs hvs
     cases h
     exact ⟨_,rfl,Qqz hvs⟩
   · cases h
theorem Quz {r:List Nat} {g:List Value}:∀{l:List SV} {vs:List Value},Q2r c l=some vs->isV ⟨r,c,g⟩ l vs
 | [],vs,h=>by simp[Q2r] at h;subst h;trivial
 | x::l,vs,h=>by
   simp only[Q2r] at h
   split at h
   · rename_i v vs' h1 h2
     cases h
     exact ⟨Q98 h1,Quz h2⟩
   · cases h
def Q49:Value->SC
 | .int k n=>.int k n
 | .bool b=>.bool b
 | v=>.val v
def Qm5:List Value->List SC
 | []=>[]
 | v::l=>Q49 v::Qm5 l
def Q39:Value->SA
 | .agg cs=>.agg (Qm5 cs.toList)
 | v=>.one (Q49 v)
def Ql5:List Value->List SA
 | []=>[]
 | v::l=>Q39 v::Ql5 l
def ofR:Value->SV
 | .tuple vs=>.tup (Ql5 vs.toList)
 | v=>.pt (Q39 v)
theorem Qgy (e:Env) (v:Value):(Q49 v).is e v:=by cases v<;>simp[Q49,SC.is]
theorem Qgt (e:Env):∀vs:List Value,isL e (Qm5 vs) vs
 | []=>trivial
 | v::vs=>⟨Qgy e v,Qgt e vs⟩
theorem Qfy (e:Env) (v:Value):(Q39 v).is e v:=by
 unfold Q39
 split
 · exact ⟨_,rfl,Qgt e _⟩
 · exact Qgy e v
theorem Qft (e:Env):∀vs:List Value,isA e (Ql5 vs) vs
 | []=>trivial
 | v::vs=>⟨Qfy e v,Qft e vs⟩
theorem Qkm (e:Env) (v:Value):(ofR v).is e v:=by
 unfold ofR
 split
 · exact ⟨_,rfl,Qft e _⟩
 · exact Qfy e v
theorem Q9p (e:Env) (w0:Base) (st:St) (w:World) (h1:st.r=[]) (h2:e.sg=[]):Rows e w0 st w:=by
 have hn:∀q b,¬Qdd e st q b:=fun q b ⟨R,v,h3,_⟩=>by rw[h1] at h3;simp at h3
 exact ⟨by rw[h1,h2];rfl,fun q R hq=>by rw[h1] at hq;simp at hq,fun q b h=>absurd h (hn q b),fun q b h=>absurd h (hn q b),fun q q' b h=>absurd h (hn q b),fun q b h=>absurd h (hn q b)⟩
theorem Qfa {f:Nat} {args:List SV} {dst:Option Nat} {k:List Item} {st:St} {vs:List Value} {v:Value} (hv:Q2r c args=some vs) (hf:∀(args:Array Value) (w:World),(callFunc f args).run P w=.ok (.enter f args) w)
 (hC:∀w,KB w0 w->XOk ⟨[],c,[]⟩ ⟨w,[]⟩->Calls P f vs.toArray w (Ret w v)) (h:Goes P Q c w0 k (st.put dst (ofR v))):OutOk P Q c w0 (.call f args dst k st):=⟨fun e s a w hc F us hu=>by
 rw[Qko hc hv hu]
 refine ⟨hf _ _,(hC w F.blw (F.ext.xok0 hc)).mono fun en w' ⟨he,hb⟩=>⟨v,he,?_⟩⟩
 exact h.run e s _ _ hc ((F.later hb).put (Qkm e v))⟩
theorem Qta {f:Nat} {args:List SV} {dst:Option Nat} {k:List Item} {st:St} {vs:List Value} {v:Value} (hv:Q2r c args=some vs) (hf:∀(args:Array Value) (w:World),(callFunc f args).run P w=.ok (.enter f args) w)
 (hC:∀w,KB w0 w->XOk ⟨[],c,[]⟩ ⟨w,[]⟩->Calls P f vs.toArray w (Ret w v)) (h:Goes P Q c w0 k (st.put dst (ofR v))):OutOk P Q c w0 (.callq f args dst k st):=⟨fun e s a w hc F us hu=>by
 rw[Qko hc hv hu]
 refine ⟨v,fun w' hw'=>⟨hf _ _,(hC w' (F.later hw').blw ((F.later hw').ext.xok0 hc)).mono fun en w'' ⟨he,hb⟩=>⟨v,he,rfl,hw'.trans (hb.mono hw'.size)⟩⟩,?_⟩
 exact h.run e s _ _ hc (F.put (Qkm e v))⟩
theorem Q1a {f:Nat} {args:List SV} {dst:Option Nat} {k:List Item} {st:St} {vs:List Value} {κ:IntKind} {n:Int} (hv:Q2r c args=some vs) (hf:∀(args:Array Value) (w:World),(callFunc f args).run P w=.ok (.enter f args) w)
 (hC:∀w,KB w0 w->XOk ⟨[],c,[]⟩ ⟨w,[]⟩->Calls P f vs.toArray w (Ret w (.int κ n))) (h:∀z:Int,z=n->Goes P Q c w0 k (st.put dst (.pt (.one (.int κ z))))):OutOk P Q c w0 (.call f args dst k st):=
 Qfa hv hf hC (h n rfl)
theorem Q4f {f:Nat} {args:List SV} {dst:Option Nat} {k:List Item} {st:St} {vs:List Value} {κ:IntKind} {n:Int} (hv:Q2r c args=some vs) (hf:∀(args:Array Value) (w:World),(callFunc f args).run P w=.ok (.enter f args) w)
 (hC:∀w,KB w0 w->XOk ⟨[],c,[]⟩ ⟨w,[]⟩->Calls P f vs.toArray w (Ret w (.int κ n))) (h:∀z:Int,z=n->Goes P Q c w0 k (st.put dst (.pt (.one (.int κ z))))):OutOk P Q c w0 (.callq f args dst k st):=
 Qta hv hf hC (h n rfl)
theorem Qeb {f:Nat} {args:List SV} {dst:Option Nat} {k:List Item} {st:St} {vs:List Value} {n:Bool} (hv:Q2r c args=some vs) (hf:∀(args:Array Value) (w:World),(callFunc f args).run P w=.ok (.enter f args) w)
 (hC:∀w,KB w0 w->XOk ⟨[],c,[]⟩ ⟨w,[]⟩->Calls P f vs.toArray w (Ret w (.bool n))) (h:∀z:Bool,z=n->Goes P Q c w0 k (st.put dst (.pt (.one (.bool z))))):OutOk P Q c w0 (.callq f args dst k st):=
 Qta hv hf hC (h n rfl)
theorem Qua {f:Nat} {args:List SV} {dst:Option Nat} {k:List Item} {st:St} {vs:List Value} {n:Bool} (hv:Q2r c args=some vs) (hf:∀(args:Array Value) (w:World),(callFunc f args).run P w=.ok (.enter f args) w)
 (hC:∀w,KB w0 w->XOk ⟨[],c,[]⟩ ⟨w,[]⟩->Calls P f vs.toArray w (Ret w (.bool n))) (h:∀z:Bool,z=n->Goes P Q c w0 k (st.put dst (.pt (.one (.bool z))))):OutOk P Q c w0 (.call f args dst k st):=
 Qfa hv hf hC (h n rfl)
theorem Q5d (hT:TOk P T) {fn:Func} {R:Ending->World->Prop} {st:St} {x:SV} (h:Qul T c st fn.results.toList=some x) (hR:∀(e:Env) (s:List Act) (a:Act) (w:World) (v:Value),e.chi=c->Fit e w0 st a s w->x.is e v->R (.returned v) w):
 OutOk P (bodyPost P fn R) c w0 (.ret st):=⟨fun e s a w hc F=>by
 rw[<-hc] at h
 obtain ⟨v,h1,h2⟩:=Qtr (P:=P) hT F h
 exact ⟨F.dfr,v,h1,hR e s a w v hc F h2⟩⟩
theorem Q1i (hT:TOk P T) {fn:Func} {R:Ending->World->Prop} {st:St} {x:SV} (h:Qul T c st fn.results.toList=some x) (hR:∀(e:Env) (s:List Act) (a:Act) (w:World) (v:Value),e.chi=c->Fit e w0 st a s w->x.is e v->R (.returned v) w):
 OutOk P (bodyPost P fn R) c w0 (.fin st):=⟨fun e s a w hc F=>by
 rw[<-hc] at h
 obtain ⟨v,h1,h2⟩:=Qtr (P:=P) hT F h
 exact ⟨F.dfr,v,h1,hR e s a w v hc F h2⟩⟩
theorem Qru (hT:TOk P T) {w:World} {X:Inhabited Exs} {fn:Func} {st:St} {x:SV} {v u:Value} (h:Qul T c st fn.results.toList=some x) (hv:toV c x=some v) (hu:v=u):OutOk P (bodyPost P fn (Ret w u)) c ⟨w,[]⟩ (.ret st):=
 Q5d hT h fun e s a w u' hc F hx=>⟨by rw[Qdu hc hv hx,hu],F.blw.below⟩
theorem Qqu (hT:TOk P T) {w:World} {X:Inhabited Exs} {fn:Func} {st:St} {x:SV} {v u:Value} (h:Qul T c st fn.results.toList=some x) (hv:toV c x=some v) (hu:v=u):OutOk P (bodyPost P fn (Ret w u)) c ⟨w,[]⟩ (.fin st):=
 Q1i hT h fun e s a w u' hc F hx=>⟨by rw[Qdu hc hv hx,hu],F.blw.below⟩
def Qra:Nat->Nat->Row:=fun _ _=>⟨none,0,0,0,fun _=>[]⟩
theorem Qga (w:Base):XOk ⟨[],Qra,[]⟩ w:=fun q i j hj=>absurd hj (Nat.not_lt_zero _)
theorem Qaa {f:Nat} {fn:Func} {body:Code} {R:Ending->World->Prop} {args:List SV} {vals:Array Value} {w:World} (hf:P.funcs[f]? =some fn) (hb:fn.body=some body) (hX:XOk ⟨[],c,[]⟩ ⟨w,[]⟩)
 (hv:Q2r c args=some vals.toList) {n:Nat} (hn:fn.ntmps - args.length=n) (h:Goes P (bodyPost P fn R) c ⟨w,[]⟩ [.code body] ⟨args++Qxm n,[],[],[]⟩):Calls P f vals w R:=by
 refine calls_of_wp hf hb ?_
 have hi:=Quz (r:=[]) (g:=[]) hv
 have hl:=Qlg hi
 simp only[Array.length_toList] at hl
 refine h.run ⟨[],c,[]⟩ [] _ w rfl ⟨trivial,rfl,?_,KB.refl _,?_,?_,?_,rfl,?_,XOk.ext hX rfl (fun k b ⟨cs,h1,h2⟩=>by simp at h1) (fun q b ⟨R,v,h1,h2,h3⟩=>by simp at h1) (fun _=>rfl),?_,Q9p _ _ _ _ rfl rfl⟩
 · simp only[Array.toList_append,Array.toList_replicate]
   rw[<-hl,hn]
   exact Qye hi (Qki _ _)
 · intro k b hb;simp at hb
 · intro k b hb;simp at hb
 · intro j k b hb;simp at hb
 · intro k b cs hb;simp at hb
 · intro i b hb;simp at hb
end
def reP (q:List Nat):List (Nat×Nat)->List (Nat×Nat)
 | []=>[]
 | (k,o)::l=>(match nth q k with|some k'=>k'|none=>0,o)::reP q l
def SC.re (q:List Nat):SC->SC
 | .ptr k o=>match nth q k with|some k'=>.ptr k' o|none=>.any
 | .pi k o=>match nth q k with|some k'=>.pi k' o|none=>.any
 | .sl k o n c=>match nth q k with|some k'=>.sl k' o n c|none=>.any
 | .fn f cap=>.fn f (reP q cap)
 | c=>c
def reL (q:List Nat):List SC->List SC
 | []=>[]
 | c::l=>c.re q::reL q l
def SA.re (q:List Nat):SA->SA
 | .one c=>.one (c.re q)
 | .agg l=>.agg (reL q l)
def SV.re (q:List Nat):SV->SV
 | .pt a=>.pt (a.re q)
 | .tup _=>.pt (.one .any)
def reV (q:List Nat):List SV->List SV
 | []=>[]
 | c::l=>c.re q::reV q l
def Q9x:List SV->Bool
 | []=>true
 | .pt _::l=>Q9x l
 | .tup _::_=>false
structure Sub (e:Env) (q bs:List Nat):Prop where
 len:bs.length=q.length
 at_:∀(i k:Nat),q[i]? =some k->∃b,e.rho[k]? =some b/\bs[i]? =some b
section
variable {e:Env} {q bs:List Nat}
theorem Qas (S:Sub e q bs):∀{l:List (Nat×Nat)} {vs:List Value},Qe2 q.length l=true->Qfd e (reP q l) vs->Qfd ⟨bs,e.chi,[]⟩ l vs
 | [],[],_,_=>trivial
 | (k,o)::l,v::vs,hb,h=>by
  simp only[Qe2,Bool.and_eq_true,decide_eq_true_eq] at hb
  obtain ⟨k',hk⟩:∃k',q[k]? =some k':=⟨_,List.getElem?_eq_getElem hb.1⟩
  simp only[reP,Qva,hk] at h
  obtain ⟨⟨b,h1,h2⟩,h3⟩:=h
  obtain ⟨b',g1,g2⟩:=S.at_ k k' hk
  rw[h1] at g1;cases g1
  exact ⟨⟨b,g2,h2⟩,Qas S hb.2 h3⟩
 | [],_::_,_,h=>h.elim
 | (_,_)::_,[],_,h=>h.elim
theorem Qwo (S:Sub e q bs):∀{l:List (Nat×Nat)} {vs:List Value},Qfd ⟨bs,e.chi,[]⟩ l vs->Qfd e (reP q l) vs
 | [],[],_=>trivial
 | (k,o)::l,v::vs,⟨⟨b,h1,h2⟩,h3⟩=>by
  have hlt:k<bs.length:=(List.getElem?_eq_some_iff.1 h1).1
  obtain ⟨k',hk⟩:∃k',q[k]? =some k':=⟨_,List.getElem?_eq_getElem (by rw[<-S.len];exact hlt)⟩
  obtain ⟨b',g1,g2⟩:=S.at_ k k' hk
  have h1:bs[k]? =some b:=h1
  rw[h1] at g2;cases g2
  simp only[reP,Qva,hk]
  exact ⟨⟨b,g1,h2⟩,Qwo S h3⟩
 | [],_::_,h=>h.elim
 | (_,_)::_,[],h=>h.elim
theorem SC.is_in (S:Sub e q bs) {c:SC} {v:Value} (hb:c.bnd q.length 0=true) (h:(c.re q).is e v):c.is ⟨bs,e.chi,[]⟩ v:=by
 have key:∀k:Nat,decide (k<q.length)=true->∃k' b,q[k]? =some k'/\e.rho[k']? =some b/\bs[k]? =some b:=by
  intro k hk
  simp only[decide_eq_true_eq] at hk
  obtain ⟨b,g1,g2⟩:=S.at_ k _ (List.getElem?_eq_getElem hk)
  exact ⟨_,b,List.getElem?_eq_getElem hk,g1,g2⟩
 cases c<;>try exact h
 case ptr k o=>
  obtain ⟨k',b,g1,g2,g3⟩:=key k hb
  simp only[SC.re,Qva,g1] at h
  obtain ⟨x,h1,h2⟩:=h
  rw[g2] at h1;cases h1
  exact ⟨b,g3,h2⟩
 case pi k o=>
  obtain ⟨k',b,g1,g2,g3⟩:=key k hb
  simp only[SC.re,Qva,g1] at h
  obtain ⟨x,h1,h2⟩:=h
  rw[g2] at h1;cases h1
  exact ⟨b,g3,h2⟩
 case sl k o n c=>
  obtain ⟨k',b,g1,g2,g3⟩:=key k hb
  simp only[SC.re,Qva,g1] at h
  obtain ⟨x,h1,h2⟩:=h
  rw[g2] at h1;cases h1
  exact ⟨b,g3,h2⟩
 case rs q=>simp[SC.bnd] at hb
 case rp q es j o=>simp[SC.bnd] at hb
 case fn f cap=>
  obtain ⟨vs,h1,h2⟩:=h
  exact ⟨vs,h1,Qas S hb h2⟩
theorem SC.is_out (S:Sub e q bs) {c:SC} {v:Value} (h:c.is ⟨bs,e.chi,[]⟩ v):(c.re q).is e v:=by
 have key:∀(k b:Nat),bs[k]? =some b->∃k',q[k]? =some k'/\e.rho[k']? =some b:=by
  intro k b hk
  have hlt:k<bs.length:=(List.getElem?_eq_some_iff.1 hk).1
  obtain ⟨b',g1,g2⟩:=S.at_ k _ (List.getElem?_eq_getElem (by rw[<-S.len];exact hlt))
  rw[hk] at g2;cases g2
  exact ⟨_,List.getElem?_eq_getElem (by rw[<-S.len];exact hlt),g1⟩
 cases c<;>try exact h
 case ptr k o=>
  obtain ⟨b,h1,h2⟩:=h
  obtain ⟨k',g1,g2⟩:=key k b h1
  simp only[SC.re,Qva,g1]
  exact ⟨b,g2,h2⟩
 case pi k o=>
  obtain ⟨b,h1,h2⟩:=h
  obtain ⟨k',g1,g2⟩:=key k b h1
  simp only[SC.re,Qva,g1]
  exact ⟨b,g2,h2⟩
 case sl k o n c=>
  obtain ⟨b,h1,h2⟩:=h
  obtain ⟨k',g1,g2⟩:=key k b h1
  simp only[SC.re,Qva,g1]
  exact ⟨b,g2,h2⟩
 case rs q=>have:=h.1;simp at this
 case rp q es j o=>obtain ⟨_,_,_,_,h1,_⟩:=h;simp at h1
 case fn f cap=>
  obtain ⟨vs,h1,h2⟩:=h
  exact ⟨vs,h1,Qwo S h2⟩
theorem Qws (S:Sub e q bs):∀{l:List SC} {vs:List Value},Qmq q.length 0 l=true->isL e (reL q l) vs->isL ⟨bs,e.chi,[]⟩ l vs
 | [],[],_,_=>trivial
 | c::l,v::vs,hb,h=>by
   simp only[Qmq,Bool.and_eq_true] at hb
   exact ⟨SC.is_in S hb.1 h.1,Qws S hb.2 h.2⟩
 | [],_::_,_,h=>h.elim
 | _::_,[],_,h=>h.elim
theorem Qbx (S:Sub e q bs):∀{l:List SC} {vs:List Value},isL ⟨bs,e.chi,[]⟩ l vs->isL e (reL q l) vs
 | [],[],_=>trivial
 | c::l,v::vs,h=>⟨SC.is_out S h.1,Qbx S h.2⟩
 | [],_::_,h=>h.elim
 | _::_,[],h=>h.elim
theorem Qu2 (S:Sub e q bs):∀{l:List SV} {vs:List Value},Q9x l=true->Qf0 q.length 0 l=true->isV e (reV q l) vs->isV ⟨bs,e.chi,[]⟩ l vs
 | [],[],_,_,_=>trivial
 | .pt c::l,v::vs,hn,hb,h=>by
   simp only[Qf0,Bool.and_eq_true] at hb
   refine ⟨?_,Qu2 S hn hb.2 h.2⟩
   cases c with
   | one c=>exact SC.is_in S hb.1 h.1
   | agg l=>
     obtain ⟨us,h1,h2⟩:=h.1
     exact ⟨us,h1,Qws S hb.1 h2⟩
 | .tup _::_,_::_,hn,_,_=>by simp[Q9x] at hn
 | [],_::_,_,_,h=>h.elim
 | .pt _::_,[],_,_,h=>h.elim
 | .tup _::_,[],hn,_,_=>by simp[Q9x] at hn
end
def Q63 (c:R9z) (w:World) (bs:List Nat) (hs:List (List SC)):Prop:=∀(i b:Nat) (cs:List SC),bs[i]? =some b->hs[i]? =some cs->b<w.heap.size/\∃vs t,w.heap[b]? =some (.cells vs t (0,0))/\isL ⟨bs,c,[]⟩ cs vs.toList
def Q26 (P:Program) (f:Nat) (c:R9z) (args:List SV) (hs hs':List (List SC)) (v:Value):Prop:=
 ∀(w:World) (bs:List Nat) (vals:List Value),bs.length=hs.length->(∀(i j b:Nat),bs[i]? =some b->bs[j]? =some b->i=j)->Q63 c w bs hs->XOk ⟨[],c,[]⟩ ⟨w,bs⟩->isV ⟨bs,c,[]⟩ args vals->
  Calls P f vals.toArray w (fun e w'=>e=.returned v/\KB ⟨w,bs⟩ w'/\Q63 c w' bs hs')
def Qq7 (h:List (Option (List SC))):List Nat->Option (List (List SC))
 | []=>some []
 | k::l=>match nth h k,Qq7 h l with
   | some (some cs),some r=>some (cs::r)
   | _,_=>none
def Q31:List (Option (List SC))->List Nat->List (List SC)->List (Option (List SC))
 | h,k::l,cs::r=>Q31 (Q0b h k (some cs)) l r
 | h,_,_=>h
def Qqm (q:List Nat):List (List SC)->List (List SC)
 | []=>[]
 | l::r=>reL q l::Qqm q r
def Qie:List (List SC)->List (Option (List SC))
 | []=>[]
 | l::r=>some l::Qie r
theorem Qiq {r:List (List SC)} {i:Nat} {cs:List SC} (h:r[i]? =some cs):(Qie r)[i]? =some (some cs):=by
 induction r generalizing i with
 | nil=>simp at h
 | cons l r ih=>
   cases i with
   | zero=>simp at h;subst h;simp[Qie]
   | succ i=>simpa [Qie] using ih (by simpa using h)
def Q3j (n:Nat):List (List SC)->Bool
 | []=>true
 | l::r=>Qmq n 0 l&&Q3j n r
theorem Qap {h:List (Option (List SC))}:∀{q:List Nat} {hs:List (List SC)},Qq7 h q=some hs->q.length=hs.length/\∀(i k:Nat) (cs:List SC),q[i]? =some k->hs[i]? =some cs->h[k]? =some (some cs)
 | [],hs,hh=>by simp[Qq7] at hh;subst hh;exact ⟨rfl,fun i k cs hi=>by simp at hi⟩
 | k::l,hs,hh=>by
   simp only[Qq7,Qva] at hh
   split at hh
   · rename_i cs r h1 h2
     cases hh
     obtain ⟨g1,g2⟩:=Qap h2
     refine ⟨by simp[g1],fun i k' cs' hi hc=>?_⟩
     cases i with
     | zero=>simp at hi hc;subst hi;subst hc;exact h1
     | succ i=>exact g2 i k' cs' (by simpa using hi) (by simpa using hc)
   · cases hh
theorem Qcq:∀{q:List Nat} {hs:List (List SC)} {h:List (Option (List SC))},q.length=hs.length->q.Nodup->(Q31 h q hs).length=h.length/\∀(k:Nat) (cs:List SC),(Q31 h q hs)[k]? =some (some cs)->(∃i:Nat,q[i]? =some k/\hs[i]? =some cs)\/(k ∉ q/\h[k]? =some (some cs))
 | [],[],h,_,_=>⟨rfl,fun k cs hk=>.inr ⟨by simp,hk⟩⟩
 | k0::l,c0::r,h,hl,hn=>by
   rw[List.nodup_cons] at hn
   obtain ⟨g1,g2⟩:=Qcq (q:=l) (hs:=r) (h:=Q0b h k0 (some c0)) (by simpa using hl) hn.2
   refine ⟨by simp only[Q31,g1];simp[Q8b],fun k cs hk=>?_⟩
   simp only[Q31] at hk
   rcases g2 k cs hk with ⟨i,h1,h2⟩|⟨h1,h2⟩
   · exact .inl ⟨i+1,by simpa using h1,by simpa using h2⟩
   · rw[Q8b,List.getElem?_set] at h2
     split at h2
     · rename_i e
       subst e
       split at h2
       · cases h2;exact .inl ⟨0,by simp,by simp⟩
       · cases h2
     · rename_i hne
       exact .inr ⟨by simp only[List.mem_cons,not_or];exact ⟨fun e=>hne e.symm,h1⟩,h2⟩
 | [],_::_,_,hl,_=>by simp at hl
 | _::_,[],_,hl,_=>by simp at hl
theorem Qtp:∀{q:List Nat},q.Nodup->∀{i j k:Nat},q[i]? =some k->q[j]? =some k->i=j
 | [],_,i,j,k,h,_=>by simp at h
 | x::q,hn,0,0,k,_,_=>rfl
 | x::q,hn,0,j+1,k,hi,hj=>by
   rw[List.nodup_cons] at hn
   simp at hi hj;subst hi
   exact absurd (List.mem_iff_getElem?.2 ⟨j,hj⟩) hn.1
 | x::q,hn,i+1,0,k,hi,hj=>by
   rw[List.nodup_cons] at hn
   simp at hi hj;subst hj
   exact absurd (List.mem_iff_getElem?.2 ⟨i,hi⟩) hn.1
 | x::q,hn,i+1,j+1,k,hi,hj=>by
   rw[List.nodup_cons] at hn
   rw[Qtp hn.2 (i:=i) (j:=j) (k:=k) (by simpa using hi) (by simpa using hj)]
theorem Qzt {q:List Nat}:∀{r:List (List SC)} {i:Nat} {cs:List SC},(Qqm q r)[i]? =some cs->∃cs0,r[i]? =some cs0/\cs=reL q cs0
 | [],i,cs,h=>by simp[Qqm] at h
 | l::r,0,cs,h=>by simp[Qqm] at h;exact ⟨l,by simp,h.symm⟩
 | l::r,i+1,cs,h=>by simp[Qqm] at h;simpa using Qzt h
theorem Qnd {q:List Nat}:∀r:List (List SC),(Qqm q r).length=r.length
 | []=>rfl
 | l::r=>by simp[Qqm,Qnd r]
theorem Q05 {q:List Nat} {r:List (List SC)} {i:Nat} {cs:List SC} (h:r[i]? =some cs):(Qqm q r)[i]? =some (reL q cs):=by
 induction r generalizing i with
 | nil=>simp at h
 | cons l r ih=>
   cases i with
   | zero=>simp at h;subst h;simp[Qqm]
   | succ i=>simpa [Qqm] using ih (by simpa using h)
theorem Qxh {n:Nat}:∀{r:List (List SC)} {i:Nat} {cs:List SC},Q3j n r=true->r[i]? =some cs->Qmq n 0 cs=true
 | [],i,cs,_,h=>by simp at h
 | l::r,0,cs,hb,h=>by simp only[Q3j,Bool.and_eq_true] at hb;simp at h;subst h;exact hb.1
 | l::r,i+1,cs,hb,h=>by simp only[Q3j,Bool.and_eq_true] at hb;exact Qxh hb.2 (by simpa using h)
section
variable {P:Program} {Q:E9z} {c:R9z} {w0:Base} {T:Tb}
theorem XOk.at {e:Env} {w:World} (bs:List Nat) (h:XOk ⟨[],c,[]⟩ w0) (hw:KB w0 w) (hb:∀b∈bs,w0.w.heap.size<=b\/b∈w0.mo):XOk ⟨[],c,[]⟩ ⟨w,bs⟩:=by
 intro q i j hj
 obtain ⟨b,p,h1,h2,h3,vs,h4,h5⟩:=h q i j hj
 refine ⟨b,p,h1,Nat.lt_of_lt_of_le h2 hw.size,fun hm=>?_,vs,h4,fun t v ht=>?_⟩
 · rcases hb b hm with g|g
   · exact absurd h2 o9
   · exact h3 g
 · have:=h5 t v ht
   show w.cell? _=_
   rw[hw.cell h2 h3]
   exact this
theorem Qae {f:Nat} {args:List SV} {dst:Option Nat} {k:List Item} {st:St} {v:Value} {argsC:List SV} {hs hs':List (List SC)} (q:List Nat) (hC:Q26 P f c argsC hs hs' v)
 (hf:∀(args:Array Value) (w:World),(callFunc f args).run P w=.ok (.enter f args) w) (ha:leT args (reV q argsC)) {hs0:List (List SC)} (hh:Qq7 st.h q=some hs0) (hle:leH (Qie hs0) (Qie (Qqm q hs))) (hnt:Q9x argsC=true) (hb1:Qf0 (Qzg q) 0 argsC=true) (hb2:Q3j (Qzg q) hs=true) (hn:q.Nodup)
 (hl:Qzg hs'=Qzg q) (hl2:Qzg hs=Qzg q)
 (h:Goes P Q c w0 k (({ st with h:=Q31 st.h q (Qqm q hs') }:St).put dst (ofR v))):OutOk P Q c w0 (.call f args dst k st):=⟨fun e s a w hc F us hu=>by
 obtain ⟨g1,g20⟩:=Qap hh
 have hsl:∀l:List (List SC),(Qie l).length=l.length:=by
  intro l;induction l with
  | nil=>rfl
  | cons a l ih=>simp[Qie,ih]
 have hlen2:=(Qzk hle).1
 rw[hsl,hsl,Qnd] at hlen2
 have g2:∀(i k:Nat) (cs:List SC),q[i]? =some k->(Qqm q hs)[i]? =some cs->∃cs0,st.h[k]? =some (some cs0)/\Qbc cs0 cs:=by
  intro i k cs hi hcs
  obtain ⟨cs0,h1,h2⟩:=(Qzk hle).2 i cs (Qiq hcs)
  have:hs0[i]? =some cs0:=by
   have h3:∀(l:List (List SC)) (k:Nat),(Qie l)[k]? =some (some cs0)->l[k]? =some cs0:=by
    intro l
    induction l with
    | nil=>intro k h;simp[Qie] at h
    | cons a l ih=>
      intro k h
      cases k with
      | zero=>simp[Qie] at h;simp[h]
      | succ k=>simpa using ih k (by simpa [Qie] using h)
   exact h3 hs0 i h1
  exact ⟨cs0,g20 i k cs0 hi this,h2⟩
 rw[Q6i] at hb1 hb2
 rw[Q6i,Q6i] at hl hl2
 have hlt:∀(i k:Nat),q[i]? =some k->k<e.rho.length:=by
  intro i k hi
  have:i<(Qqm q hs).length:=by rw[Qnd];have:=(List.getElem?_eq_some_iff.1 hi).1;omega
  obtain ⟨cs0,this,_⟩:=g2 i k _ hi (List.getElem?_eq_getElem this)
  rw[F.len]
  exact (List.getElem?_eq_some_iff.1 this).1
 have hS:Sub e q (q.map fun k=>e.rho.getD k 0):=⟨by simp,fun i k hi=>⟨e.rho.getD k 0,by have:=hlt i k hi;simp[this],by simp[hi]⟩⟩
 have hbs:∀(i b:Nat),(q.map fun k=>e.rho.getD k 0)[i]? =some b->∃k,q[i]? =some k/\e.rho[k]? =some b:=by
  intro i b hi
  simp only[List.getElem?_map,Option.map_eq_some_iff] at hi
  obtain ⟨k,h1,h2⟩:=hi
  have:=hlt i k h1
  exact ⟨k,h1,by rw[<-h2];simp[this]⟩
 have hbsm:∀b∈(q.map fun k=>e.rho.getD k 0),w0.w.heap.size<=b\/b∈w0.mo:=by
  intro b hb
  obtain ⟨i,hi⟩:=List.mem_iff_getElem?.1 hb
  obtain ⟨k,_,hk⟩:=hbs i b hi
  exact F.lo k b hk
 have hbsH:∀b∈(q.map fun k=>e.rho.getD k 0),∃k,Qhd e st k b:=by
  intro b hb
  obtain ⟨i,hi⟩:=List.mem_iff_getElem?.1 hb
  obtain ⟨k,h1,h2⟩:=hbs i b hi
  have:i<(Qqm q hs).length:=by rw[Qnd];have:=(List.getElem?_eq_some_iff.1 h1).1;omega
  obtain ⟨cs0,h3,_⟩:=g2 i k _ h1 (List.getElem?_eq_getElem this)
  exact ⟨k,cs0,h3,h2⟩
 have hx:XOk ⟨[],c,[]⟩ ⟨w,q.map fun k=>e.rho.getD k 0⟩:=by
  subst hc;exact F.ext.xok _ hbsH
 have hat:Q63 c w (q.map fun k=>e.rho.getD k 0) hs:=by
  intro i b cs hi hcs
  obtain ⟨k,h1,h2⟩:=hbs i b hi
  obtain ⟨cs0,this,hle0⟩:=g2 i k _ h1 (Q05 hcs)
  obtain ⟨vs,t,h3,h4⟩:=F.cells k b _ h2 this
  refine ⟨F.hi k b h2,vs,t,h3,?_⟩
  have:=Qws hS (Qxh hb2 hcs) (Qjh hle0 h4)
  rw[hc] at this
  exact this
 have hargs:isV ⟨q.map fun k=>e.rho.getD k 0,c,[]⟩ argsC us:=by
  have:=Qu2 hS hnt hb1 (Q5s ha hu)
  rw[hc] at this
  exact this
 refine ⟨hf _ _,(hC w _ us (by simp[hl2]) ?_ hat hx hargs).mono fun en w' ⟨he,hk,hat'⟩=>⟨v,he,?_⟩⟩
 · intro i j b hi hj
   obtain ⟨k,h1,h2⟩:=hbs i b hi
   obtain ⟨k',h1',h2'⟩:=hbs j b hj
   have:=F.nd k k' b h2 h2'
   subst this
   exact Qtp hn h1 h1'
 · obtain ⟨s1,s2⟩:=Qcq (q:=q) (hs:=Qqm q hs') (h:=st.h) (by rw[Qnd];omega) hn
   have hHq:∀k b,Qhd e { st with h:=Q31 st.h q (Qqm q hs') } k b->Qhd e st k b:=by
    rintro k b ⟨cs,h1,h2⟩
    rcases s2 k cs h1 with ⟨i,h3,_⟩|⟨_,h3⟩
    · have:i<(Qqm q hs).length:=by rw[Qnd];have:=(List.getElem?_eq_some_iff.1 h3).1;omega
      obtain ⟨cs0,h4,_⟩:=g2 i k _ h3 (List.getElem?_eq_getElem this)
      exact ⟨cs0,h4,h2⟩
    · exact ⟨cs,h3,h2⟩
   have F':Fit e w0 { st with h:=Q31 st.h q (Qqm q hs') } a s w':=by
    refine ⟨F.fr,F.dfr,F.tm,?_,F.lo,fun k b hb=>Nat.lt_of_lt_of_le (F.hi k b hb) hk.size,F.nd,by simp only[s1];exact F.len,?_,F.ext.kept rfl hk.size (fun b hb _ hn _=>hk.block b hb fun hmem=>(hbsH b hmem).elim fun k h=>hn k h) (fun k b h=>.inl (hHq k b h)) (fun q b h=>.inl h),F.pre,
     F.rows.kept rfl rfl rfl hk.size (fun q' b hq=>hk.block b (F.rows.hi q' b hq) fun hmem=>(hbsH b hmem).elim fun k h=>F.rows.no q' b hq k h) (fun k b h=>.inl (hHq k b h))⟩
    · refine ⟨hk.os.trans F.blw.os,hk.tape.trans F.blw.tape,hk.output.trans F.blw.output,Nat.le_trans F.blw.size hk.size,fun j hj hm=>?_⟩
      rw[<-F.blw.block j hj hm]
      refine hk.block j (Nat.lt_of_lt_of_le hj F.blw.size) (fun hmem=>?_)
      rcases hbsm j hmem with g|g
      · omega
      · exact hm g
    · intro k b cs hb hcs
      rcases s2 k cs hcs with ⟨i,h1,h2⟩|⟨h1,h2⟩
      · obtain ⟨cs0,h3,rfl⟩:=Qzt h2
        obtain ⟨b',h4,h5⟩:=hS.at_ i k h1
        rw[hb] at h4;cases h4
        obtain ⟨_,vs,t,h6,h7⟩:=hat' i b cs0 h5 h3
        refine ⟨vs,t,h6,Qbx hS ?_⟩
        rw[hc];exact h7
      · obtain ⟨vs,t,h3,h4⟩:=F.cells k b cs hb h2
        refine ⟨vs,t,?_,h4⟩
        rw[<-h3]
        refine hk.block b (F.hi k b hb) (fun hmem=>?_)
        obtain ⟨i,hi⟩:=List.mem_iff_getElem?.1 hmem
        obtain ⟨k',h5,h6⟩:=hbs i b hi
        have:=F.nd k k' b hb h6
        subst this
        exact h1 (List.mem_iff_getElem?.2 ⟨i,h5⟩)
   exact h.run e s _ _ hc (F'.put (Qkm e v))⟩
theorem Qoe {f:Nat} {fn:Func} {body:Code} {args:List SV} {hs hs':List (List SC)} {v:Value} (hf:P.funcs[f]? =some fn) (hb:fn.body=some body) {n:Nat} (hn:fn.ntmps - args.length=n)
 (h:∀w bs,bs.length=hs.length->Goes P (bodyPost P fn (fun e w'=>e=.returned v/\KB ⟨w,bs⟩ w'/\Q63 c w' bs hs')) c ⟨w,bs⟩ [.code body] ⟨args++Qxm n,Qie hs,[],[]⟩):Q26 P f c args hs hs' v:=by
 intro w bs vals hlen hnd hat hX hi
 refine calls_of_wp hf hb ?_
 have hl:=Qlg hi
 refine (h w bs hlen).run ⟨bs,c,[]⟩ [] _ w rfl ⟨trivial,rfl,?_,KB.refl _,?_,?_,?_,?_,?_,XOk.ext hX rfl (fun k b ⟨cs,h1,h2⟩=>List.mem_iff_getElem?.2 ⟨k,h2⟩) (fun q b ⟨R,v,h1,h2,h3⟩=>by simp at h1) (fun _=>rfl),fun i b h=>h,Q9p _ _ _ _ rfl rfl⟩
 · simp only[Array.toList_append,Array.toList_replicate,List.size_toArray]
   rw[<-hl,hn]
   exact Qye hi (Qki _ _)
 · intro k b hk;exact .inr (List.mem_iff_getElem?.2 ⟨k,hk⟩)
 · intro k b hk
   have hk:bs[k]? =some b:=hk
   have hlt:k<hs.length:=by have:=(List.getElem?_eq_some_iff.1 hk).1;omega
   exact (hat k b _ hk (List.getElem?_eq_getElem hlt)).1
 · intro j k b hj hk;exact hnd j k b hj hk
 · have:∀l:List (List SC),(Qie l).length=l.length:=by
    intro l;induction l with
    | nil=>rfl
    | cons a l ih=>simp[Qie,ih]
   simp[hlen,this]
 · intro k b cs hk hc
   have:∀(l:List (List SC)) (k:Nat),(Qie l)[k]? =some (some cs)->l[k]? =some cs:=by
    intro l
    induction l with
    | nil=>intro k h;simp[Qie] at h
    | cons a l ih=>
      intro k h
      cases k with
      | zero=>simp[Qie] at h;simp[h]
      | succ k=>simpa using ih k (by simpa [Qie] using h)
   exact (hat k b cs hk (this hs k hc)).2
theorem Q25 (hT:TOk P T) {fn:Func} {bs:List Nat} {w:World} {hs':List (List SC)} {v u:Value} {st:St} {x:SV} (hlen:bs.length=Qzg hs') (h:Qul T c st fn.results.toList=some x) (hv:toV c x=some u) (hu:u=v) (hh:leH st.h (Qie hs')) (hb:Q3j (Qzg hs') hs'=true):
 ∀(e:Env) (s:List Act) (a:Act) (w':World),e.chi=c->Fit e ⟨w,bs⟩ st a s w'->a.defers=[]/\∃r,(results fn a.tmps).run P w'=.ok r w'/\(Ending.returned r=.returned v/\KB ⟨w,bs⟩ w'/\Q63 c w' bs hs'):=by
 intro e s a w' hc F
 rw[<-hc] at h
 obtain ⟨r,h1,h2⟩:=Qtr (P:=P) hT F h
 rw[Q6i] at hlen hb
 refine ⟨F.dfr,r,h1,by rw[Qdu hc hv h2,hu],F.blw,fun i b cs hi hcs=>?_⟩
 have hr:=F.pre i b hi
 obtain ⟨cs0,hk0,hle⟩:=(Qzk hh).2 i cs (Qiq hcs)
 obtain ⟨vs,t,h3,h40⟩:=F.cells i b cs0 hr hk0
 have h4:=Qjh hle h40
 refine ⟨F.hi i b hr,vs,t,h3,?_⟩
 have hcut:∀k b',bs[k]? =some b'->e.rho[k]? =some b':=fun k b' hk=>F.pre k b' hk
 have hS:Sub e (List.range bs.length) bs:=⟨by simp,fun i k hi=>by
  obtain ⟨hlt,rfl⟩:=List.getElem?_eq_some_iff.1 hi
  simp only[List.length_range] at hlt
  simp only[List.getElem_range]
  exact ⟨_,hcut i _ (List.getElem?_eq_getElem hlt),List.getElem?_eq_getElem hlt⟩⟩
 have hid:∀l:List SC,Qmq bs.length 0 l=true->reL (List.range bs.length) l=l:=by
  have hn:∀k,decide (k<bs.length)=true->nth (List.range bs.length) k=some k:=by
   intro k hk
   simp only[decide_eq_true_eq] at hk
   rw[Qva];simp[hk]
  have hp:∀l:List (Nat×Nat),Qe2 bs.length l=true->reP (List.range bs.length) l=l:=by
   intro l
   induction l with
   | nil=>intro _;rfl
   | cons p l ih=>
     intro hb
     obtain ⟨k,o⟩:=p
     simp only[Qe2,Bool.and_eq_true] at hb
     simp only[reP,hn k hb.1,ih hb.2]
  intro l
  induction l with
  | nil=>intro _;rfl
  | cons c l ih=>
    intro hb
    simp only[Qmq,Bool.and_eq_true] at hb
    simp only[reL,ih hb.2]
    congr 1
    cases c<;>first|rfl|(simp only[SC.re,hn _ hb.1])|(simp only[SC.re];rw[hp _ hb.1])
 have h4':isL e (reL (List.range bs.length) cs) vs.toList:=by rw[hid cs (Qxh (by rw[hlen];exact hb) hcs)];exact h4
 have:=Qws hS (by rw[List.length_range];exact Qxh (by rw[hlen];exact hb) hcs) h4'
 rw[hc] at this
 exact this
theorem Qkg (hT:TOk P T) {fn:Func} {bs:List Nat} {w:World} {hs':List (List SC)} {v u:Value} {st:St} {x:SV} (hlen:bs.length=Qzg hs') (h:Qul T c st fn.results.toList=some x) (hv:toV c x=some u) (hu:u=v) (hh:leH st.h (Qie hs')) (hb:Q3j (Qzg hs') hs'=true):
 OutOk P (bodyPost P fn (fun e w'=>e=.returned v/\KB ⟨w,bs⟩ w'/\Q63 c w' bs hs')) c ⟨w,bs⟩ (.fin st):=⟨fun e s a w' hc F=>Q25 hT hlen h hv hu hh hb e s a w' hc F⟩
theorem Qt7 {nt:Bool->Bool} (hnt:nt=not) {b:Bool} {kt kf:List Item} {s1 s2:St} (h1:b=false->Goes P Q c w0 kt s1) (h2:b=true->Goes P Q c w0 kf s2):OutOk P Q c w0 (.br (nt b) kt s1 kf s2):=
 Qr4 (fun h=>h1 (by rw[hnt] at h;simpa using h)) (fun h=>h2 (by rw[hnt] at h;simpa using h))
theorem Qs7 {cm:BinOp->Int->Int->Bool} (hcm:cm=rCm) {i n:Nat} {kt kf:List Item} {s1 s2:St} (h1:i<n->Goes P Q c w0 kt s1) (h2:n<=i->Goes P Q c w0 kf s2):OutOk P Q c w0 (.br (cm .lss (.ofNat i) (.ofNat n)) kt s1 kf s2):=
 Qr4 (fun h=>h1 (by rw[hcm] at h;simpa [rCm] using h)) (fun h=>h2 (by rw[hcm] at h;simpa [rCm] using h))
theorem Qt4 {nt:Bool->Bool} (hnt:nt=not) {b:Bool} {kt kf:List Item} {s1 s2:St} (hb:b=false) (h1:Goes P Q c w0 kt s1):OutOk P Q c w0 (.br (nt b) kt s1 kf s2):=Qq2 (by rw[hnt,hb];rfl) h1
theorem Qs4 {nt:Bool->Bool} (hnt:nt=not) {b:Bool} {kt kf:List Item} {s1 s2:St} (hb:b=true) (h1:Goes P Q c w0 kf s2):OutOk P Q c w0 (.br (nt b) kt s1 kf s2):=Qp2 (by rw[hnt,hb];rfl) h1
def Ql9:List SV->List Nat->List SV
 | t,[]=>t
 | t,i::l=>Ql9 (Q0b t i undefS) l
def Qs8:List SV->List (Nat×SV)->List SV
 | t,[]=>t
 | t,(i,x)::l=>Qs8 (Q0b t i x) l
def Q5u:List (Option (List SC))->List (Nat×List SC)->List (Option (List SC))
 | h,[]=>h
 | h,(i,x)::l=>Q5u (Q0b h i (some x)) l
def Qt8:List (Option ORow)->List (Nat×ORow)->List (Option ORow)
 | r,[]=>r
 | r,(i,x)::l=>Qt8 (Q0b r i (some x)) l
def St.lay (st:St) (ws:List Nat) (ups:List (Nat×SV)) (hups:List (Nat×List SC)) (rups:List (Nat×ORow)):St:=⟨Qs8 (Ql9 st.t ws) ups,Q5u st.h hups,st.fr,Qt8 st.r rups⟩
theorem Qja {σ:Type} (ws:List Nat) (ups:σ->List (Nat×SV)) (hups:σ->List (Nat×List SC)) (rups:σ->List (Nat×ORow)) (μ:σ->Nat) (x0:σ) {body:Code} {k:List Item} {st:St} (h0:Le st (st.lay ws (ups x0) (hups x0) (rups x0))) (hb:(st.lay ws (ups x0) (hups x0) (rups x0)).bnd=true)
 (hm:w0.mo.length<=(st.lay ws (ups x0) (hups x0) (rups x0)).h.length)
 (hr:∀(x:σ) (m:Nat),m=μ x->Goes P Q c w0 (.code body::.stop (Q73 c w0 (fun x=>st.lay ws (ups x) (hups x) (rups x)) μ m)::k) (st.lay ws (ups x) (hups x) (rups x))):OutOk P Q c w0 (.loop body k st):=Q14 (fun x=>st.lay ws (ups x) (hups x) (rups x)) μ x0 h0 hb hm fun x=>hr x _ rfl
theorem Qf2 {st:St} (h1:Qf0 (Qzg st.h) (Qzg st.r) st.t=true) (h2:Qe0 (Qzg st.h) (Qzg st.r) st.h=true) (h3:Qd7 (Qzg st.h) (Qzg st.r) st.fr=true):st.bnd=true:=by simp[St.bnd,h1,h2,h3]
theorem Q8c {st st':St} (h1:leT st.t st'.t) (h2:leH st.h st'.h) (h3:leF st.fr st'.fr) (h4:leR st.r st'.r):Le st st':=⟨h1,h2,h3,h4⟩
theorem Qda {ar:A9z} (har:ar=rAr) (i:Nat) (h:i<=9223372036854775806):ar .add .i64 (.ofNat i) 1=.ofNat (i+1):=by
 rw[har]
 show IntKind.i64.wrap ((i:Int)+1)=((i+1:Nat):Int)
 rw[Go.IntWalk.i64_in _ o9]
 omega
end
structure RowsAt (w:World) (c:R9z) (lo:Nat) (g:List Value) (r:List ORow):Prop where
 len:g.length=r.length
 row:∀(i:Nat) (R:ORow),r[i]? =some R->∃v xs,g[i]? =some v/\OwnR w R.es v R.n xs/\Q3c c R xs/\∀b,v.ownBlock=some b->lo<=b/\b<w.heap.size
 nd:∀(i j b:Nat) (v v':Value),g[i]? =some v->g[j]? =some v'->v.ownBlock=some b->v'.ownBlock=some b->i=j
def RetR (w:World) (c:R9z) (x:SV) (r:List ORow):Ending->World->Prop:=fun en w'=>∃v g,en=.returned v/\Below w.heap.size w w'/\RowsAt w' c w.heap.size g r/\x.is ⟨[],c,g⟩ v
def RowIs (c:R9z) (w:World) (R:ORow) (v:Value):Prop:=∃xs,OwnR w R.es v R.n xs/\Q3c c R xs/\∀b,v.ownBlock=some b->b<w.heap.size
inductive RSrc where
 | own (q:Nat)
 | blk (k n c:Nat)
 | nil
def Qcba:SC->SC->List RSrc
 | .rs q,.rs _=>[.own q]
 | .sl k 0 n c,.rs _=>[.blk k n c]
 | .val (.slice none 0 0),.rs _=>[.nil]
 | _,_=>[]
def Q79 {α:Type}:List α->List α->List α
 | [],l=>l
 | a::l,m=>a::Q79 l m
def Qdba:List SC->List SC->List RSrc
 | c::l,d::m=>Q79 (Qcba c d) (Qdba l m)
 | _,_=>[]
def Qbba:SA->SA->List RSrc
 | .one c,.one d=>Qcba c d
 | .agg l,.agg m=>Qdba l m
 | _,_=>[]
def Q28:List SA->List SA->List RSrc
 | c::l,d::m=>Q79 (Qbba c d) (Q28 l m)
 | _,_=>[]
def Qaz:SV->SV->List RSrc
 | .pt a,.pt b=>Qbba a b
 | .tup l,.tup m=>Q28 l m
 | _,_=>[]
def Qt9 (sel:List RSrc):SC->SC->Prop
 | .rs q,.rs i=>nth sel i=some (.own q)
 | .sl k 0 n c,.rs i=>nth sel i=some (.blk k n c)
 | .val (.slice none 0 0),.rs i=>nth sel i=some .nil
 | c,d=>c.free=true/\Qre c d
def Qcaa (sel:List RSrc):List SC->List SC->Prop
 | [],[]=>True
 | c::l,d::m=>Qt9 sel c d/\Qcaa sel l m
 | _,_=>False
def Qs9 (sel:List RSrc):SA->SA->Prop
 | .one c,.one d=>Qt9 sel c d
 | .agg l,.agg m=>Qcaa sel l m
 | _,_=>False
def Qb4 (sel:List RSrc):List SA->List SA->Prop
 | [],[]=>True
 | c::l,d::m=>Qs9 sel c d/\Qb4 sel l m
 | _,_=>False
def Qyo (sel:List RSrc):SV->SV->Prop
 | .pt a,.pt b=>Qs9 sel a b
 | .tup l,.tup m=>Qb4 sel l m
 | _,_=>False
structure BlkLe (cs:List SC) (n c:Nat) (R:ORow):Prop where
 hn:n=R.n
 nc:n<=c
 cb:c<=1073741824
 len:c * R.es<=cs.length
 free:Qsk cs=true
 solid:Qei cs=true
 el:∀j,j<n->Qbc (Qte cs (j * R.es) R.es) (R.el j)
structure NilLe (R:ORow):Prop where
 n:R.n=0
def Qf6 (st:St):RSrc->ORow->Prop
 | .own q,R=>match nth st.r q with|some (some R0)=>RowLe R0 R|_=>False
 | .blk k n c,R=>match nth st.h k with|some (some cs)=>BlkLe cs n c R|_=>False
 | .nil,R=>NilLe R
def Qtf (st:St):List RSrc->List ORow->Prop
 | [],[]=>True
 | s::l,R::r=>Qf6 st s R/\Qtf st l r
 | _,_=>False
def Q5z:List RSrc->RSrc->Bool
 | [],_=>false
 | .own q::l,.own q'=>decide (q=q')||Q5z l (.own q')
 | .blk k _ _::l,.blk k' n c=>decide (k=k')||Q5z l (.blk k' n c)
 | _::l,s=>Q5z l s
def ndS:List RSrc->Bool
 | []=>true
 | s::l=>!Q5z l s&&ndS l
section
variable {P:Program} {Q:E9z} {c:R9z} {w0:Base} {T:Tb}
def RSrc.val (e:Env):RSrc->Value
 | .own q=>(e.sg[q]?).getD undef
 | .blk k n c=>.slice (some ⟨(e.rho[k]?).getD 0,0,none⟩) n c
 | .nil=>.slice none 0 0
theorem Q1v {e:Env} {sel:List RSrc} {x y:SC} {v:Value} (hc:e.chi=c) (h:Qt9 sel x y) (hx:x.is e v):y.is ⟨[],c,sel.map (RSrc.val e)⟩ v:=by
 unfold Qt9 at h
 split at h
 · rw[Qva] at h
   refine ⟨?_,hx.2⟩
   simp only[List.getElem?_map,h,Option.map_some,RSrc.val]
   rw[hx.1];rfl
 · rw[Qva] at h
   obtain ⟨b,hb,rfl⟩:=hx
   refine ⟨?_,rfl⟩
   simp only[List.getElem?_map,h,Option.map_some,RSrc.val]
   rw[hb];rfl
 · rw[Qva] at h
   have hx:v=_:=hx
   subst hx
   refine ⟨?_,rfl⟩
   simp only[List.getElem?_map,h,Option.map_some,RSrc.val]
 · have:=Qls h.1 hx
   rw[hc] at this
   exact SC.is_nil (Qyk h.2 this)
theorem Q2v {e:Env} {sel:List RSrc} (hc:e.chi=c):∀{x y:List SC} {v:List Value},Qcaa sel x y->isL e x v->isL ⟨[],c,sel.map (RSrc.val e)⟩ y v
 | [],[],[],_,_=>trivial
 | _::_,_::_,_::_,h,hx=>⟨Q1v hc h.1 hx.1,Q2v hc h.2 hx.2⟩
 | [],_::_,_,h,_=>h.elim
 | _::_,[],_,h,_=>h.elim
 | _::_,_::_,[],_,h=>h.elim
 | [],[],_::_,_,h=>h.elim
theorem Q0v {e:Env} {sel:List RSrc} {x y:SA} {v:Value} (hc:e.chi=c) (h:Qs9 sel x y) (hx:x.is e v):y.is ⟨[],c,sel.map (RSrc.val e)⟩ v:=by
 unfold Qs9 at h
 split at h
 · exact Q1v hc h hx
 · obtain ⟨vs,rfl,hl⟩:=hx;exact ⟨vs,rfl,Q2v hc h hl⟩
 · exact h.elim
theorem Qcs {e:Env} {sel:List RSrc} (hc:e.chi=c):∀{x y:List SA} {v:List Value},Qb4 sel x y->isA e x v->isA ⟨[],c,sel.map (RSrc.val e)⟩ y v
 | [],[],[],_,_=>trivial
 | _::_,_::_,_::_,h,hx=>⟨Q0v hc h.1 hx.1,Qcs hc h.2 hx.2⟩
 | [],_::_,_,h,_=>h.elim
 | _::_,[],_,h,_=>h.elim
 | _::_,_::_,[],_,h=>h.elim
 | [],[],_::_,_,h=>h.elim
theorem Q3v {e:Env} {sel:List RSrc} {x y:SV} {v:Value} (hc:e.chi=c) (h:Qyo sel x y) (hx:x.is e v):y.is ⟨[],c,sel.map (RSrc.val e)⟩ v:=by
 unfold Qyo at h
 split at h
 · exact Q0v hc h hx
 · obtain ⟨vs,rfl,hl⟩:=hx;exact ⟨vs,rfl,Qcs hc h hl⟩
 · exact h.elim
theorem BlkLe.own {e:Env} {st:St} {a:Act} {s:List Act} {w:World} (F:Fit e w0 st a s w) {k n c':Nat} {cs:List SC} {R:ORow} (hk:st.h[k]? =some (some cs)) (h:BlkLe cs n c' R):
 ∃b xs,e.rho[k]? =some b/\OwnR w R.es (.slice (some ⟨b,0,none⟩) n c') R.n xs/\Q3c e.chi R xs:=by
 have hkl:k<e.rho.length:=by rw[F.len];exact (List.getElem?_eq_some_iff.1 hk).1
 obtain ⟨b,hb⟩:∃b,e.rho[k]? =some b:=⟨_,List.getElem?_eq_getElem hkl⟩
 obtain ⟨vs,t,hw,hl⟩:=F.cells k b cs hb hk
 have hlen:=Qza hl
 simp only[Array.length_toList] at hlen
 have hnc:=Nat.mul_le_mul_right R.es h.nc
 have h1:=h.len
 refine ⟨b,vs.toList.take (n * R.es),hb,?_,?_⟩
 · rw[<-h.hn]
   refine ⟨by simp;omega,fun u hu=>Qrd hl h.solid u (List.mem_of_mem_take hu),.inr ⟨b,0,c',vs,t,rfl,hw,h.nc,by simp only[maxLen];have:=h.cb;omega,by omega,by simp⟩⟩
 · intro j hj
   rw[<-h.hn] at hj
   have hje:(j+1) * R.es<=n * R.es:=Nat.mul_le_mul_right _ hj
   rw[Nat.succ_mul] at hje
   have:=Qjh (h.el j hj) (Qve (Qxe h.free hl) (j * R.es) R.es)
   refine Eq.mp ?_ this
   congr 1
   rw[List.drop_take,List.take_take]
   congr 1
   omega
theorem Qgk {e:Env} {st:St} {a:Act} {s:List Act} {w w':World} {Y:Inhabited Exs} (F:Fit e ⟨w,[]⟩ st a s w') {X x:SV} {r:List ORow} {sel:List RSrc} {v:Value} (hc:e.chi=c) (hX:X.is e v) (hx:Qyo sel X x) (hr:Qtf st sel r) (hn:ndS sel=true):RetR w c x r (.returned v) w':=by
 have hsrc:∀(sel:List RSrc) (r:List ORow),Qtf st sel r->sel.length=r.length/\∀(i:Nat) (R:ORow),r[i]? =some R->∃s,sel[i]? =some s/\Qf6 st s R:=by
  intro sel
  induction sel with
  | nil=>intro r h;cases r with
    | nil=>exact ⟨rfl,fun i R hi=>by simp at hi⟩
    | cons=>exact h.elim
  | cons s l ih=>intro r h;cases r with
    | nil=>exact h.elim
    | cons R r=>
      obtain ⟨h1,h2⟩:=ih r h.2
      refine ⟨by simp[h1],fun i R' hi=>?_⟩
      cases i with
      | zero=>simp at hi;subst hi;exact ⟨s,by simp,h.1⟩
      | succ i=>simpa using h2 i R' (by simpa using hi)
 obtain ⟨hlen,hsrc⟩:=hsrc sel r hr
 have key:∀(i:Nat) (R:ORow),r[i]? =some R->∃s xs,sel[i]? =some s/\OwnR w' R.es (s.val e) R.n xs/\Q3c c R xs/\∀b,(s.val e).ownBlock=some b->(w.heap.size<=b/\b<w'.heap.size)/\((∃q,s=.own q/\Qdd e st q b)\/∃k n c,s=.blk k n c/\Qhd e st k b):=by
  intro i R hi
  obtain ⟨s,h1,h2⟩:=hsrc i R hi
  cases s with
  | own q=>
    simp only[Qf6,Qva] at h2
    split at h2
    · rename_i R0 hq
      obtain ⟨v,xs,h3,h4,h5⟩:=F.rows.row q R0 hq
      refine ⟨_,xs,h1,?_,?_,fun b hb=>?_⟩
      · simp only[RSrc.val,h3,Option.getD_some,<-h2.n,<-h2.es];exact h4
      · rw[<-hc];exact h2.els h5
      · simp only[RSrc.val,h3,Option.getD_some] at hb
        have hR:Qdd e st q b:=⟨R0,v,hq,h3,hb⟩
        refine ⟨⟨?_,F.rows.hi q b hR⟩,.inl ⟨q,rfl,hR⟩⟩
        rcases F.rows.lo q b hR with h|h
        · exact h
        · simp at h
    · exact h2.elim
  | blk k n c'=>
    simp only[Qf6,Qva] at h2
    split at h2
    · rename_i cs hk
      obtain ⟨b,xs,h3,h4,h5⟩:=h2.own F hk
      refine ⟨_,xs,h1,?_,by rw[<-hc];exact h5,fun b' hb=>?_⟩
      · simp only[RSrc.val,h3,Option.getD_some];exact h4
      · simp only[RSrc.val,h3,Option.getD_some,Value.ownBlock,Option.some.injEq] at hb
        subst hb
        refine ⟨⟨?_,F.hi k b h3⟩,.inr ⟨k,n,c',rfl,cs,hk,h3⟩⟩
        rcases F.lo k b h3 with h|h
        · exact h
        · simp at h
    · exact h2.elim
  | nil=>
    have h0:R.n=0:=NilLe.n h2
    exact ⟨_,[],h1,⟨by simp[h0],by simp,.inl ⟨rfl,h0⟩⟩,fun j hj=>by omega,fun b hb=>by simp[RSrc.val,Value.ownBlock] at hb⟩
 have hnd:∀(l:List RSrc),ndS l=true->∀(i j:Nat),i<j->∀(s s':RSrc),l[i]? =some s->l[j]? =some s'->(∀q,s=.own q->s'≠.own q)/\(∀k n c,s=.blk k n c->∀n' c',s'≠.blk k n' c'):=by
  have hh:∀(l:List RSrc) (s:RSrc),Q5z l s=false->∀(j:Nat) (s':RSrc),l[j]? =some s'->(∀q,s=.own q->s'≠.own q)/\(∀k n c,s=.blk k n c->∀n' c',s'≠.blk k n' c'):=by
   intro l
   induction l with
   | nil=>intro s _ j s' hj;simp at hj
   | cons t l ih=>
     intro s hs j s' hj
     cases j with
     | zero=>
       simp at hj;subst hj
       cases s<;>cases t<;>simp_all[Q5z]
     | succ j=>
       refine ih s ?_ j s' (by simpa using hj)
       cases s<;>cases t<;>simp_all[Q5z]
  intro l
  induction l with
  | nil=>intro _ i j _ s s' hi;simp at hi
  | cons t l ih=>
    intro hl i j hij s s' hi hj
    simp only[ndS,Bool.and_eq_true,Bool.not_eq_true'] at hl
    obtain ⟨j',rfl⟩:∃j',j=j'+1:=⟨j - 1,by omega⟩
    simp only[List.getElem?_cons_succ] at hj
    cases i with
    | zero=>simp at hi;subst hi;exact hh l t hl.1 j' s' hj
    | succ i=>exact ih hl.2 i j' o9 s s' (by simpa using hi) hj
 refine ⟨v,sel.map (RSrc.val e),rfl,F.blw.below,⟨by simp[hlen],fun i R hi=>?_,fun i j b u u' hi hj hu hu'=>?_⟩,Q3v hc hx hX⟩
 · obtain ⟨s,xs,h1,h2,h3,h4⟩:=key i R hi
   exact ⟨s.val e,xs,by simp[h1],h2,h3,fun b hb=>(h4 b hb).1⟩
 · simp only[List.getElem?_map,Option.map_eq_some_iff] at hi hj
   obtain ⟨s,hs,rfl⟩:=hi
   obtain ⟨s',hs',rfl⟩:=hj
   have hil:i<r.length:=by rw[<-hlen];exact (List.getElem?_eq_some_iff.1 hs).1
   have hjl:j<r.length:=by rw[<-hlen];exact (List.getElem?_eq_some_iff.1 hs').1
   obtain ⟨t,_,h1,_,_,h2⟩:=key i _ (List.getElem?_eq_getElem hil)
   obtain ⟨t',_,h1',_,_,h2'⟩:=key j _ (List.getElem?_eq_getElem hjl)
   rw[hs] at h1;cases h1
   rw[hs'] at h1';cases h1'
   have hd:=hnd sel hn
   have sym:∀(i j:Nat) (s s':RSrc),i<j->sel[i]? =some s->sel[j]? =some s'->(s.val e).ownBlock=some b->(s'.val e).ownBlock=some b->((∃q,s=.own q/\Qdd e st q b)\/∃k n c,s=.blk k n c/\Qhd e st k b)->((∃q,s'=.own q/\Qdd e st q b)\/∃k n c,s'=.blk k n c/\Qhd e st k b)->False:=by
    intro i j s s' hij hs hs' _ _ g1 g2
    have:=hd i j hij s s' hs hs'
    rcases g1 with ⟨q,rfl,g1⟩|⟨k,n,c',rfl,g1⟩<;>rcases g2 with ⟨q',rfl,g2⟩|⟨k',n',c'',rfl,g2⟩
    · have:=F.rows.nd q q' b g1 g2
      subst this
      exact (hd i j hij _ _ hs hs').1 q rfl rfl
    · exact F.rows.no q b g1 k' g2
    · exact F.rows.no q' b g2 k g1
    · obtain ⟨_,_,g3⟩:=g1
      obtain ⟨_,_,g4⟩:=g2
      have:=F.nd k k' b g3 g4
      subst this
      exact (hd i j hij _ _ hs hs').2 k n c' rfl n' c'' rfl
   rcases Nat.lt_trichotomy i j with h|h|h
   · exact (sym i j s s' h hs hs' hu hu' (h2 b hu).2 (h2' b hu').2).elim
   · exact h
   · exact (sym j i s' s h hs' hs hu' hu (h2' b hu').2 (h2 b hu).2).elim
theorem Q8q (hT:TOk P T) {w:World} {Y:Inhabited Exs} {fn:Func} {st:St} {X x:SV} {r:List ORow} {sel:List RSrc} (h:Qul T c st fn.results.toList=some X) (hs:Qaz X x=sel) (hx:Qyo sel X x) (hr:Qtf st sel r) (hn:ndS sel=true):OutOk P (bodyPost P fn (RetR w c x r)) c ⟨w,[]⟩ (.ret st):=
 Q5d hT h fun _ _ _ _ _ hc F hv=>Qgk F hc hv hx hr hn
theorem Q5q (hT:TOk P T) {w:World} {Y:Inhabited Exs} {fn:Func} {st:St} {X x:SV} {r:List ORow} {sel:List RSrc} (h:Qul T c st fn.results.toList=some X) (hs:Qaz X x=sel) (hx:Qyo sel X x) (hr:Qtf st sel r) (hn:ndS sel=true):OutOk P (bodyPost P fn (RetR w c x r)) c ⟨w,[]⟩ (.fin st):=
 Q1i hT h fun _ _ _ _ _ hc F hv=>Qgk F hc hv hx hr hn
def Q88 (S:Nat->Value) (c:R9z):SC->Option Value
 | .rs q=>some (S q)
 | x=>toC c x
def Qtz (S:Nat->Value) (c:R9z):List SC->Option (List Value)
 | []=>some []
 | x::l=>match Q88 S c x,Qtz S c l with
   | some v,some r=>some (v::r)
   | _,_=>none
def Qfba (S:Nat->Value) (c:R9z):SV->Option Value
 | .pt (.one x)=>Q88 S c x
 | .pt (.agg l)=>match Qtz S c l with|some r=>some (.agg r.toArray)|none=>none
 | .tup _=>none
def Qlq (S:Nat->Value) (c:R9z):List SV->Option (List Value)
 | []=>some []
 | x::l=>match Qfba S c x,Qlq S c l with
   | some v,some r=>some (v::r)
   | _,_=>none
theorem Qzr {e:Env} {S:Nat->Value} (hc:e.chi=c) (hS:∀q v,e.sg[q]? =some v->S q=v) {x:SC} {v u:Value} (h:Q88 S c x=some v) (hu:x.is e u):u=v:=by
 unfold Q88 at h
 split at h
 · cases h;exact (hS _ _ hu.1).symm
 · exact Qsz hc h hu
theorem Qcu {e:Env} {S:Nat->Value} (hc:e.chi=c) (hS:∀q v,e.sg[q]? =some v->S q=v):∀{l:List SC} {vs us:List Value},Qtz S c l=some vs->isL e l us->us=vs
 | [],vs,[],h,_=>by simp[Qtz] at h;exact h.symm
 | x::l,vs,u::us,h,hi=>by
   simp only[Qtz] at h
   split at h
   · rename_i v r h1 h2
     cases h
     rw[Qzr hc hS h1 hi.1,Qcu hc hS h2 hi.2]
   · cases h
 | [],_,_::_,_,h=>h.elim
 | _::_,_,[],_,h=>h.elim
theorem Qhi {e:Env} {S:Nat->Value} (hc:e.chi=c) (hS:∀q v,e.sg[q]? =some v->S q=v):∀{l:List SV} {vs us:List Value},Qlq S c l=some vs->isV e l us->us=vs
 | [],vs,[],h,_=>by simp[Qlq] at h;exact h.symm
 | x::l,vs,u::us,h,hi=>by
   simp only[Qlq] at h
   split at h
   · rename_i v r h1 h2
     cases h
     rw[Qhi hc hS h2 hi.2]
     congr 1
     have hi1:=hi.1
     unfold Qfba at h1
     split at h1
     · exact Qzr hc hS h1 hi1
     · split at h1
       · rename_i r' h3
         cases h1
         obtain ⟨ws,rfl,hl⟩:=hi1
         rw[<-Qcu hc hS h3 hl]
       · cases h1
     · cases h1
   · cases h
 | [],_,_::_,_,h=>h.elim
 | _::_,_,[],_,h=>h.elim
def SC.shR (n:Nat):SC->SC
 | .rs q=>.rs (n+q)
 | c=>c
def shL (n:Nat):List SC->List SC
 | []=>[]
 | c::l=>c.shR n::shL n l
def SA.shR (n:Nat):SA->SA
 | .one c=>.one (c.shR n)
 | .agg l=>.agg (shL n l)
def shA (n:Nat):List SA->List SA
 | []=>[]
 | c::l=>c.shR n::shA n l
def SV.shR (n:Nat):SV->SV
 | .pt a=>.pt (a.shR n)
 | .tup l=>.tup (shA n l)
def SC.rsOk:SC->Bool
 | .rs _=>true
 | .int .. | .bool _| .lit _| .val _| .ob _| .xs .. | .any=>true
 | _=>false
def Qz1:List SC->Bool
 | []=>true
 | c::l=>c.rsOk&&Qz1 l
def SA.rsOk:SA->Bool
 | .one c=>c.rsOk
 | .agg l=>Qz1 l
def Qy1:List SA->Bool
 | []=>true
 | c::l=>c.rsOk&&Qy1 l
def SV.rsOk:SV->Bool
 | .pt a=>a.rsOk
 | .tup l=>Qy1 l
def Env.adds (e:Env) (g:List Value):Env:=⟨e.rho,e.chi,e.sg++g⟩
theorem Qs6 (e:Env) (g:List Value):e.To (e.adds g):=⟨fun _ _ h=>h,rfl,fun q u h=>by
 have hlt:q<e.sg.length:=(List.getElem?_eq_some_iff.1 h).1
 simp[Env.adds,List.getElem?_append_left hlt,h]⟩
theorem Qh3 {e:Env} {g:List Value} {x:SC} {v:Value} (hk:x.rsOk=true) (h:x.is ⟨[],e.chi,g⟩ v):(x.shR e.sg.length).is (e.adds g) v:=by
 cases x<;>first|exact h|(simp[SC.rsOk] at hk;done)|skip
 case rs q=>
  refine ⟨?_,h.2⟩
  simp only[Env.adds]
  rw[List.getElem?_append_right o9,Nat.add_sub_cancel_left]
  exact h.1
theorem Qi3 {e:Env} {g:List Value}:∀{x:List SC} {v:List Value},Qz1 x=true->isL ⟨[],e.chi,g⟩ x v->isL (e.adds g) (shL e.sg.length x) v
 | [],[],_,_=>trivial
 | _::_,_::_,hk,h=>by
   simp only[Qz1,Bool.and_eq_true] at hk
   exact ⟨Qh3 hk.1 h.1,Qi3 hk.2 h.2⟩
 | [],_::_,_,h=>h.elim
 | _::_,[],_,h=>h.elim
theorem Qcz {e:Env} {g:List Value} {x:SA} {v:Value} (hk:x.rsOk=true) (h:x.is ⟨[],e.chi,g⟩ v):(x.shR e.sg.length).is (e.adds g) v:=by
 cases x
 · exact Qh3 hk h
 · obtain ⟨vs,rfl,hl⟩:=h;exact ⟨vs,rfl,Qi3 hk hl⟩
theorem Qdz {e:Env} {g:List Value}:∀{x:List SA} {v:List Value},Qy1 x=true->isA ⟨[],e.chi,g⟩ x v->isA (e.adds g) (shA e.sg.length x) v
 | [],[],_,_=>trivial
 | _::_,_::_,hk,h=>by
   simp only[Qy1,Bool.and_eq_true] at hk
   exact ⟨Qcz hk.1 h.1,Qdz hk.2 h.2⟩
 | [],_::_,_,h=>h.elim
 | _::_,[],_,h=>h.elim
theorem Qj3 {e:Env} {g:List Value} {x:SV} {v:Value} (hk:x.rsOk=true) (h:x.is ⟨[],e.chi,g⟩ v):(x.shR e.sg.length).is (e.adds g) v:=by
 cases x
 · exact Qcz hk h
 · obtain ⟨vs,rfl,hl⟩:=h;exact ⟨vs,rfl,Qdz hk hl⟩
def Qjq:List ORow->List (Option ORow)
 | []=>[]
 | R::l=>some R::Qjq l
theorem Qhk:∀l:List ORow,Qjq l=l.map some
 | []=>rfl
 | R::l=>by simp[Qjq,Qhk l]
theorem Fit.adds {e:Env} {st:St} {a:Act} {s:List Act} {w w':World} (F:Fit e w0 st a s w) (hb:Below w.heap.size w w') {g:List Value} {r:List ORow} (hg:RowsAt w' e.chi w.heap.size g r):Fit (e.adds g) w0 { st with r:=st.r++Qjq r } a s w':=by
 have F':=F.later hb
 have hl:=F.rows.len
 have hto:=Qs6 e g
 have hold:∀q b,Qdd (e.adds g) { st with r:=st.r++Qjq r } q b->Qdd e st q b\/(w.heap.size<=b/\b<w'.heap.size/\st.r.length<=q/\∃v,g[q - st.r.length]? =some v/\v.ownBlock=some b):=by
  rintro q b ⟨R,v,h1,h2,h3⟩
  simp only[Env.adds] at h1 h2
  by_cases hq:q<st.r.length
  · rw[List.getElem?_append_left hq] at h1
    rw[List.getElem?_append_left o9] at h2
    exact .inl ⟨R,v,h1,h2,h3⟩
  · rw[List.getElem?_append_right o9] at h1 h2
    rw[hl] at h2
    simp only[Qhk,List.getElem?_map,Option.map_eq_some_iff] at h1
    obtain ⟨R0,h4,h5⟩:=h1
    obtain ⟨v',xs,h6,_,_,h7⟩:=hg.row _ R0 h4
    rw[h2] at h6;cases h6
    obtain ⟨h8,h9⟩:=h7 b h3
    exact .inr ⟨h8,h9,by omega,v,h2,h3⟩
 refine ⟨Qtn hto F'.fr,F'.dfr,Qjp hto F'.tm,F'.blw,F'.lo,F'.hi,F'.nd,F'.len,fun k b cs h1 h2=>?_,F.ext.kept rfl hb.size (fun b h _ _ _=>hb.block b h) (fun k b h=>.inl h) (fun q b h=>?_),F'.pre,?_⟩
 · obtain ⟨vs,t,h3,h4⟩:=F'.cells k b cs h1 h2
   exact ⟨vs,t,h3,Qip hto h4⟩
 · rcases hold q b h with h|⟨h,_⟩
   · exact .inl h
   · exact .inr (.inr h)
 · refine ⟨by simp[Env.adds,Qhk,hl,hg.len],fun q R hq=>?_,fun q b hq=>?_,fun q b hq=>?_,fun q q' b h1 h2=>?_,fun q b hq k hk=>?_⟩
   · simp only at hq
     by_cases hlt:q<st.r.length
     · rw[List.getElem?_append_left hlt] at hq
       obtain ⟨v,xs,h1,h2,h3⟩:=F'.rows.row q R hq
       exact ⟨v,xs,hto.sg q v h1,h2,h3⟩
     · rw[List.getElem?_append_right o9] at hq
       simp only[Qhk,List.getElem?_map,Option.map_eq_some_iff,Option.some.injEq] at hq
       obtain ⟨R0,h4,rfl⟩:=hq
       obtain ⟨v,xs,h6,h7,h8,_⟩:=hg.row _ R0 h4
       refine ⟨v,xs,?_,h7,h8⟩
       simp only[Env.adds]
       rw[List.getElem?_append_right o9,hl];exact h6
   · rcases hold q b hq with h|⟨h,_⟩
     · exact F.rows.lo q b h
     · exact .inl (Nat.le_trans F.blw.size h)
   · rcases hold q b hq with h|⟨_,h,_⟩
     · exact Nat.lt_of_lt_of_le (F.rows.hi q b h) hb.size
     · exact h
   · rcases hold q b h1 with g1|⟨g1,_,g2,v,g3,g4⟩<;>rcases hold q' b h2 with g1'|⟨g1',_,g2',v',g3',g4'⟩
     · exact F.rows.nd q q' b g1 g1'
     · have:=F.rows.hi q b g1;omega
     · have:=F.rows.hi q' b g1';omega
     · have:=hg.nd _ _ b v v' g3 g3' g4 g4';omega
   · rcases hold q b hq with h|⟨h,_⟩
     · exact F.rows.no q b h k hk
     · obtain ⟨cs,_,h4⟩:=hk
       have:=F.hi k b h4;omega
theorem Qoa {f:Nat} {args:List SV} {dst:Option Nat} {k:List Item} {st:St} {vs:(Nat->Value)->List Value} {x:SV} {r:List ORow} (hv:∀S:Nat->Value,Qlq S c args=some (vs S)) (hf:∀(args:Array Value) (w:World),(callFunc f args).run P w=.ok (.enter f args) w)
 (hC:∀(w:World) (S:Nat->Value),KB w0 w->XOk ⟨[],c,[]⟩ ⟨w,[]⟩->(∀q R,nth st.r q=some (some R)->RowIs c w R (S q))->Calls P f (vs S).toArray w (RetR w c x r)) (hk:x.rsOk=true)
 (h:Goes P Q c w0 k (({ st with r:=st.r++Qjq r }:St).put dst (x.shR (Qyn st.r)))):OutOk P Q c w0 (.call f args dst k st):=⟨fun e s a w hc F us hu=>by
 rw[Qhi hc (S:=fun q=>(e.sg[q]?).getD undef) (fun q v hq=>by simp only[hq,Option.getD_some]) (hv _) hu]
 refine ⟨hf _ _,(hC w _ F.blw (F.ext.xok0 hc) fun q R hq=>?_).mono fun en w' ⟨v,g,he,hb,hg,hx⟩=>⟨v,he,?_⟩⟩
 · rw[Qva] at hq
   obtain ⟨v,xs,h1,h2,h3⟩:=F.rows.row q R hq
   simp only[h1,Option.getD_some]
   exact ⟨xs,h2,by rw[<-hc];exact h3,fun b hb=>F.rows.hi q b ⟨R,v,hq,h1,hb⟩⟩
 · subst hc
   have hsh:=Qj3 hk hx
   rw[F.rows.len] at hsh
   rw[Qyd] at h
   exact h.run (e.adds g) s _ _ rfl ((F.adds hb hg).put hsh)⟩
theorem Qbp {f:Nat} {args:List SV} {dst:Option Nat} {k:List Item} {st:St} {vs:(Nat->Value)->List Value} {v:Value} (hv:∀S:Nat->Value,Qlq S c args=some (vs S)) (hf:∀(args:Array Value) (w:World),(callFunc f args).run P w=.ok (.enter f args) w)
 (hC:∀(w:World) (S:Nat->Value),KB w0 w->XOk ⟨[],c,[]⟩ ⟨w,[]⟩->(∀q R,nth st.r q=some (some R)->RowIs c w R (S q))->Calls P f (vs S).toArray w (Ret w v))
 (h:Goes P Q c w0 k (st.put dst (ofR v))):OutOk P Q c w0 (.call f args dst k st):=⟨fun e s a w hc F us hu=>by
 rw[Qhi hc (S:=fun q=>(e.sg[q]?).getD undef) (fun q v hq=>by simp only[hq,Option.getD_some]) (hv _) hu]
 refine ⟨hf _ _,(hC w _ F.blw (F.ext.xok0 hc) fun q R hq=>?_).mono fun en w' ⟨he,hb⟩=>⟨v,he,?_⟩⟩
 · rw[Qva] at hq
   obtain ⟨v,xs,h1,h2,h3⟩:=F.rows.row q R hq
   simp only[h1,Option.getD_some]
   exact ⟨xs,h2,by rw[<-hc];exact h3,fun b hb=>F.rows.hi q b ⟨R,v,hq,h1,hb⟩⟩
 · exact h.run e s _ _ hc ((F.later hb).put (Qkm e v))⟩
theorem Qpt {body:Code} {k:List Item} {st st':St} (hF:∀(e:Env) (s:List Act) (a:Act) (w:World),e.chi=c->Fit e w0 st a s w->∃e':Env,e'.chi=c/\Fit e' w0 st' a s w) (h:OutOk P Q c w0 (.loop body k st')):OutOk P Q c w0 (.loop body k st):=
 ⟨fun e s a w hc F=>by
  obtain ⟨e',h1,h2⟩:=hF e s a w hc F
  exact h.ok e' s a w h1 h2⟩
def Q76 (st:St) (es:Nat):SV->Option (ORow×Option Nat)
 | .pt (.one (.val (.slice none 0 0)))=>some (⟨0,es,fun _=>[]⟩,none)
 | .pt (.one (.sl k 0 n c))=>match nth st.h k with
   | some (some cs)=>if n=c then (if c<=1073741824 then (if c * es<=cs.length then (if Qsk cs&&Qei cs then some (⟨n,es,fun j=>Qte cs (j * es) es⟩,some k) else none) else none) else none) else none
   | _=>none
 | _=>none
def St.rowed (st:St) (i es:Nat):Option St:=match nth st.t i with
 | some x=>match Q76 st es x with
   | some (R,lost)=>some ((st.row (Qyn st.r) R lost).put (some i) (.pt (.one (.rs (Qyn st.r)))))
   | none=>none
 | none=>none
theorem Fit.slot {e:Env} {st:St} {a:Act} {s:List Act} {w:World} (F:Fit e w0 st a s w) {i:Nat} {x:SV} {v:Value} (hv:a.tmps[i]? =some v) (hx:x.is e v):Fit e w0 (st.put (some i) x) a s w:=by
 have:=F.put (d:=some i) hx
 have e2:a.put (some i) v=a:=by
  obtain ⟨tm,df⟩:=a
  simp only[Act.put] at hv⊢
  congr 1
  apply Array.ext_getElem?
  intro j
  rw[Array.getElem?_setIfInBounds]
  split
  · rename_i hj;subst hj
    split
    · exact hv.symm
    · rename_i hlt;rw[Array.getElem?_eq_none o9]
  · rfl
 rw[e2] at this
 exact this
theorem Qew {e:Env} {st st':St} {a:Act} {s:List Act} {w:World} (F:Fit e w0 st a s w) (i es:Nat) (h:st.rowed i es=some st'):∃e':Env,e'.chi=e.chi/\Fit e' w0 st' a s w:=by
 unfold St.rowed at h
 split at h
 · rename_i x hx
   split at h
   · rename_i R lost hR
     cases h
     rw[Qva] at hx
     obtain ⟨v,hv,hxv⟩:=Qce F.tm hx
     have hv':a.tmps[i]? =some v:=by simpa using hv
     have hrow:Qqv e st w st.r.length R (.pt (.one (.rs st.r.length))) lost v w:=by
      unfold Q76 at hR
      split at hR
      · simp only[Option.some.injEq,Prod.mk.injEq] at hR
        obtain ⟨rfl,rfl⟩:=hR
        have hxv:v=.slice none 0 0:=hxv
        subst hxv
        refine ⟨.slice none 0 0,[],none,?_,⟨by simp,by simp,.inl ⟨rfl,rfl⟩⟩,fun j hj=>by simp at hj,⟨rfl,rfl,rfl,Nat.le_refl _,fun _ _ _=>rfl⟩,fun g hg=>(by cases hg),fun g hg=>(by simp[Value.ownBlock] at hg),Nat.le_refl _,fun h=>absurd h (Nat.lt_irrefl _)⟩
        rw[if_neg (Nat.lt_irrefl _)]
        exact ⟨by simp[Env.addS,<-F.rows.len],rfl⟩
      · rename_i k n c'
        split at hR
        · rename_i cs hk
          split at hR
          · rename_i hnc
            split at hR
            · rename_i hcb
              split at hR
              · rename_i hle
                split at hR
                · rename_i hfs
                  simp only[Option.some.injEq,Prod.mk.injEq] at hR
                  obtain ⟨rfl,rfl⟩:=hR
                  rw[Qva] at hk
                  simp only[Bool.and_eq_true] at hfs
                  have hB:BlkLe cs n c' ⟨n,es,fun j=>Qte cs (j * es) es⟩:=⟨rfl,by omega,hcb,hle,hfs.1,hfs.2,fun j _=>by
                   have:∀l:List SC,Qbc l l:=by
                    intro l
                    induction l with
                    | nil=>trivial
                    | cons c l ih=>exact ⟨by cases c<;>simp[Qre],ih⟩
                   exact this _⟩
                  obtain ⟨b,xs,h1,h2,h3⟩:=hB.own F hk
                  obtain ⟨b',h4,rfl⟩:=hxv
                  rw[h1] at h4;cases h4
                  have hH:Qhd e st k b:=⟨cs,hk,h1⟩
                  refine ⟨_,xs,none,?_,h2,h3,⟨rfl,rfl,rfl,Nat.le_refl _,fun _ _ _=>rfl⟩,fun g hg=>(by cases hg),fun g hg=>?_,Nat.le_refl _,fun h=>absurd h (Nat.lt_irrefl _)⟩
                  · rw[if_neg (Nat.lt_irrefl _)]
                    exact ⟨by simp[Env.addS,<-F.rows.len],rfl⟩
                  · simp only[Value.ownBlock,Option.some.injEq] at hg
                    subst hg
                    exact ⟨F.hi k b h1,.inr (.inr ⟨k,rfl,hH⟩)⟩
                · cases hR
              · cases hR
            · cases hR
          · cases hR
        · cases hR
      · cases hR
     obtain ⟨e',h1,h2,h3⟩:=F.rowed hrow
     rw[Qyd]
     exact ⟨e',h1,h3.slot hv' h2⟩
   · cases h
 · cases h
theorem Qud (i es:Nat) {body:Code} {k:List Item} {st st':St} (h:st.rowed i es=some st') (hg:OutOk P Q c w0 (.loop body k st')):OutOk P Q c w0 (.loop body k st):=
 Qpt (fun e s a w hc F=>let ⟨e',h1,h2⟩:=Qew F i es h;⟨e',h1.trans hc,h2⟩) hg
theorem Q4c {ob:Prop} {k:List Item} {st:St} (h:ob) (hg:Goes P Q c w0 k st):OutOk P Q c w0 (.row ob k st):=⟨h,hg⟩
theorem Qpa:∀l:List SC,Qbc l l
 | []=>trivial
 | c::l=>⟨by cases c<;>simp[Qre],Qpa l⟩
theorem RowLe.rfl' (R:ORow):RowLe R R:=⟨rfl,rfl,fun _ _=>Qpa _⟩
theorem Q0a {n n' es:Nat} {f g:Nat->List SC} (hn:n=n') (h:∀j,j<n->Qbc (f j) (g j)):RowLe ⟨n,es,f⟩ ⟨n',es,g⟩:=⟨hn,rfl,h⟩
theorem Q7a {pl:Nat->Nat->Nat} {jn:Nat->(Nat->List SC)->(Nat->List SC)->Nat->List SC} (hpl:pl=fun x y=>x+y) (hjn:jn=rJn) {n n' es:Nat} {f g h:Nat->List SC} (hn:n'=n+1) (h1:∀j,j<n->Qbc (f j) (h j)) (h2:Qbc (g 0) (h n)):RowLe ⟨pl n 1,es,jn n f g⟩ ⟨n',es,h⟩:=by
 subst hpl hjn hn
 refine ⟨rfl,rfl,fun j hj=>?_⟩
 have hj:j<n+1:=hj
 simp only[rJn]
 split
 · rename_i hlt;exact h1 j hlt
 · rename_i hlt
   have:j=n:=by omega
   subst this
   rw[Nat.sub_self];exact h2
theorem Qad {up:(Nat->List SC)->Nat->Nat->List SC->Nat->List SC} (hup:up=rUp) {n n' es i o:Nat} {f h:Nat->List SC} {l:List SC} (hn:n=n') (h1:∀j,j<n->j≠i->Qbc (f j) (h j)) (h2:i<n->Qbc (Qka (f i) o l) (h i)):RowLe ⟨n,es,up f i o l⟩ ⟨n',es,h⟩:=by
 subst hup hn
 refine ⟨rfl,rfl,fun j hj=>?_⟩
 simp only[rUp]
 split
 · rename_i hji;subst hji;exact h2 hj
 · rename_i hji;exact h1 j hj hji
theorem Qx1 {mi:Nat->Nat->Nat} {dp:Nat->(Nat->List SC)->Nat->List SC} (hmi:mi=fun x y=>x - y) (hdp:dp=rDp) {n l n' es:Nat} {f h:Nat->List SC} (hn:n'=n - l) (h1:∀j,j<n - l->Qbc (f (j+l)) (h j)):RowLe ⟨mi n l,es,dp l f⟩ ⟨n',es,h⟩:=by
 subst hmi hdp hn
 exact ⟨rfl,rfl,fun j hj=>h1 j hj⟩
end
def Qxt:SC->Bool
 | .int .. | .bool _| .lit _| .val _| .ob _=>true
 | _=>false
def Qob:List SC->Bool
 | []=>true
 | c::l=>Qxt c&&Qob l
theorem Qqy {e e':Env} {c:SC} {v:Value} (h:Qxt c=true) (hi:c.is e v):c.is e' v:=by
 cases c<;>first|exact hi|(simp[Qxt] at h)
theorem Q2b {e e':Env}:∀{l:List SC} {vs:List Value},Qob l=true->isL e l vs->isL e' l vs
 | [],[],_,_=>trivial
 | c::l,v::vs,h,hi=>by
   simp only[Qob,Bool.and_eq_true] at h
   exact ⟨Qqy h.1 hi.1,Q2b h.2 hi.2⟩
 | [],_::_,_,h=>h.elim
 | _::_,[],_,h=>h.elim
theorem RowIs.form {c:R9z} {w:World} {R:ORow} {v:Value} (h:RowIs c w R v):∃a n,v=.slice a R.n n:=by
 obtain ⟨xs,hO,_⟩:=h;exact hO.form
theorem RowIs.row {c c':R9z} {w:World} {R:ORow} {a:Option Addr} {cap:Nat} (h:RowIs c w R (.slice a R.n cap)) (hp:∀j,j<R.n->Qob (R.el j)=true) {j:Nat} (hj:j<R.n):
 ∃b p,a=some ⟨b,p,none⟩/\b<w.heap.size/\∃vs,isL ⟨[],c',[]⟩ (R.el j) vs/\∀(t:Nat) (v:Value),vs[t]? =some v->w.cell? ⟨b,p+(j * R.es+t),none⟩=some v:=by
 obtain ⟨xs,hO,hE,hb⟩:=h
 rcases hO.2.2 with ⟨_,h0⟩|⟨g,o,cap',cur,ty,hv,hg,rest⟩
 · omega
 · cases hv
   refine ⟨g,o,rfl,hb g rfl,_,Q2b (hp j hj) (hE j hj),fun t v ht=>?_⟩
   simp only[List.getElem?_take,List.getElem?_drop] at ht
   split at ht
   · exact hO.cell ht
   · cases ht
end Go.Proofs.Ytemnfncbgalljab
