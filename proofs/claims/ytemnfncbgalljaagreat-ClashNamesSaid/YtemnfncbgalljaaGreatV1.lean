/- Lemmas. No condition. -/
import Derived.Test.YtemnfncbgalljaaGreatX1
import Derived.Maps.Keyed
import Derived.Maps.RangeRun
namespace Go.Proofs.YtemnfncbgalljaaGreat
open Go.RowKit
set_option linter.all false
def ExRow (E:O9z) (es:Nat) (v:Value) (n:Nat) (xs:List Value):Prop:=
 xs.length=n * es/\(∀u∈xs,u.oneCell'=true)/\
 ((v=.slice none 0 0/\n=0)\/∃g o cap cur ty,v=.slice (some ⟨g,o,none⟩) n cap/\E g=some (.cells cur ty (0,0))/\n<=cap/\cap<=maxLen/\o+cap * es<=cur.size/\(cur.toList.drop o).take (n * es)=xs)
theorem ExRow.nil (E:O9z) (es:Nat):ExRow E es (.slice none 0 0) 0 []:=⟨by simp,by simp,.inl ⟨rfl,rfl⟩⟩
theorem ExRow.own {E:O9z} {w:World} {es n:Nat} {v:Value} {xs:List Value} (h:ExRow E es v n xs) (hE:∀b o,v.ownBlock=some b->E b=some o->w.heap[b]? =some o):OwnR w es v n xs:=by
 obtain ⟨h1,h2,h3⟩:=h
 refine ⟨h1,h2,?_⟩
 rcases h3 with h3|⟨g,o,cap,cur,ty,rfl,h4,h5⟩
 · exact .inl h3
 · exact .inr ⟨g,o,cap,cur,ty,rfl,hE g _ rfl h4,h5⟩
theorem ExRow.to {E E':O9z} {es n:Nat} {v:Value} {xs:List Value} (h:ExRow E es v n xs) (hE:∀b,v.ownBlock=some b->E' b=E b):ExRow E' es v n xs:=by
 obtain ⟨h1,h2,h3⟩:=h
 refine ⟨h1,h2,?_⟩
 rcases h3 with h3|⟨g,o,cap,cur,ty,rfl,h4,h5⟩
 · exact .inl h3
 · exact .inr ⟨g,o,cap,cur,ty,rfl,(hE g rfl).trans h4,h5⟩
theorem ExRow.some {E:O9z} {es n:Nat} {v:Value} {xs:List Value} (h:ExRow E es v n xs) {b:Nat} (hb:v.ownBlock=some b):∃cur ty,E b=some (.cells cur ty (0,0)):=by
 rcases h.2.2 with ⟨rfl,_⟩|⟨g,o,cap,cur,ty,rfl,h4,_⟩
 · cases hb
 · cases hb;exact ⟨cur,ty,h4⟩
theorem ExRow.form {E:O9z} {es n:Nat} {v:Value} {xs:List Value} (h:ExRow E es v n xs):∃a c,v=.slice a n c:=by
 rcases h.2.2 with ⟨rfl,rfl⟩|⟨g,o,cap,cur,ty,rfl,_⟩
 · exact ⟨_,_,rfl⟩
 · exact ⟨_,_,rfl⟩
theorem ExRow.one {E:O9z} {es n:Nat} {v:Value} {xs:List Value} (h:ExRow E es v n xs):v.oneCell'=true:=by
 obtain ⟨a,c,rfl⟩:=h.form;rfl
section
variable {P:Program} {Q:E9z} {c:R9z} {w:World} {X:Inhabited Exs} {E:O9z}
theorem Fit.rebase {e:Env} {st:St} {a:Act} {s:List Act} {w1:World} (F:Fit e (@Base.mk w [] X) st a s w1) (hE:∀b o,E b=some o->w.heap.size<=b/\w1.heap[b]? =some o/\(∀k,¬Qhd e st k b)/\(∀q,¬Qdd e st q b))
 (hx:∀q i j b p,j<(e.chi q i).n->(e.chi q i).a=some ⟨b,p,none⟩->E b=none):Fit e (@Base.mk w [] ⟨⟨E⟩⟩) st a s w1:=
 ⟨F.fr,F.dfr,F.tm,⟨F.blw.os,F.blw.tape,F.blw.output,F.blw.size,F.blw.block⟩,F.lo,F.hi,F.nd,F.len,F.cells,
  ⟨F.ext.ok,fun b o h=>let ⟨h1,h2,h3,h4⟩:=hE b o h;⟨h1,by simp,h2,h3,h4⟩,hx⟩,F.pre,⟨F.rows.len,F.rows.row,F.rows.lo,F.rows.hi,F.rows.nd,F.rows.no⟩⟩
theorem Fit.less {e:Env} {st:St} {a:Act} {s:List Act} {w1:World} (F:Fit e (@Base.mk w [] X) st a s w1) (hE:∀b o,E b=some o->(@Base.mk w [] X).ex b=some o):Fit e (@Base.mk w [] ⟨⟨E⟩⟩) st a s w1:=
 F.rebase (fun b o h=>let ⟨h1,_,h3,h4,h5⟩:=F.ext.ex b o (hE b o h);⟨h1,h3,h4,h5⟩) fun q i j b p hj ha=>by
  cases h:E b with
  | none=>rfl
  | some o=>have:=F.ext.exx q i j b p hj ha;rw[hE b o h] at this;cases this
theorem Que {k:List Item} {st:St} (E:O9z) (hE:∀b o,E b=some o->(@Base.mk w [] X).ex b=some o) (h:Goes P Q c (@Base.mk w [] ⟨⟨E⟩⟩) k st):Goes P Q c (@Base.mk w [] X) k st:=⟨fun e s a w1 hc F=>h.run e s a w1 hc (F.less hE)⟩
theorem Qnw (q:Nat) {R:ORow} {k:List Item} {st:St} (hq:nth st.r q=some (some R))
 (h:∀(ad:Option Addr) (cap:Nat) (xs:List Value) (E:O9z),(∀b,(Value.slice ad R.n cap).ownBlock≠some b->E b=(@Base.mk w [] X).ex b)->(∀b,(Value.slice ad R.n cap).ownBlock=some b->w.heap.size<=b/\(@Base.mk w [] X).ex b=none)->ExRow E R.es (.slice ad R.n cap) R.n xs->Q3c c R xs->Goes P Q c (@Base.mk w [] ⟨⟨E⟩⟩) k (st.frz q (.slice ad R.n cap))):Goes P Q c (@Base.mk w [] X) k st:=⟨fun e s a w1 hc F=>by
 subst hc
 rw[Qva] at hq
 obtain ⟨v,xs,hv,ho,hx⟩:=F.rows.row q R hq
 obtain ⟨F',hF'⟩:=F.frz hq hv
 obtain ⟨ad,cap,hform⟩:=ho.form
 have hlo:∀b,v.ownBlock=some b->w.heap.size<=b/\(@Base.mk w [] X).ex b=none:=fun b hb=>by
  have hR:Qdd e st q b:=⟨R,v,hq,hv,hb⟩
  refine ⟨?_,?_⟩
  · rcases F.rows.lo q b hR with h|h
    · exact h
    · simp at h
  · cases hx:(@Base.mk w [] X).ex b with
    | none=>rfl
    | some o=>exact absurd hR ((F.ext.ex b o hx).2.2.2.2 q)
 subst hform
 refine (h ad cap xs (fun b=>if (Value.slice ad R.n cap).ownBlock=some b then w1.heap[b]? else (@Base.mk w [] X).ex b) (fun b hb=>by simp[hb]) hlo ?_ hx).run e s a w1 rfl (F'.rebase (fun b o hb=>?_) fun q' i j b p hj ha=>?_)
 · obtain ⟨h1,h2,h3⟩:=ho
   refine ⟨h1,h2,?_⟩
   rcases h3 with h3|⟨g,o,cap',cur,ty,hv',h4,h5⟩
   · exact .inl h3
   · exact .inr ⟨g,o,cap',cur,ty,hv',by rw[hv'];simp only[Value.ownBlock,if_true];exact h4,h5⟩
 · try simp only at hb
   split at hb
   · rename_i g
     exact ⟨(hlo b g).1,hb,(hF' b g).1,(hF' b g).2⟩
   · obtain ⟨h1,_,h3,h4,h5⟩:=F'.ext.ex b o hb
     exact ⟨h1,h3,h4,h5⟩
 · have g:¬(Value.slice ad R.n cap).ownBlock=some b:=fun g=>by
    obtain ⟨b',p',f1,f2,f3,f4,f5,_⟩:=F.ext.ok q' i j hj
    rw[ha] at f1;cases f1
    exact f5 q ⟨R,_,hq,hv,g⟩
   simp only[if_neg g]
   exact F'.ext.exx q' i j b p hj ha⟩
def Qgz:List Nat->Nat->List SV->List SV
 | [],_,t=>t
 | i::l,q,t=>Qgz l q (Q0b t i (.pt (.one (.rs q))))
def Qhz (v:Value) (t:List SV):List Nat->Prop
 | []=>True
 | i::l=>(nth t i=some (.pt (.one (.ob v)))\/nth t i=some (.pt (.one (.val v))))/\Qhz v t l
theorem Q54 (is:List Nat) {k:List Item} {st:St} {v:Value} {n es:Nat} {xs:List Value} (el:Nat->List SC) (hrow:ExRow (@Base.mk w [] X).ex es v n xs) (hels:Q3c c ⟨n,es,el⟩ xs) (his:Qhz v st.t is)
 (h:∀E:O9z,(∀b,v.ownBlock≠some b->E b=(@Base.mk w [] X).ex b)->(∀b,v.ownBlock=some b->E b=none)->Goes P Q c (@Base.mk w [] ⟨⟨E⟩⟩) k ⟨Qgz is (Qyn st.r) st.t,st.h,st.fr,st.r++[some ⟨n,es,el⟩]⟩):Goes P Q c (@Base.mk w [] X) k st:=⟨fun e s a w1 hc F=>by
 subst hc
 have hl:=F.rows.len
 have hto:=Qvz e v
 have hown:OwnR w1 es v n xs:=hrow.own fun b o _ hb=>(F.ext.ex b o hb).2.2.1
 have hblk:∀b,v.ownBlock=some b->∃o,(@Base.mk w [] X).ex b=some o:=fun b hb=>by
  obtain ⟨cur,ty,g⟩:=hrow.some hb;exact ⟨_,g⟩
 have hold:∀q b,Qdd (e.addS v) { st with r:=st.r++[some ⟨n,es,el⟩] } q b->Qdd e st q b\/(q=st.r.length/\v.ownBlock=some b):=by
  rintro q b ⟨R,u,h1,h2,h3⟩
  simp only[Env.addS] at h1 h2
  by_cases hq:q<st.r.length
  · rw[List.getElem?_append_left hq] at h1
    rw[List.getElem?_append_left o9] at h2
    exact .inl ⟨R,u,h1,h2,h3⟩
  · rw[List.getElem?_append_right o9] at h1 h2
    have hz:q - st.r.length=0:=by
     have:=(List.getElem?_eq_some_iff.1 h1).1
     simp at this;omega
    rw[hl,hz] at h2
    simp at h2
    subst h2
    exact .inr ⟨by omega,h3⟩
 have F1:Fit (e.addS v) (@Base.mk w [] ⟨⟨fun b=>if v.ownBlock=some b then none else (@Base.mk w [] X).ex b⟩⟩) { st with r:=st.r++[some ⟨n,es,el⟩] } a s w1:=by
  refine ⟨Qtn hto F.fr,F.dfr,Qjp hto F.tm,⟨F.blw.os,F.blw.tape,F.blw.output,F.blw.size,F.blw.block⟩,F.lo,F.hi,F.nd,F.len,fun k b cs h1 h2=>?_,⟨fun q i j hj=>?_,fun b o hb=>?_,fun q i j b p hj ha=>?_⟩,F.pre,?_⟩
  · obtain ⟨vs,t,h3,h4⟩:=F.cells k b cs h1 h2
    exact ⟨vs,t,h3,Qip hto h4⟩
  · obtain ⟨b,p,f1,f2,f3,f4,f5,vs,f6,f7⟩:=F.ext.ok q i j hj
    refine ⟨b,p,f1,f2,f3,f4,fun q' hq'=>?_,vs,f6,f7⟩
    rcases hold q' b hq' with g|⟨_,g⟩
    · exact f5 q' g
    · obtain ⟨o,ho⟩:=hblk b g
      have:=F.ext.exx q i j b p hj f1
      rw[ho] at this;cases this
  · have hb':(if v.ownBlock=some b then none else (@Base.mk w [] X).ex b)=some o:=hb
    split at hb'
    · cases hb'
    · rename_i g
      obtain ⟨f1,f2,f3,f4,f5⟩:=F.ext.ex b o hb'
      refine ⟨f1,f2,f3,f4,fun q hq=>?_⟩
      rcases hold q b hq with g'|⟨_,g'⟩
      · exact f5 q g'
      · exact g g'
  · show (if v.ownBlock=some b then none else (@Base.mk w [] X).ex b)=none
    split
    · rfl
    · exact F.ext.exx q i j b p hj ha
  · refine ⟨by simp[Env.addS,hl],fun q R hq=>?_,fun q b hq=>?_,fun q b hq=>?_,fun q q' b h1 h2=>?_,fun q b hq k hk=>?_⟩
    · simp only at hq
      by_cases hlt:q<st.r.length
      · rw[List.getElem?_append_left hlt] at hq
        obtain ⟨u,ys,h1,h2,h3⟩:=F.rows.row q R hq
        exact ⟨u,ys,hto.sg q u h1,h2,h3⟩
      · rw[List.getElem?_append_right o9] at hq
        have hz:q - st.r.length=0:=by
         have:=(List.getElem?_eq_some_iff.1 hq).1
         simp at this;omega
        rw[hz] at hq
        simp at hq
        subst hq
        refine ⟨v,xs,?_,hown,hels⟩
        simp only[Env.addS]
        rw[List.getElem?_append_right o9,hl,hz];rfl
    · rcases hold q b hq with g|⟨_,g⟩
      · exact F.rows.lo q b g
      · obtain ⟨o,ho⟩:=hblk b g
        exact .inl (F.ext.ex b o ho).1
    · rcases hold q b hq with g|⟨_,g⟩
      · exact F.rows.hi q b g
      · obtain ⟨o,ho⟩:=hblk b g
        exact (Array.getElem?_eq_some_iff.1 (F.ext.ex b o ho).2.2.1).1
    · rcases hold q b h1 with g1|⟨g1,g2⟩<;>rcases hold q' b h2 with g1'|⟨g1',g2'⟩
      · exact F.rows.nd q q' b g1 g1'
      · obtain ⟨o,ho⟩:=hblk b g2'
        exact absurd g1 ((F.ext.ex b o ho).2.2.2.2 q)
      · obtain ⟨o,ho⟩:=hblk b g2
        exact absurd g1' ((F.ext.ex b o ho).2.2.2.2 q')
      · omega
    · rcases hold q b hq with g|⟨_,g⟩
      · exact F.rows.no q b g k hk
      · obtain ⟨o,ho⟩:=hblk b g
        exact (F.ext.ex b o ho).2.2.2.1 k hk
 have F2:∀(is:List Nat) (t:List SV),Qhz v st.t is->Fit (e.addS v) (@Base.mk w [] ⟨⟨fun b=>if v.ownBlock=some b then none else (@Base.mk w [] X).ex b⟩⟩) ⟨t,st.h,st.fr,st.r++[some ⟨n,es,el⟩]⟩ a s w1->Fit (e.addS v) (@Base.mk w [] ⟨⟨fun b=>if v.ownBlock=some b then none else (@Base.mk w [] X).ex b⟩⟩) ⟨Qgz is (Qyn st.r) t,st.h,st.fr,st.r++[some ⟨n,es,el⟩]⟩ a s w1:=by
  intro is
  induction is with
  | nil=>intro t _ G;exact G
  | cons i l ih=>
    intro t hi G
    refine ih _ hi.2 ?_
    have h1:=hi.1
    rw[Qva] at h1
    obtain ⟨u,hu,hx⟩:∃u,a.tmps.toList[i]? =some u/\u=v:=by
     rcases h1 with h1|h1
     · obtain ⟨u,hu,hx⟩:=Qce F.tm h1;exact ⟨u,hu,hx⟩
     · obtain ⟨u,hu,hx⟩:=Qce F.tm h1;exact ⟨u,hu,hx⟩
    subst hx
    have hu':a.tmps[i]? =some u:=by simpa using hu
    exact G.slot hu' (x:=.pt (.one (.rs (Qyn st.r)))) (SV.rs_is (by simp only[Env.addS,Qyd];rw[List.getElem?_append_right o9,hl];simp) hrow.one)
 exact (h (fun b=>if v.ownBlock=some b then none else (@Base.mk w [] X).ex b) (fun b hb=>by simp[hb]) (fun b hb=>by simp[hb])).run (e.addS v) s a w1 rfl (F2 is st.t his F1)⟩
structure ExStep (lo:Nat) (E:O9z) (w1:World) (E':O9z) (w2:World):Prop where
 os:w2.os=w1.os
 tape:w2.tape=w1.tape
 output:w2.output=w1.output
 size:w1.heap.size<=w2.heap.size
 keep:∀b,b<w1.heap.size->E b=none->w2.heap[b]? =w1.heap[b]?
 there:∀b o,E' b=some o->lo<=b/\w2.heap[b]? =some o/\(E b≠none\/w1.heap.size<=b)
theorem Fit.exstep {e:Env} {st:St} {a:Act} {s:List Act} {w1 w2:World} (F:Fit e (@Base.mk w [] X) st a s w1) (h:ExStep w.heap.size (@Base.mk w [] X).ex w1 E w2):Fit e (@Base.mk w [] ⟨⟨E⟩⟩) st a s w2:=by
 have hH:∀k b,Qhd e st k b->(@Base.mk w [] X).ex b=none:=fun k b hk=>by
  cases hx:(@Base.mk w [] X).ex b with
  | none=>rfl
  | some o=>exact absurd hk ((F.ext.ex b o hx).2.2.2.1 k)
 have hR:∀q b,Qdd e st q b->(@Base.mk w [] X).ex b=none:=fun q b hq=>by
  cases hx:(@Base.mk w [] X).ex b with
  | none=>rfl
  | some o=>exact absurd hq ((F.ext.ex b o hx).2.2.2.2 q)
 have hHi:∀k b,Qhd e st k b->b<w1.heap.size:=fun k b ⟨_,_,h2⟩=>F.hi k b h2
 refine ⟨F.fr,F.dfr,F.tm,⟨h.os.trans F.blw.os,h.tape.trans F.blw.tape,h.output.trans F.blw.output,Nat.le_trans F.blw.size h.size,fun k hk hm=>?_⟩,F.lo,fun k b hb=>Nat.lt_of_lt_of_le (F.hi k b hb) h.size,F.nd,F.len,fun k b cs h1 h2=>?_,⟨fun q i j hj=>?_,fun b o hb=>?_,fun q i j b p hj ha=>?_⟩,F.pre,
  ⟨F.rows.len,fun q R hq=>?_,F.rows.lo,fun q b hq=>Nat.lt_of_lt_of_le (F.rows.hi q b hq) h.size,F.rows.nd,F.rows.no⟩⟩
 · have:(@Base.mk w [] X).ex k=none:=by
    cases hx:(@Base.mk w [] X).ex k with
    | none=>rfl
    | some o=>
      have:=(F.ext.ex k o hx).1
      have hk:k<w.heap.size:=hk
      have this:w.heap.size<=k:=this
      omega
   exact (h.keep k (Nat.lt_of_lt_of_le hk F.blw.size) this).trans (F.blw.block k hk hm)
 · obtain ⟨vs,t,h3,h4⟩:=F.cells k b cs h1 h2
   exact ⟨vs,t,(h.keep b (F.hi k b h1) (hH k b ⟨cs,h2,h1⟩)).trans h3,h4⟩
 · obtain ⟨b,p,f1,f2,f3,f4,f5,vs,f6,f7⟩:=F.ext.ok q i j hj
   refine ⟨b,p,f1,Nat.lt_of_lt_of_le f2 h.size,f3,f4,f5,vs,f6,fun t v ht=>?_⟩
   rw[World.cell?_of_block (w:=w1) (h.keep b f2 (F.ext.exx q i j b p hj f1))]
   exact f7 t v ht
 · obtain ⟨g1,g2,g3⟩:=h.there b o hb
   refine ⟨g1,by simp,g2,fun k hk=>?_,fun q hq=>?_⟩
   · rcases g3 with g3|g3
     · exact g3 (hH k b hk)
     · have:=hHi k b hk;omega
   · rcases g3 with g3|g3
     · exact g3 (hR q b hq)
     · have:=F.rows.hi q b hq;omega
 · obtain ⟨b',p',f1,f2,_⟩:=F.ext.ok q i j hj
   rw[ha] at f1;cases f1
   have hn:=F.ext.exx q i j b p hj ha
   show E b=none
   cases hx:E b with
   | none=>rfl
   | some o=>
     rcases (h.there b o hx).2.2 with g|g
     · exact absurd hn g
     · omega
 · obtain ⟨v,xs,g1,g2,g3⟩:=F.rows.row q R hq
   exact ⟨v,xs,g1,g2.kept fun b hv=>h.keep b (F.rows.hi q b ⟨R,v,hq,g1,hv⟩) (hR q b ⟨R,v,hq,g1,hv⟩),g3⟩
theorem Qdn {α:Type} (x:α->SV) (E':α->Nat->Option Obj) (R:α->Prop) {o:Oper} {all:Array Oper} {rest:List Oper} {k:List Item} {st:St} (hg:o.guard=none)
 (hop:∀(e:Env) (s:List Act) (a:Act) (w1:World),e.chi=c->Fit e (@Base.mk w [] X) st a s w1->∃(A:α) (v:Value) (w2:World),R A/\(x A).is e v/\(execOp a.eval o).run P w1=.ok (.value v) w2/\ExStep w.heap.size (@Base.mk w [] X).ex w1 (E' A) w2)
 (h:∀A,R A->Goes P Q c (@Base.mk w [] ⟨⟨E' A⟩⟩) (.ops all rest::k) (st.put o.dst (x A))):OutOk P Q c (@Base.mk w [] X) (.man o all rest k st):=⟨fun e s a w1 hc F=>by
 obtain ⟨A,v,w2,h1,h2,h3,h4⟩:=hop e s a w1 hc F
 show wpList P all (KQ P Q c k s) (o::rest) a w1
 refine Quc hg ?_
 unfold Oper.wp
 rw[h3,Oper.upon_value]
 exact (h A h1).run e s _ _ hc ((F.exstep h4).put h2)⟩
theorem Q24 {α:Type} (E':α->Nat->Option Obj) (R:α->Prop) {o:Oper} {all:Array Oper} {rest:List Oper} {k:List Item} {st:St} (hg:o.guard=none)
 (hop:∀(e:Env) (s:List Act) (a:Act) (w1:World),e.chi=c->Fit e (@Base.mk w [] X) st a s w1->∃(A:α) (w2:World),R A/\(execOp a.eval o).run P w1=.ok .skip w2/\ExStep w.heap.size (@Base.mk w [] X).ex w1 (E' A) w2)
 (h:∀A,R A->Goes P Q c (@Base.mk w [] ⟨⟨E' A⟩⟩) (.ops all rest::k) (st.put o.dst undefS)):OutOk P Q c (@Base.mk w [] X) (.man o all rest k st):=⟨fun e s a w1 hc F=>by
 obtain ⟨A,w2,h1,h3,h4⟩:=hop e s a w1 hc F
 show wpList P all (KQ P Q c k s) (o::rest) a w1
 refine Quc hg ?_
 unfold Oper.wp
 rw[h3,Oper.upon_skip]
 exact (h A h1).run e s _ _ hc ((F.exstep h4).put trivial)⟩
theorem Qjg {o:Oper} {all:Array Oper} {rest:List Oper} {w0:Base} {k:List Item} {st:St} (h:Goes P Q c w0 (.ops all (o::rest)::k) st):OutOk P Q c w0 (.man o all rest k st):=⟨fun e s a w1 hc F=>h.run e s a w1 hc F⟩
def Q46 {σ:Type} (C:σ->Nat->Nat->Row) (w:World) (E:σ->Nat->Option Obj) (inv:σ->St) (μ:σ->Nat) (m:Nat) (s:List Act) (a:Act) (w1:World):Prop:=∃y:σ,μ y<m/\∃e:Env,e.chi=C y/\Fit e (@Base.mk w [] ⟨⟨E y⟩⟩) (inv y) a s w1
theorem Q9e {σ:Type} (C:σ->Nat->Nat->Row) (E:σ->Nat->Option Obj) (ws:List Nat) (ups:σ->List (Nat×SV)) (hups:σ->List (Nat×List SC)) (rups:σ->List (Nat×ORow)) (μ:σ->Nat) (x0:σ) {body:Code} {k:List Item} {st:St} (hc0:c=C x0) (hE0:∀b o,E x0 b=some o->(@Base.mk w [] X).ex b=some o) (hk:noA k=true) (h0:Le st (st.lay ws (ups x0) (hups x0) (rups x0))) (hb:(st.lay ws (ups x0) (hups x0) (rups x0)).bnd=true)
 (hr:∀(x:σ) (m:Nat),m=μ x->Goes P Q (C x) (@Base.mk w [] ⟨⟨E x⟩⟩) (.code body::.stop (Q46 C w E (fun x=>st.lay ws (ups x) (hups x) (rups x)) μ m)::k) (st.lay ws (ups x) (hups x) (rups x))):OutOk P Q c (@Base.mk w [] X) (.loop body k st):=⟨fun e s a w1 hc F=>by
 refine Go.wp_loop_ghost (fun n a w1=>∃y:σ,μ y=n/\∃e:Env,e.chi=C y/\Fit e (@Base.mk w [] ⟨⟨E y⟩⟩) (st.lay ws (ups y) (hups y) (rups y)) a s w1) (μ x0) ⟨x0,rfl,e.cut _ _,hc.trans hc0,(F.less hE0).le h0 hb (Nat.zero_le _)⟩ ?_
 rintro n a w1 ⟨y,rfl,e,hc,F⟩
 have:=(hr y _ rfl).run e s a w1 hc F
 simp only[KQ] at this
 rw[Qkc (c':=c) hk] at this
 refine wp_mono this ?_
 intro en a' w' hq
 cases en with
 | normal=>obtain ⟨y',h1,e',h2,h3⟩:=hq;exact ⟨μ y',h1,y',rfl,e',h2,h3⟩
 | _=>exact hq⟩
theorem Qpe {σ:Type} {C:σ->Nat->Nat->Row} {E:σ->Nat->Option Obj} {inv:σ->St} {μ:σ->Nat} {m:Nat} {k:List Item} {st:St} (y:σ) (hcy:c=C y) (hE:∀b o,E y b=some o->(@Base.mk w [] X).ex b=some o) (hm:μ y<m) (h:Le st (inv y)) (hb:(inv y).bnd=true):OutOk P Q c (@Base.mk w [] X) (.stop (Q46 C w E inv μ m) k st):=
 ⟨fun e s a w1 hc F=>⟨y,hm,e.cut (inv y).h.length (inv y).r.length,hc.trans hcy,(F.less hE).le h hb (Nat.zero_le _)⟩⟩
end
section
open Go.ChangeMaps (setBlock)
open Go.Maps
structure MapW (es:Array MapEntry) (clock:Nat) (W:B9z):Prop where
 key:∀x∈es.toList,∃n:Nat,n<100000/\x.key=.int .i64 (.ofNat n)/\W n=true
 born:∀x∈es.toList,x.born<clock
 has:∀n,W n=true->∃x∈es.toList,x.key=.int .i64 (.ofNat n)
 nb:(es.toList.map (·.born)).Nodup
 nk:(es.toList.map (·.key)).Nodup
theorem Q2x:MapW #[] 0 (fun _=>false) where
 key:=fun x hx=>by simp at hx
 born:=fun x hx=>by simp at hx
 has:=fun n h=>by cases h
 nb:=by simp
 nk:=by simp
section
variable {P:Program} {w:World} {t k e m clock:Nat} {es:Array MapEntry} {W:B9z}
theorem Qeg {b:Nat} {o:Obj} (hb:b<w.heap.size) (j:Nat):(setBlock w b o).heap[j]? =if j=b then some o else w.heap[j]? :=by
 simp only[setBlock,Array.getElem?_setIfInBounds]
 split
 · rename_i h;subst h;simp[hb]
 · rename_i h;rw[if_neg (fun g=>h g.symm)]
theorem Qix {n:Nat} (hn:n<100000):(Lit.int .i64 (.ofNat n)).wf=true:=by
 simp only[Lit.wf,Bool.and_eq_true,decide_eq_true_eq]
 have h1:IntKind.i64.min= -9223372036854775808:=by decide
 have h2:IntKind.i64.max=9223372036854775807:=by decide
 rw[h1,h2]
 simp only[Int.ofNat_eq_natCast]
 omega
theorem MapW.keys (h:MapW es clock W) (hk:P.underlying k=some (.int .i64)):∀x∈es.toList,∃l,keyOf P k x.key=some l:=fun x hx=>by
 obtain ⟨n,hn,e,_⟩:=h.key x hx
 exact ⟨_,by rw[e];exact keyOf_int_mk hk (Qix hn)⟩
theorem Q80 {α:Type} {l:List α} (h:l.Nodup) {i j:Nat} {x:α} (hi:l[i]? =some x) (hj:l[j]? =some x):i=j:=by
 induction l generalizing i j with
 | nil=>simp at hi
 | cons a l ih=>
   obtain ⟨h1,h2⟩:=List.nodup_cons.1 h
   cases i with
   | zero=>
     cases j with
     | zero=>rfl
     | succ j=>
       simp at hi hj
       subst hi
       exact absurd (List.mem_of_getElem? hj) h1
   | succ i=>
     cases j with
     | zero=>
       simp at hi hj
       subst hj
       exact absurd (List.mem_of_getElem? hi) h1
     | succ j=>simp at hi hj;rw[ih h2 hi hj]
theorem Q55 (ht:P.underlying t=some (.map k e)) (hk:P.underlying k=some (.int .i64)) (hb:w.heap[m]? =some (.map es clock)) (h:MapW es clock W) {n:Nat} (hn:n<100000) (v:Value):
 ∃es' clock',(Instr.mapUpdate t (.map (some m)) (.int .i64 (.ofNat n)) v).run P w=.ok () (setBlock w m (.map es' clock'))/\MapW es' clock' (fun j=>if j=n then true else W j):=by
 have K:=int_keyed hk
 have hkn:=keyOf_int_mk (P:=P) hk (Qix hn)
 rcases K.find w hkn es.toList (h.keys hk) with ⟨h1,h2⟩|⟨j,x,h1,h2,h3⟩
 · refine ⟨es.push ⟨.int .i64 (.ofNat n),v,clock⟩,clock+1,?_,?_⟩
   · generalize Value.int .i64 (Int.ofNat n)=key at *
     simp[Instr.mapUpdate,run_underlying ht,MapKept.run_getObj_map hb,K.check w false hkn,h1,MapKept.run_setObj_map _ hb,Result.andThen,setBlock]
   · refine ⟨fun x hx=>?_,fun x hx=>?_,fun j hj=>?_,?_,?_⟩
     · rw[Array.toList_push] at hx
       rcases List.mem_append.1 hx with hx|hx
       · obtain ⟨q,g1,g2,g3⟩:=h.key x hx
         exact ⟨q,g1,g2,by by_cases g:q=n<;>simp[g,g3]⟩
       · rw[List.mem_singleton.1 hx];exact ⟨n,hn,rfl,by simp⟩
     · rw[Array.toList_push] at hx
       rcases List.mem_append.1 hx with hx|hx
       · have:=h.born x hx;omega
       · rw[List.mem_singleton.1 hx];exact Nat.lt_succ_self _
     · rw[Array.toList_push]
       split at hj
       · rename_i g;subst g;exact ⟨_,List.mem_append_right _ (List.mem_singleton.2 rfl),rfl⟩
       · obtain ⟨x,g1,g2⟩:=h.has j hj
         exact ⟨x,List.mem_append_left _ g1,g2⟩
     · rw[Array.toList_push,List.map_append,List.nodup_append]
       refine ⟨h.nb,by simp,fun a ha b hb'=>?_⟩
       obtain ⟨x,hx,rfl⟩:=List.mem_map.1 ha
       simp at hb'
       have:=h.born x hx
       omega
     · rw[Array.toList_push,List.map_append,List.nodup_append]
       refine ⟨h.nk,by simp,fun a ha b hb'=>?_⟩
       obtain ⟨x,hx,rfl⟩:=List.mem_map.1 ha
       simp at hb'
       rw[hb'];exact h2 x hx
 · have hjl:j<es.size:=by
    have:=(List.getElem?_eq_some_iff.1 h2).1;simpa using this
   have hej:es[j]? =some x:=by simpa using h2
   refine ⟨es.modify j (fun y=>{ y with key:=.int .i64 (.ofNat n),val:=v }),clock,?_,?_⟩
   · generalize Value.int .i64 (Int.ofNat n)=key at *
     simp[Instr.mapUpdate,run_underlying ht,MapKept.run_getObj_map hb,K.check w false hkn,h1,hej,h3,K.stays w hkn,MapKept.run_setObj_map _ hb,Result.andThen,setBlock]
   · have hl:(es.modify j (fun y=>{ y with key:=.int .i64 (.ofNat n),val:=v })).toList=es.toList.set j { x with key:=.int .i64 (.ofNat n),val:=v }:=by
      apply List.ext_getElem?
      intro i
      simp only[Array.getElem?_toList,Array.getElem?_modify,List.getElem?_set,Array.length_toList]
      split
      · rename_i g;subst g
        have hxj:es[j]=x:=(Array.getElem?_eq_some_iff.1 hej).2
        simp[hjl,hxj]
      · rename_i g;rfl
     have hmem:∀y∈es.toList.set j { x with key:=.int .i64 (.ofNat n),val:=v },∃z∈es.toList,y.key=z.key/\y.born=z.born:=fun y hy=>by
      obtain ⟨i,hi⟩:=List.mem_iff_getElem?.1 hy
      rw[List.getElem?_set] at hi
      split at hi
      · split at hi
        · cases hi;exact ⟨x,List.mem_of_getElem? h2,h3.symm,rfl⟩
        · cases hi
      · exact ⟨y,List.mem_of_getElem? hi,rfl,rfl⟩
     have hmap:∀{β:Type} (f:MapEntry->β),f { x with key:=.int .i64 (.ofNat n),val:=v }=f x->(es.toList.set j { x with key:=.int .i64 (.ofNat n),val:=v }).map f=es.toList.map f:=fun f hf=>by
      apply List.ext_getElem?
      intro i
      simp only[List.getElem?_map,List.getElem?_set]
      split
      · rename_i g;subst g;rw[h2,if_pos (by simpa using hjl)];exact congrArg some hf
      · rfl
     refine ⟨fun y hy=>?_,fun y hy=>?_,fun q hq=>?_,?_,?_⟩
     · rw[hl] at hy
       obtain ⟨z,hz,g1,_⟩:=hmem y hy
       obtain ⟨q,f1,f2,f3⟩:=h.key z hz
       exact ⟨q,f1,g1.trans f2,by by_cases g:q=n<;>simp[g,f3]⟩
     · rw[hl] at hy
       obtain ⟨z,hz,_,g2⟩:=hmem y hy
       rw[g2];exact h.born z hz
     · rw[hl]
       have hq':q=n\/W q=true:=by
        split at hq
        · exact .inl y9
        · exact .inr hq
       have:∃z∈es.toList,z.key=.int .i64 (.ofNat q):=by
        rcases hq' with rfl|hq'
        · exact ⟨x,List.mem_of_getElem? h2,h3⟩
        · exact h.has q hq'
       obtain ⟨z,hz,g⟩:=this
       have hk2:=hmap (·.key) h3.symm
       have:(Value.int .i64 (.ofNat q))∈(es.toList.set j { x with key:=.int .i64 (.ofNat n),val:=v }).map (·.key):=by
        rw[hk2,<-g];exact List.mem_map_of_mem hz
       obtain ⟨y,hy,g2⟩:=List.mem_map.1 this
       exact ⟨y,hy,g2⟩
     · rw[hl,hmap (·.born) rfl];exact h.nb
     · rw[hl,hmap (·.key) h3.symm];exact h.nk
theorem Q45 (ht:P.underlying t=some (.map k e)) (hk:P.underlying k=some (.int .i64)) (hb:w.heap[m]? =some (.map es clock)) (h:MapW es clock W) {n:Nat} (hn:n<100000) (ty:TypeId):
 ∃es',(Builtin.delete_ #[t,k] ty #[.map (some m),.int .i64 (.ofNat n)]).run P w=.ok (.tuple #[]) (setBlock w m (.map es' clock))/\MapW es' clock (fun j=>if j=n then false else W j):=by
 have K:=int_keyed hk
 have hkn:=keyOf_int_mk (P:=P) hk (Qix hn)
 rcases K.find w hkn es.toList (h.keys hk) with ⟨h1,h2⟩|⟨j,x,h1,h2,h3⟩
 · refine ⟨es,?_,?_⟩
   · generalize Value.int .i64 (Int.ofNat n)=key at *
     simp[Builtin.delete_,run_underlying ht,MapKept.run_getObj_map hb,K.check w _ hkn,h1,MapKept.run_setObj_map _ hb,Result.andThen,setBlock]
   · refine ⟨fun x hx=>?_,h.born,fun q hq=>?_,h.nb,h.nk⟩
     · obtain ⟨q,g1,g2,g3⟩:=h.key x hx
       refine ⟨q,g1,g2,?_⟩
       have:q≠n:=fun g=>h2 x hx (by rw[g2,g])
       simp only[if_neg this];exact g3
     · split at hq
       · cases hq
       · exact h.has q hq
 · have hjl:j<es.size:=by
    have:=(List.getElem?_eq_some_iff.1 h2).1;simpa using this
   refine ⟨es.eraseIdxIfInBounds j,?_,?_⟩
   · generalize Value.int .i64 (Int.ofNat n)=key at *
     simp[Builtin.delete_,run_underlying ht,MapKept.run_getObj_map hb,K.check w _ hkn,h1,MapKept.run_setObj_map _ hb,Result.andThen,setBlock]
   · have hl:(es.eraseIdxIfInBounds j).toList=es.toList.eraseIdx j:=by
      simp[Array.eraseIdxIfInBounds,hjl]
     have hsub:∀y∈es.toList.eraseIdx j,y∈es.toList:=fun y hy=>List.mem_of_mem_eraseIdx hy
     have hne:∀y∈es.toList.eraseIdx j,y.key≠.int .i64 (.ofNat n):=fun y hy g=>by
      rw[List.mem_eraseIdx_iff_getElem?] at hy
      obtain ⟨i,hij,hi⟩:=hy
      refine hij (Q80 h.nk (x:=Value.int .i64 (.ofNat n)) ?_ ?_)
      · rw[List.getElem?_map,hi];simp[g]
      · rw[List.getElem?_map,h2];simp[h3]
     refine ⟨fun y hy=>?_,fun y hy=>?_,fun q hq=>?_,?_,?_⟩
     · rw[hl] at hy
       obtain ⟨q,g1,g2,g3⟩:=h.key y (hsub y hy)
       refine ⟨q,g1,g2,?_⟩
       have:q≠n:=fun g=>hne y hy (by rw[g2,g])
       simp only[if_neg this];exact g3
     · rw[hl] at hy;exact h.born y (hsub y hy)
     · split at hq
       · cases hq
       · rename_i hqn
         obtain ⟨y,hy,g⟩:=h.has q hq
         refine ⟨y,?_,g⟩
         rw[hl,List.mem_eraseIdx_iff_getElem?]
         obtain ⟨i,hi⟩:=List.mem_iff_getElem?.1 hy
         refine ⟨i,fun e=>?_,hi⟩
         subst e
         rw[h2] at hi;cases hi
         rw[h3] at g
         simp only[Value.int.injEq,true_and,Int.ofNat_eq_natCast] at g
         omega
     · rw[hl]
       exact h.nb.sublist ((List.eraseIdx_sublist _ _).map _)
     · rw[hl]
       exact h.nk.sublist ((List.eraseIdx_sublist _ _).map _)
end
end
section
open Go.ChangeMaps (setBlock)
open Go.Maps
def exSet (E:O9z) (b:Nat) (o:Obj):Nat->Option Obj:=fun j=>if j=b then some o else E j
theorem Qle (E:O9z) (b:Nat) (o:Obj):exSet E b o b=some o:=by simp[exSet]
theorem Q8e {E:O9z} {b j:Nat} {o:Obj} (h:j≠b):exSet E b o j=E j:=by simp[exSet,h]
section
variable {P:Program} {Q:E9z} {c:R9z} {w:World} {E:O9z}
theorem Qig {w1:World} {b:Nat} {o o':Obj} (hb:E b=some o) (hat:∀b o,E b=some o->w.heap.size<=b/\w1.heap[b]? =some o):ExStep w.heap.size E w1 (exSet E b o') (setBlock w1 b o'):=by
 have hlt:b<w1.heap.size:=(Array.getElem?_eq_some_iff.1 (hat b o hb).2).1
 refine ⟨rfl,rfl,rfl,by simp[setBlock],fun j hj hn=>?_,fun j p hp=>?_⟩
 · rw[Qeg hlt,if_neg (fun g=>by rw[g,hb] at hn;cases hn)]
 · by_cases g:j=b
   · subst g
     rw[Qle] at hp;cases hp
     exact ⟨(hat j o hb).1,by rw[Qeg hlt,if_pos rfl],.inl (by rw[hb];simp)⟩
   · rw[Q8e g] at hp
     exact ⟨(hat j p hp).1,by rw[Qeg hlt,if_neg g];exact (hat j p hp).2,.inl (by rw[hp];simp)⟩
theorem Qbm {w1:World} {o:Obj} (hw:w.heap.size<=w1.heap.size) (hat:∀b o,E b=some o->w.heap.size<=b/\w1.heap[b]? =some o):ExStep w.heap.size E w1 (exSet E w1.heap.size o) (w1.alloc o):=by
 have hbl:Below w1.heap.size w1 (w1.alloc o):=(Below.refl _ _).alloc (Nat.le_refl _) _
 refine ⟨hbl.os,hbl.tape,hbl.output,hbl.size,fun j hj _=>hbl.block j hj,fun j p hp=>?_⟩
 by_cases g:j=w1.heap.size
 · subst g
   rw[Qle] at hp;cases hp
   exact ⟨hw,heap_alloc_new _ _,.inr (Nat.le_refl _)⟩
 · rw[Q8e g] at hp
   have h2:=(hat j p hp).2
   have hlt:=(Array.getElem?_eq_some_iff.1 h2).1
   exact ⟨(hat j p hp).1,(hbl.block j hlt).trans h2,.inl (by rw[hp];simp)⟩
theorem Q0q {w1 w2:World} {E':O9z} (h:ExStep w.heap.size E w1.drew E' w2):ExStep w.heap.size E w1 E' w2:=⟨h.os,h.tape,h.output,h.size,h.keep,h.there⟩
theorem Fit.at_ {e:Env} {st:St} {a:Act} {s:List Act} {w1:World} (F:Fit e (@Base.mk w [] ⟨⟨E⟩⟩) st a s w1):∀b o,E b=some o->w.heap.size<=b/\w1.heap[b]? =some o:=fun b o h=>⟨(F.ext.ex b o h).1,(F.ext.ex b o h).2.2.1⟩
theorem Qgf {e:Env} {v u:Value} (h:(SV.pt (.one (.val u))).is e v):v=u:=h
theorem Qqw {o:Oper} {all:Array Oper} {rest:List Oper} {k:List Item} {st:St} {t:Nat} (hg:o.guard=none) (ho:o.op=.makeMap t none)
 (h:∀b,w.heap.size<=b->E b=none->Goes P Q c (@Base.mk w [] ⟨⟨exSet E b (.map #[] 0)⟩⟩) (.ops all rest::k) (st.put o.dst (.pt (.one (.val (.map (some b))))))):OutOk P Q c (@Base.mk w [] ⟨⟨E⟩⟩) (.man o all rest k st):=
 Qdn (α:=Nat) (fun b=>.pt (.one (.val (.map (some b))))) (fun b=>exSet E b (.map #[] 0)) (fun b=>w.heap.size<=b/\E b=none) hg (fun e s a w1 hc F=>by
  refine ⟨w1.heap.size,_,w1.alloc (.map #[] 0),⟨F.blw.size,?_⟩,rfl,?_,Qbm F.blw.size F.at_⟩
  · cases hx:E w1.heap.size with
    | none=>rfl
    | some o=>have:=(Array.getElem?_eq_some_iff.1 (F.at_ _ _ hx).2).1;omega
  · simp[execOp,ho,Instr.makeMap]) fun b hb=>h b hb.1 hb.2
section
variable {t kt et m clock n:Nat} {es:Array MapEntry} {W:B9z} {o:Oper} {all:Array Oper} {rest:List Oper} {k:List Item} {st:St} {x y z:Operand}
theorem Qdp (hg:o.guard=none) (ho:o.op=.mapUpdate t x y z) (ht:P.underlying t=some (.map kt et)) (hk:P.underlying kt=some (.int .i64)) (hx:evO st x=.pt (.one (.val (.map (some m))))) (hy:evO st y=.pt (.one (.int .i64 (.ofNat n)))) (hn:n<100000)
 (hE:E m=some (.map es clock)) (hM:MapW es clock W) (h:∀es' clock',MapW es' clock' (fun j=>if j=n then true else W j)->Goes P Q c (@Base.mk w [] ⟨⟨exSet E m (.map es' clock')⟩⟩) (.ops all rest::k) (st.put o.dst undefS)):OutOk P Q c (@Base.mk w [] ⟨⟨E⟩⟩) (.man o all rest k st):=
 Q24 (α:=Array MapEntry×Nat) (fun A=>exSet E m (.map A.1 A.2)) (fun A=>MapW A.1 A.2 (fun j=>if j=n then true else W j)) hg (fun e s a w1 hc F=>by
  have h1:=Qab F.tm x
  have h2:=Qab F.tm y
  rw[hx] at h1
  rw[hy] at h2
  have h1:=Qgf h1
  have h2:=Qgc h2
  obtain ⟨es',clock',h3,h4⟩:=Q55 ht hk (F.at_ _ _ hE).2 hM hn (a.eval z)
  refine ⟨(es',clock'),_,h4,?_,Qig hE F.at_⟩
  simp only[execOp,ho,h1,h2,Sem.run_bind,h3,Result.andThen_ok,Sem.run_pure]) fun A hA=>h A.1 A.2 hA
theorem Qpw {c1:Call} (hg:o.guard=none) (ho:o.op=.call ⟨.builtin .len,#[x],#[t]⟩) (ht:P.underlying t=some (.map kt et)) (hx:evO st x=.pt (.one (.val (.map (some m)))))
 (hE:E m=some (.map es clock)) (h:Goes P Q c (@Base.mk w [] ⟨⟨E⟩⟩) (.ops all rest::k) (st.put o.dst (.pt (.one (.int .i64 (.ofNat es.size)))))):OutOk P Q c (@Base.mk w [] ⟨⟨E⟩⟩) (.man o all rest k st):=
 ⟨fun e s a w1 hc F=>by
  have h1:=Qab F.tm x
  rw[hx] at h1
  have h1:=Qgf h1
  show wpList P all (KQ P Q c k s) (o::rest) a w1
  refine Quc hg ?_
  unfold Oper.wp
  have:(execOp a.eval o).run P w1=.ok (.value (.int .i64 (.ofNat es.size))) w1:=by
   simp[execOp,ho,resolve,h1,invoke,builtin,Builtin.len_,run_underlying ht,MapKept.run_getObj_map (F.at_ _ _ hE).2,goInt]
  rw[this,Oper.upon_value]
  exact h.run e s _ _ hc (F.put (x:=.pt (.one (.int .i64 (.ofNat es.size)))) rfl)⟩
theorem Qow (hg:o.guard=none) (ho:o.op=.call ⟨.builtin .delete,#[x,y],#[t,kt]⟩) (ht:P.underlying t=some (.map kt et)) (hk:P.underlying kt=some (.int .i64)) (hx:evO st x=.pt (.one (.val (.map (some m))))) (hy:evO st y=.pt (.one (.int .i64 (.ofNat n)))) (hn:n<100000)
 (hE:E m=some (.map es clock)) (hM:MapW es clock W) (h:∀es',MapW es' clock (fun j=>if j=n then false else W j)->Goes P Q c (@Base.mk w [] ⟨⟨exSet E m (.map es' clock)⟩⟩) (.ops all rest::k) (st.put o.dst (.tup []))):OutOk P Q c (@Base.mk w [] ⟨⟨E⟩⟩) (.man o all rest k st):=
 Qdn (α:=Array MapEntry) (fun _=>.tup []) (fun A=>exSet E m (.map A clock)) (fun A=>MapW A clock (fun j=>if j=n then false else W j)) hg (fun e s a w1 hc F=>by
  have h1:=Qab F.tm x
  have h2:=Qab F.tm y
  rw[hx] at h1
  rw[hy] at h2
  have h1:=Qgf h1
  have h2:=Qgc h2
  obtain ⟨es',h3,h4⟩:=Q45 ht hk (F.at_ _ _ hE).2 hM hn o.type
  refine ⟨es',.tuple #[],_,h4,⟨#[],rfl,trivial⟩,?_,Qig hE F.at_⟩
  simp[execOp,ho,resolve,h1,h2,invoke,builtin] at h3⊢
  simp[h3]) fun A hA=>h A hA
theorem Qr0 (hg:o.guard=none) (ho:o.op=.range t x) (ht:P.underlying t=some (.map kt et)) (hx:evO st x=.pt (.one (.val (.map (some m)))))
 (hE:E m=some (.map es clock)) (h:∀r,w.heap.size<=r->E r=none->Goes P Q c (@Base.mk w [] ⟨⟨exSet E r (.mapIter (some m) clock #[] clock)⟩⟩) (.ops all rest::k) (st.put o.dst (.pt (.one (.val (.pointer (some ⟨r,0,none⟩))))))):OutOk P Q c (@Base.mk w [] ⟨⟨E⟩⟩) (.man o all rest k st):=
 Qdn (α:=Nat) (fun r=>.pt (.one (.val (.pointer (some ⟨r,0,none⟩))))) (fun r=>exSet E r (.mapIter (some m) clock #[] clock)) (fun r=>w.heap.size<=r/\E r=none) hg (fun e s a w1 hc F=>by
  have h1:=Qab F.tm x
  rw[hx] at h1
  have h1:=Qgf h1
  refine ⟨w1.heap.size,_,w1.alloc (.mapIter (some m) clock #[] clock),⟨F.blw.size,?_⟩,rfl,?_,Qbm F.blw.size F.at_⟩
  · cases hx:E w1.heap.size with
    | none=>rfl
    | some o=>have:=(Array.getElem?_eq_some_iff.1 (F.at_ _ _ hx).2).1;omega
  · simp[execOp,ho,h1,Instr.range,run_underlying ht,MapKept.run_getObj_map (F.at_ _ _ hE).2]) fun b hb=>h b hb.1 hb.2
theorem Q34 {r c0:Nat} {seen:Array Nat} (hg:o.guard=none) (ho:o.op=.next x false) (hx:evO st x=.pt (.one (.val (.pointer (some ⟨r,0,none⟩)))))
 (hE:E m=some (.map es clock)) (hR:E r=some (.mapIter (some m) clock seen c0)) (hM:MapW es clock W) (hc0:clock<=c0)
 (hno:(leftOf es seen).size=0->Goes P Q c (@Base.mk w [] ⟨⟨E⟩⟩) (.ops all rest::k) (st.put o.dst (.tup [.one (.lit false)])))
 (hyes:∀(x:MapEntry) (n:Nat),x∈(leftOf es seen).toList->x.key=.int .i64 (.ofNat n)->Goes P Q c (@Base.mk w [] ⟨⟨exSet E r (.mapIter (some m) clock (seen.push x.born) clock)⟩⟩) (.ops all rest::k) (st.put o.dst (.tup [.one (.lit true),.one (.int .i64 (.ofNat n)),.one .any]))):OutOk P Q c (@Base.mk w [] ⟨⟨E⟩⟩) (.man o all rest k st):=
 Qdn (α:=Option (MapEntry×Nat)) (fun A=>match A with|none=>.tup [.one (.lit false)]|some p=>.tup [.one (.lit true),.one (.int .i64 (.ofNat p.2)),.one .any])
  (fun A=>match A with|none=>E|some p=>exSet E r (.mapIter (some m) clock (seen.push p.1.born) clock)) (fun A=>match A with|none=>(leftOf es seen).size=0|some p=>p.1∈(leftOf es seen).toList/\p.1.key=.int .i64 (.ofNat p.2)) hg (fun e s a w1 hc F=>by
  have h1:=Qab F.tm x
  rw[hx] at h1
  have h1:=Qgf h1
  rcases run_next_at (P:=P) w1 o.type r m clock c0 seen es clock (F.at_ _ _ hR).2 (F.at_ _ _ hE).2 hM.born hc0 with ⟨h2,h3⟩|⟨x,hx,w2,hw2,h3⟩
  · refine ⟨none,_,w1,h2,⟨#[.bool false],rfl,rfl,trivial⟩,by simp[execOp,ho,h1,h3],⟨rfl,rfl,rfl,Nat.le_refl _,fun _ _ _=>rfl,fun b o hb=>⟨(F.at_ b o hb).1,(F.at_ b o hb).2,.inl (fun hn=>by have hb:E b=some o:=hb;have hn:E b=none:=hn;rw[hb] at hn;cases hn)⟩⟩⟩
  · have hmem:x∈es.toList:=by
     unfold leftOf at hx
     simp at hx⊢
     exact hx.1
    obtain ⟨n,_,hkey,_⟩:=hM.key x hmem
    refine ⟨some (x,n),.tuple #[.bool true,x.key,x.val],setBlock w2 r (.mapIter (some m) clock (seen.push x.born) clock),⟨hx,hkey⟩,⟨#[.bool true,x.key,x.val],rfl,rfl,hkey,trivial,trivial⟩,by simp only[execOp,ho,h1,Sem.run_bind,h3,Result.andThen_ok,Sem.run_pure],?_⟩
    rcases hw2 with rfl|rfl
    · exact Qig hR F.at_
    · exact Q0q (Qig (w1:=w1.drew) hR F.at_)) fun A hA=>by
  cases A with
  | none=>exact hno hA
  | some p=>exact hyes p.1 p.2 hA.1 hA.2
theorem Qm0 {r since:Nat} {seen:Array Nat} {en:MapEntry} (hg:o.guard=none) (ho:o.op=.entry x) (hx:evO st x=.pt (.one (.val (.pointer (some ⟨r,0,none⟩)))))
 (hE:E m=some (.map es clock)) (hR:E r=some (.mapIter (some m) since (seen.push en.born) clock)) (hM:MapW es clock W) (hen:en∈es.toList) (hkey:en.key=.int .i64 (.ofNat n))
 (h:Goes P Q c (@Base.mk w [] ⟨⟨E⟩⟩) (.ops all rest::k) (st.put o.dst (.tup [.one (.int .i64 (.ofNat n)),.one .any]))):OutOk P Q c (@Base.mk w [] ⟨⟨E⟩⟩) (.man o all rest k st):=
 ⟨fun e s a w1 hc F=>by
  have h1:=Qab F.tm x
  rw[hx] at h1
  have h1:=Qgf h1
  show wpList P all (KQ P Q c k s) (o::rest) a w1
  refine Quc hg ?_
  unfold Oper.wp
  have h2:=run_entry_at (P:=P) w1 r m since seen es clock en (F.at_ _ _ hR).2 (F.at_ _ _ hE).2 hen hM.nb
  have:(execOp a.eval o).run P w1=.ok (.value (.tuple #[en.key,en.val])) w1:=by
   simp only[execOp,ho,h1,Sem.run_bind,h2,Result.andThen_ok,Sem.run_pure]
  rw[this,Oper.upon_value]
  exact h.run e s _ _ hc (F.put (x:=.tup [.one (.int .i64 (.ofNat n)),.one .any]) (v:=.tuple #[en.key,en.val]) ⟨#[en.key,en.val],rfl,hkey,trivial,trivial⟩)⟩
end
end
end
structure RowTo (c:R9z) (w1:World) (v0:Value) (R:ORow) (sv:Value) (w2:World):Prop where
 own:∃xs,OwnR w2 R.es sv R.n xs/\Q3c c R xs
 grown:w1.grownBy w2 v0.ownBlock
 blk:∀g,sv.ownBlock=some g->g<w2.heap.size/\(w1.heap.size<=g\/v0.ownBlock=some g)
def HasB (st:St) (k:Nat):Prop:=∃cs,nth st.h k=some (some cs)
section
variable {P:Program} {Q:E9z} {c:R9z} {w0:Base}
theorem Qns (q:Nat) {f:Nat} {args:List SV} {dst:Option Nat} {k:List Item} {st:St} {R0 R:ORow} {vs:(Nat->Value)->(Nat->Nat)->List Value} (hq:nth st.r q=some (some R0)) (hv:∀S B,Qjv S B c args=some (vs S B)) (hf:∀(args:Array Value) (w:World),(callFunc f args).run P w=.ok (.enter f args) w)
 (hC:∀(w:World) (S:Nat->Value) (B:N9z),KB w0 w->XOk ⟨[],c,[]⟩ ⟨w,[]⟩->MemIs c w S B st->(∀k,HasB st k->(S q).ownBlock≠some (B k))->Calls P f (vs S B).toArray w (fun en w'=>∃sv,en=.returned sv/\RowTo c w (S q) R sv w'))
 (h:Goes P Q c w0 k ((st.row q R none).put dst (.pt (.one (.rs q))))):OutOk P Q c w0 (.call f args dst k st):=⟨fun e s a w hc F us hu=>by
 rw[Qjo hc (S:=fun q=>(e.sg[q]?).getD undef) (B:=fun k=>(e.rho[k]?).getD 0) (fun q v hq=>by simp only[hq,Option.getD_some]) (fun k b hb=>by simp only[hb,Option.getD_some]) (hv _ _) hu]
 rw[Qva] at hq
 have hql:q<st.r.length:=(List.getElem?_eq_some_iff.1 hq).1
 obtain ⟨v0,xs0,h1,h2,h3⟩:=F.rows.row q R0 hq
 have hS:(e.sg[q]?).getD undef=v0:=by rw[h1];rfl
 refine ⟨hf _ _,(hC w _ _ F.blw (F.ext.xok0 hc) (F.mem hc) (fun k hk hb=>?_)).mono fun en w' ⟨sv,he,hr⟩=>⟨sv,he,?_⟩⟩
 · obtain ⟨cs,hk⟩:=hk
   rw[Qva] at hk
   have hkl:k<e.rho.length:=by rw[F.len];exact (List.getElem?_eq_some_iff.1 hk).1
   obtain ⟨b,hb'⟩:∃b,e.rho[k]? =some b:=⟨_,List.getElem?_eq_getElem hkl⟩
   rw[hS] at hb
   rw[hb',Option.getD_some] at hb
   exact F.rows.no q b ⟨R0,v0,hq,h1,hb⟩ k ⟨cs,hk,hb'⟩
 subst hc
 rw[hS] at hr
 obtain ⟨⟨xs,g1,g2⟩,g3,g4⟩:=hr
 have hrow:Qqv e st w q R (.pt (.one (.rs q))) none sv w':=by
  refine ⟨sv,xs,v0.ownBlock,?_,g1,g2,g3,fun g hg=>.inl ⟨R0,v0,hq,h1,hg⟩,fun g hg=>⟨(g4 g hg).1,?_⟩,Nat.le_of_lt hql,fun _=>rfl⟩
  · rw[if_pos hql]
    exact SV.rs_is (by simp only[Env.putS];rw[List.getElem?_set_self (by rw[F.rows.len];exact hql)]) g1.one
  · rcases (g4 g hg).2 with h|h
    · exact .inl h
    · exact .inr (.inl ⟨R0,v0,hq,h1,h⟩)
 obtain ⟨e',f1,f2,f3⟩:=F.rowed hrow
 exact h.run e' s _ _ f1 (f3.put f2)⟩
theorem Fit.rst' {e:Env} {st:St} {a:Act} {s:List Act} {w w':World} (F:Fit e w0 st a s w) {q:Nat} {R0 R:ORow} {sv:Value} {xs:List Value} (hq:st.r[q]? =some (some R0)) (h1:e.sg[q]? =some sv) (h4:OwnR w' R.es sv R.n xs) (h5:Q3c e.chi R xs) (h6:w.grownBy w' sv.ownBlock):
 Fit e w0 { st with r:=Q0b st.r q (some R) } a s w':=by
 have hqlt:q<st.r.length:=(List.getElem?_eq_some_iff.1 hq).1
 have hR:∀b,sv.ownBlock=some b->Qdd e st q b:=fun b hb=>⟨R0,sv,hq,h1,hb⟩
 have hkeep:∀b,b<w.heap.size->(∀g,sv.ownBlock=some g->b≠g)->w'.heap[b]? =w.heap[b]? :=fun b hb hn=>h6.block b hb (fun e=>hn b e.symm rfl)
 have hblw:KB w0 w':=⟨h6.os.trans F.blw.os,h6.tape.trans F.blw.tape,h6.output.trans F.blw.output,Nat.le_trans F.blw.size h6.size,fun k hk hm=>by
  rw[<-F.blw.block k hk hm]
  refine hkeep k (Nat.lt_of_lt_of_le hk F.blw.size) fun g hg hh=>?_
  subst hh
  rcases F.rows.lo q k (hR k hg) with h|h
  · omega
  · exact hm h⟩
 refine ⟨F.fr,F.dfr,F.tm,hblw,F.lo,fun k b hb=>Nat.lt_of_lt_of_le (F.hi k b hb) h6.size,F.nd,F.len,?_,F.ext.kept rfl h6.size (fun b hb _ _ hn=>hkeep b hb fun g hg hh=>hn q (hh▸hR g hg)) (fun k b h=>.inl h) ?_,F.pre,?_⟩
 · intro k b cs hb hc
   obtain ⟨vs,t,g1,g2⟩:=F.cells k b cs hb hc
   refine ⟨vs,t,?_,g2⟩
   rw[hkeep b (F.hi k b hb) fun g hg hh=>F.rows.no q g (hR g hg) k ⟨cs,hc,hh▸hb⟩]
   exact g1
 · rintro j b ⟨R',v',g1,g2,g3⟩
   by_cases hjq:j=q
   · subst hjq
     rw[h1] at g2;cases g2
     exact .inl (hR b g3)
   · simp only[Q8b,List.getElem?_set_ne (fun hh=>hjq hh.symm)] at g1
     exact .inl ⟨R',v',g1,g2,g3⟩
 · refine F.rows.put (q:=q) (R:=R) (sv:=sv) (xs:=xs) (by simp[Q8b,F.rows.len]) rfl (by simp[Q8b,List.getElem?_set_self hqlt]) h1 (fun j hj=>⟨by simp[Q8b,List.getElem?_set_ne (fun hh=>hj hh.symm)],rfl⟩) h4 h5 h6.size (fun j b hj hb=>hkeep b (F.rows.hi j b hb) fun g hg hh=>hj (F.rows.nd j q g (hh▸hb) (hR g hg))) (fun g' hg'=>?_) (fun k b h=>h)
   have hRg:=hR g' hg'
   exact ⟨Nat.lt_of_lt_of_le (F.rows.hi q g' hRg) h6.size,F.rows.lo q g' hRg,fun j hj hb=>hj (F.rows.nd j q g' hb hRg),fun k hk=>F.rows.no q g' hRg k hk⟩
theorem Qlw (q:Nat) {f:Nat} {args:List SV} {dst:Option Nat} {k:List Item} {st:St} {R0 R:ORow} {vs:(Nat->Value)->(Nat->Nat)->List Value} (hq:nth st.r q=some (some R0)) (hv:∀S B,Qjv S B c args=some (vs S B)) (hf:∀(args:Array Value) (w:World),(callFunc f args).run P w=.ok (.enter f args) w)
 (hC:∀(w:World) (S:Nat->Value) (B:N9z),KB w0 w->XOk ⟨[],c,[]⟩ ⟨w,[]⟩->MemIs c w S B st->Calls P f (vs S B).toArray w (fun en w'=>en=.returned (.tuple #[])/\RowTo c w (S q) R (S q) w'))
 (h:Goes P Q c w0 k (({ st with r:=Q0b st.r q (some R) }:St).put dst (.tup []))):OutOk P Q c w0 (.call f args dst k st):=⟨fun e s a w hc F us hu=>by
 rw[Qjo hc (S:=fun q=>(e.sg[q]?).getD undef) (B:=fun k=>(e.rho[k]?).getD 0) (fun q v hq=>by simp only[hq,Option.getD_some]) (fun k b hb=>by simp only[hb,Option.getD_some]) (hv _ _) hu]
 rw[Qva] at hq
 obtain ⟨v0,xs0,h1,h2,h3⟩:=F.rows.row q R0 hq
 have hS:(e.sg[q]?).getD undef=v0:=by rw[h1];rfl
 refine ⟨hf _ _,(hC w _ _ F.blw (F.ext.xok0 hc) (F.mem hc)).mono fun en w' ⟨he,hr⟩=>⟨_,he,?_⟩⟩
 subst hc
 rw[hS] at hr
 obtain ⟨⟨xs,g1,g2⟩,g3,g4⟩:=hr
 exact h.run e s _ _ rfl ((F.rst' hq h1 g1 g2 g3).put (x:=.tup []) (v:=.tuple #[]) ⟨#[],rfl,trivial⟩)⟩
end
section
open Go.ChangeMaps (setBlock)
open Go.Maps
section
variable {P:Program} {Q:E9z} {c:R9z} {w:World} {E:O9z} {T:Tb}
theorem Q72 {e:Env} {v u:Value} (h:(SV.pt (.one (.ob v))).is e u):u=v:=h
variable {o:Oper} {all:Array Oper} {rest:List Oper} {k:List Item} {st:St} {t:Nat} {x y:Operand} {v:Value} {n es:Nat} {xs:List Value}
theorem Qp0 {ed:Nat} {ea:Bool} {z:List SC} (hT:TOk P T) (hg:o.guard=none) (ho:o.op=.call ⟨.builtin .len,#[x],#[t]⟩) (ht:T.ty t=some (.slice ed ea z)) (hx:evO st x=.pt (.one (.ob v))) (hrow:ExRow E es v n xs)
 (h:Goes P Q c (@Base.mk w [] ⟨⟨E⟩⟩) (.ops all rest::k) (st.put o.dst (.pt (.one (.int .i64 (.ofNat n)))))):OutOk P Q c (@Base.mk w [] ⟨⟨E⟩⟩) (.man o all rest k st):=
 ⟨fun e s a w1 hc F=>by
  have h1:=Qab F.tm x
  rw[hx] at h1
  have h1:=Q72 h1
  obtain ⟨ad,cap,rfl⟩:=hrow.form
  obtain ⟨i,d,zv,g1,g2,g3,g4,g5,g6,g7,el,jj,uu,rfl,g8⟩:=(Q8a (hT.ty t _ ht)).ex
  show wpList P all (KQ P Q c k s) (o::rest) a w1
  refine Quc hg ?_
  unfold Oper.wp
  have:(execOp a.eval o).run P w1=.ok (.value (.int .i64 (.ofNat n))) w1:=by
   simp[execOp,ho,resolve,h1,invoke,builtin,Builtin.len_,run_underlying g2,goInt]
  rw[this,Oper.upon_value]
  exact h.run e s _ _ hc (F.put (x:=.pt (.one (.int .i64 (.ofNat n)))) rfl)⟩
theorem Qtw {ea:Bool} {z:List SC} {j:Nat} {x1:Value} (hT:TOk P T) (hg:o.guard=none) (ho:o.op=.indexAddr t x y) (ht:T.ty t=some (.slice 1 ea z)) (hx:evO st x=.pt (.one (.ob v))) (hy:evO st y=.pt (.one (.int .i64 (.ofNat j)))) (hj:j<n) (hrow:ExRow E 1 v n xs) (hz:xs[j]? =some x1)
 (h:∀(g p:Nat) (cur:Array Value) (ty:TypeId),E g=some (.cells cur ty (0,0))->cur[p]? =some x1->Goes P Q c (@Base.mk w [] ⟨⟨E⟩⟩) (.ops all rest::k) (st.put o.dst (.pt (.one (.val (.pointer (some ⟨g,p,none⟩))))))):OutOk P Q c (@Base.mk w [] ⟨⟨E⟩⟩) (.man o all rest k st):=
 ⟨fun e s a w1 hc F=>by
  have h1:=Qab F.tm x
  have h2:=Qab F.tm y
  rw[hx] at h1
  rw[hy] at h2
  have h1:=Q72 h1
  have h2:=Qgc h2
  obtain ⟨q1,q2,q3⟩:=hrow
  rcases q3 with ⟨_,q3⟩|⟨g,p,cap,cur,ty,rfl,q4,q5,q6,q7,q8⟩
  · omega
  show wpList P all (KQ P Q c k s) (o::rest) a w1
  refine Quc hg ?_
  unfold Oper.wp
  have:(execOp a.eval o).run P w1=.ok (.value (.pointer (some ⟨g,p+j,none⟩))) w1:=by
   have h3:=Q6c (w:=w1) hT ht g p n cap .i64 (.ofNat j) (Int.natCast_nonneg _) (Int.ofNat_lt.2 hj)
   simp only[Int.toNat_natCast,Int.ofNat_eq_natCast,Nat.mul_one] at h3
   simp[execOp,ho,h1,h2,h3]
  rw[this,Oper.upon_value]
  refine (h g (p+j) cur ty q4 ?_).run e s _ _ hc (F.put (x:=.pt (.one (.val (.pointer (some ⟨g,p+j,none⟩))))) rfl)
  rw[<-q8] at hz
  simp only[List.getElem?_take,List.getElem?_drop] at hz
  split at hz
  · simpa using hz
  · cases hz⟩
theorem Quw {yt:Ty} {g p:Nat} {cur:Array Value} {ty:TypeId} {z:Int} (hT:TOk P T) (hg:o.guard=none) (ho:o.op=.load t x) (ht:T.ty t=some yt) (hag:yt.agg=false) (hx:evO st x=.pt (.one (.val (.pointer (some ⟨g,p,none⟩)))))
 (hE:E g=some (.cells cur ty (0,0))) (hz:cur[p]? =some (.int .i64 z))
 (h:Goes P Q c (@Base.mk w [] ⟨⟨E⟩⟩) (.ops all rest::k) (st.put o.dst (.pt (.one (.int .i64 z))))):OutOk P Q c (@Base.mk w [] ⟨⟨E⟩⟩) (.man o all rest k st):=
 ⟨fun e s a w1 hc F=>by
  have h1:=Qab F.tm x
  rw[hx] at h1
  have h1:=Qgf h1
  obtain ⟨i,d,zv,g1,g2,g3,g4,g5,_⟩:=(Q8a (hT.ty t _ ht)).ex
  have hcell:w1.cell? ⟨g,p,none⟩=some (.int .i64 z):=by rw[cell_of_row w1 g p cur ty (0,0) (F.at_ _ _ hE).2];exact hz
  have hrow:d.isRow=false:=g5.trans hag
  show wpList P all (KQ P Q c k s) (o::rest) a w1
  refine Quc hg ?_
  unfold Oper.wp
  have:(execOp a.eval o).run P w1=.ok (.value (.int .i64 z)) w1:=by
   simp[execOp,ho,h1,Instr.loadAt,Instr.sureAddr,loadVar,Qai g2,hrow,hcell]
  rw[this,Oper.upon_value]
  exact h.run e s _ _ hc (F.put (x:=.pt (.one (.int .i64 z))) rfl)⟩
end
end
end Go.Proofs.YtemnfncbgalljaaGreat
