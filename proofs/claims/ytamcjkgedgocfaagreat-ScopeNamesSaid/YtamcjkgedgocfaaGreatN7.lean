/- Texts joined: Lift OpenF. No condition. -/
import Derived.Test.YtamcjkgedgocfaaGreatM1
import Derived.Lib.SmallJoins
import Derived.OpenShut
import Derived.Test.YtamcjkgedgocfaaGreatN3
import Derived.Deep.Slices
import Derived.Deep.Fields
import Derived.ChangeSame
namespace Go.Proofs.YtamcjkgedgocfaaGreat
open Go.ChangeShapes Go.WideShapes Go.ChangeAt Go.RowKit
set_option linter.all false
section
set_option maxRecDepth 100000
theorem Tryz.own:ownKnob Tryz.prog.godebug=none:=by kernel_rfl
theorem Tryz.laidOut:laidOutB Tryz.prog=true:=by kernel_rfl
theorem Tryz.boolRow:Tryz.prog.underlying 4=some .bool:=by kernel_rfl
section
variable {H:Type} {enc:TypeId×Value→H} {P:Program}
theorem Qii (hl:laidOutB P=true) {W W':World} (hb:Below W.heap.size W W') {sp:Nat→Bool}:
 ∀{ts:List TypeId} {vs:List Value} {ds:List (DataW H)} {ps:List MemPlace},(∀t∈ts,P.readableRec t=true∧t<P.types.size)→DataW.TrodAll enc P W 0 (fun _=>true) true ts vs ds ps→
  (∀p∈ps,p.block<W.heap.size)→(∀p∈ps,sp p.block=true)→DataW.TrodAll enc P W' 0 sp true ts vs ds ps
 | [],vs,ds,ps,_,h,_,_=>by
   obtain ⟨rfl,rfl,rfl⟩:=trodAll_nil h
   exact trodAll_mk0
 | t::ts,vs,ds,ps,hr,h,hlt,hsp=>by
   obtain ⟨v,vs',d,ds',p,q,rfl,rfl,rfl,h0,h1⟩:=trodAll_cons h
   have h2:=Qii hl hb (fun t ht=>hr t (by simp[ht])) h1 (fun p hp=>hlt p (by simp[hp])) (fun p hp=>hsp p (by simp[hp]))
   refine ⟨p,q,?_,h2,rfl⟩
   exact WideElems.Trod_stays hl (hr t (by simp)).1 (hr t (by simp)).2 h0 (fun x hx=>hb.same (hlt x (by simp[hx]))) (fun x hx=>hsp x (by simp[hx]))
theorem Q20 (hl:laidOutB P=true) {f:Func} {s:ChangeSpec} {W W':World} {args:Array Value} {ds gs:List (DataW H)} {before:List MemPlace} {T:TypeId}
 (hvars:s.vars=[]) (hW:DataW.Whole enc P f.params.toList s.vars false W args.toList ds gs before) (hr:∀t∈f.params.toList,P.readableRec t=true∧t<P.types.size)
 (hs:s.fn H ds={ results:=[.lit (.bool true)],args:=ds }) (hb:Below W.heap.size W W') (hf:f.resultTypes=#[T]) (hT:P.underlying T=some .bool):
 s.post enc P f false true false false W args (.bool true) W':=by
 have hW0:=hW
 obtain ⟨p,q,hA,hV,rfl,hz,_⟩:=hW
 rw[hvars] at hV
 obtain ⟨rfl,rfl⟩:=trodVars_none hV
 have hlt:∀x∈p,x.block<W.heap.size:=fun x hx=>hW0.lt x (by simp[hx])
 have hs':s.fn H (ds++[])={ results:=[.lit (.bool true)],args:=ds }:=by rw[List.append_nil];exact hs
 have hres:∀(b:Nat) (sp:Nat→Bool) (hd:Bool),DataW.TrodAll enc P W' b sp hd f.resultTypes.toList ((Value.bool true).resultList f.resultTypes.size) (s.fn H (ds++[])).results []:=by
  intro b sp hd
  rw[hs',hf]
  exact trodAll_mk1 (shut_bool hT true)
 have hargs:∀sp:Nat→Bool,(∀x∈p,sp x.block=true)→DataW.TrodAll enc P W' 0 sp true f.params.toList args.toList (s.fn H (ds++[])).args p:=by
  intro sp hsp
  rw[hs']
  exact Qii hl hb hr hA hlt hsp
 have hold:∀x∈p,(fun b=>decide (b<W.heap.size)) x.block=true:=fun x hx=>by simpa using hlt x hx
 have hv:∀sp:Nat→Bool,DataW.TrodVars enc P W' sp s.vars (s.fn H (ds++[])).vars []:=by
  intro sp
  rw[hs',hvars]
  rfl
 have hfr:W.keptBut W' fun x=>x∈p++[]∧x∈p:=World.keptBut_mono (fun x hx=>⟨by simpa using hx,hx⟩) (hb.frame (·∈p))
 refine ⟨ds,[],p++[],[],p,[],hW0,hres _ _ _,hargs _ hold,hv _,?_,?_⟩
 · refine World.keptBut_mono (fun x hx=>?_) hfr
   exact ⟨hx.1,by simpa using hx.2⟩
 · intro h
   cases h
end
section
variable {H:Type} {enc:TypeId×Value→H}
end
end
section
open Go.ChangeShapes Go.WideShapes Go.Deep
set_option maxRecDepth 100000
inductive KT where
 | i (k:IntKind)
 | b
 | s (t:TypeId)
section
variable {H:Type} {enc:TypeId×Value→H} {P:Program} {w:World} {base:Nat} {spare:Nat→Bool} {held:Bool}
def KT.is (enc:TypeId×Value→H) (P:Program) (w:World) (base:Nat) (spare:Nat→Bool) (held:Bool):KT→Value→Prop
 | .i k,v=>∃n,v=.int k n∧(Lit.int k n).wf=true
 | .b,v=>∃b,v=.bool b
 | .s t,v=>∃fuel x,DataW.trod enc P w base spare held fuel t [v]=some x
def kIs (enc:TypeId×Value→H) (P:Program) (w:World) (base:Nat) (spare:Nat→Bool) (held:Bool):List KT→List Value→Prop
 | [],[]=>True
 | k::ks,v::vs=>k.is enc P w base spare held v∧kIs enc P w base spare held ks vs
 | _,_=>False
def RowK (enc:TypeId×Value→H) (P:Program) (w:World) (base:Nat) (spare:Nat→Bool) (held:Bool) (ks:List KT) (a:Option Addr) (len:Nat):Prop:=∀i,i<len→∃b o,a=some ⟨b,o,none⟩∧b<w.heap.size∧∃vs,kIs enc P w base spare held ks vs∧∀(t:Nat) (v:Value),vs[t]? =some v→w.cell? ⟨b,o+(i * ks.length+t),none⟩=some v
end
section
variable {H:Type} {enc:TypeId×Value→H} {w:World} {base:Nat} {spare:Nat→Bool} {held:Bool}
structure BlkD where
 sA:Option Addr
 sn:Nat
 sc:Nat
 s:Nat→GStmt
 jA:Option Addr
 jn:Nat
 jc:Nat
 ja:Nat→GOper
 jk:Int
 jo:GOper
 jf:Int
 jx:Int
 je:Int
 jd:GPlace
def Q2j (w:World) (a:Option Addr) (n size:Nat) (el:Nat→List Value):Prop:=∀i,i<n→∃b o,a=some ⟨b,o,none⟩∧b<w.heap.size∧∀(t:Nat) (v:Value),(el i)[t]? =some v→w.cell? ⟨b,o+(i * size+t),none⟩=some v
theorem RowK.at {ks:List KT} {a:Option Addr} {len:Nat} {α:Type} (z:α) (el:α→List Value) (Q:α→Prop) (hk:∀vs,kIs enc Tryz.prog w base spare held ks vs→∃x:α,vs=el x∧Q x) (h:RowK enc Tryz.prog w base spare held ks a len):∃f:Nat→α,Q2j w a len ks.length (fun i=>el (f i))∧∀i,i<len→Q (f i):=by
 have key:∀i,∃x:α,i<len→Q x∧∃b o,a=some ⟨b,o,none⟩∧b<w.heap.size∧∀(t:Nat) (v:Value),(el x)[t]? =some v→w.cell? ⟨b,o+(i * ks.length+t),none⟩=some v:=fun i=>by
  by_cases hi:i<len
  · obtain ⟨b,o,h1,h2,vs,h3,h4⟩:=h i hi
    obtain ⟨x,rfl,hq⟩:=hk vs h3
    exact ⟨x,fun _=>⟨hq,b,o,h1,h2,h4⟩⟩
  · exact ⟨z,fun h=>absurd h hi⟩
 exact ⟨fun i=>Classical.choose (key i),fun i hi=>(Classical.choose_spec (key i) hi).2,fun i hi=>(Classical.choose_spec (key i) hi).1⟩
def BlkD.cells (B:BlkD):List Value:=[.slice B.sA B.sn B.sc,.int .u8 B.jk,.int .u8 B.jo.k,.int .i64 B.jo.n,.int .i64 B.jo.p.l,.bool B.jo.p.d,.int .u8 B.jo.p.f,.int .i64 B.jf,.int .i64 B.jx,.int .i64 B.je,.slice B.jA B.jn B.jc,.int .i64 B.jd.l,.bool B.jd.d,.int .u8 B.jd.f]
def GFun.of (pa:Int) (un:Bool) (lA:Option Addr) (ln lc:Nat) (lt:Nat→Int×Int) (bA:Option Addr) (bn bc:Nat) (B:Nat→BlkD):GFun:=
 { pa:=pa,un:=un,lA:=lA,ln:=ln,lc:=lc,lk:=fun i=>(lt i).1,lt:=fun i=>(lt i).2,bA:=bA,bn:=bn,bc:=bc,sA:=fun b=>(B b).sA,sn:=fun b=>(B b).sn,sc:=fun b=>(B b).sc,s:=fun b=>(B b).s,
   jA:=fun b=>(B b).jA,jn:=fun b=>(B b).jn,jc:=fun b=>(B b).jc,ja:=fun b=>(B b).ja,jk:=fun b=>(B b).jk,jo:=fun b=>(B b).jo,jf:=fun b=>(B b).jf,jx:=fun b=>(B b).jx,je:=fun b=>(B b).je,jd:=fun b=>(B b).jd }
end
end
end Go.Proofs.YtamcjkgedgocfaaGreat
