/- Lemmas. No condition. -/
import Derived.Lib.SmallJoins
import Derived.OpenShut
import Derived.Test.YtemnfncbgalljabN3
import Derived.Deep.Slices
import Derived.Deep.Fields
import Derived.ChangeSame
namespace Go.Proofs.Ytemnfncbgalljab
open Go.ChangeShapes Go.WideShapes Go.ChangeAt Go.RowKit
set_option linter.all false
section
set_option maxRecDepth 100000
theorem Try.own:ownKnob Try.prog.godebug=none:=by kernel_rfl
theorem Try.laidOut:laidOutB Try.prog=true:=by kernel_rfl
theorem Try.boolRow:Try.prog.underlying 4=some .bool:=by kernel_rfl
section
variable {H:Type} {enc:TypeId×Value->H} {P:Program}
theorem Qii (hl:laidOutB P=true) {W W':World} (hb:Below W.heap.size W W') {sp:B9z}:
 ∀{ts:List TypeId} {vs:List Value} {ds:List (DataW H)} {ps:List MemPlace},(∀t∈ts,P.readableRec t=true/\t<P.types.size)->DataW.TrodAll enc P W 0 (fun _=>true) true ts vs ds ps->
  (∀p∈ps,p.block<W.heap.size)->(∀p∈ps,sp p.block=true)->DataW.TrodAll enc P W' 0 sp true ts vs ds ps
 | [],vs,ds,ps,_,h,_,_=>by
   obtain ⟨rfl,rfl,rfl⟩:=trodAll_nil h
   exact trodAll_mk0
 | t::ts,vs,ds,ps,hr,h,hlt,hsp=>by
   obtain ⟨v,vs',d,ds',p,q,rfl,rfl,rfl,h0,h1⟩:=trodAll_cons h
   have h2:=Qii hl hb (fun t ht=>hr t (by simp[ht])) h1 (fun p hp=>hlt p (by simp[hp])) (fun p hp=>hsp p (by simp[hp]))
   refine ⟨p,q,?_,h2,rfl⟩
   exact WideElems.Trod_stays hl (hr t (by simp)).1 (hr t (by simp)).2 h0 (fun x hx=>hb.same (hlt x (by simp[hx]))) (fun x hx=>hsp x (by simp[hx]))
theorem Q20 (hl:laidOutB P=true) {f:Func} {s:ChangeSpec} {W W':World} {args:Array Value} {ds gs:List (DataW H)} {before:List MemPlace} {T:TypeId}
 (hvars:s.vars=[]) (hW:DataW.Whole enc P f.params.toList s.vars false W args.toList ds gs before) (hr:∀t∈f.params.toList,P.readableRec t=true/\t<P.types.size)
 (hs:s.fn H ds={ results:=[.lit (.bool true)],args:=ds }) (hb:Below W.heap.size W W') (hf:f.resultTypes=#[T]) (hT:P.underlying T=some .bool):
 s.post enc P f false true false false W args (.bool true) W':=by
 have hW0:=hW
 obtain ⟨p,q,hA,hV,rfl,hz,_⟩:=hW
 rw[hvars] at hV
 obtain ⟨rfl,rfl⟩:=trodVars_none hV
 have hlt:∀x∈p,x.block<W.heap.size:=fun x hx=>hW0.lt x (by simp[hx])
 have hs':s.fn H (ds++[])={ results:=[.lit (.bool true)],args:=ds }:=by rw[List.append_nil];exact hs
 have hres:∀(b:Nat) (sp:B9z) (hd:Bool),DataW.TrodAll enc P W' b sp hd f.resultTypes.toList ((Value.bool true).resultList f.resultTypes.size) (s.fn H (ds++[])).results []:=by
  intro b sp hd
  rw[hs',hf]
  exact trodAll_mk1 (shut_bool hT true)
 have hargs:∀sp:B9z,(∀x∈p,sp x.block=true)->DataW.TrodAll enc P W' 0 sp true f.params.toList args.toList (s.fn H (ds++[])).args p:=by
  intro sp hsp
  rw[hs']
  exact Qii hl hb hr hA hlt hsp
 have hold:∀x∈p,(fun b=>decide (b<W.heap.size)) x.block=true:=fun x hx=>by simpa using hlt x hx
 have hv:∀sp:B9z,DataW.TrodVars enc P W' sp s.vars (s.fn H (ds++[])).vars []:=by
  intro sp
  rw[hs',hvars]
  rfl
 have hfr:W.keptBut W' fun x=>x∈p++[]/\x∈p:=World.keptBut_mono (fun x hx=>⟨by simpa using hx,hx⟩) (hb.frame (·∈p))
 refine ⟨ds,[],p++[],[],p,[],hW0,hres _ _ _,hargs _ hold,hv _,?_,?_⟩
 · refine World.keptBut_mono (fun x hx=>?_) hfr
   exact ⟨hx.1,by simpa using hx.2⟩
 · intro h
   cases h
end
section
variable {H:Type} {enc:TypeId×Value->H}
theorem Qgpa {W:World} {base b0:Nat} {spare:B9z} {held:Bool} {r:Reach} {v:Value} {d:DataW H} {p:List MemPlace}
 (h:DataW.Trod enc Try.prog W base spare held 3 v d p) (hv:Value.okWide Try.prog W r b0 3 v):
 ∃n:Int,v=.int .i64 n/\-9223372036854775808<=n/\n<=9223372036854775807:=by
 obtain ⟨n,rfl,rfl,rfl,wn⟩:=open_int Try.underlying3 hv h
 have h1:=bounds_i64 wn
 exact ⟨n,rfl,h1.1,h1.2⟩
end
end
section
open Go.ChangeShapes Go.WideShapes Go.Deep
set_option maxRecDepth 100000
inductive KT where
 | i (k:IntKind)
 | b
 | s (t:TypeId)
def Q8o (P:Program) (g:TypeId->Option (List KT)):List Field->Nat->Option (List KT)
 | [],_=>some []
 | f::l,o=>if f.offset=o then match g f.type with
   | some ks=>if P.cellsOf f.type=ks.length then match Q8o P g l (o+ks.length) with
     | some r=>some (ks++r)
     | none=>none else none
   | none=>none else none
def Qfw (P:Program):Nat->TypeId->Option (List KT)
 | 0,_=>none
 | n+1,t=>match P.underlying t with
   | some (.int k)=>some [.i k]
   | some .bool=>some [.b]
   | some (.slice _)=>some [.s t]
   | some (.struct fs)=>match Q8o P (Qfw P n) fs.toList 0 with
     | some ks=>if P.cellsOf t=ks.length then some ks else none
     | none=>none
   | _=>none
section
variable {H:Type} {enc:TypeId×Value->H} {P:Program} {w:World} {base:Nat} {spare:B9z} {held:Bool}
def KT.is (enc:TypeId×Value->H) (P:Program) (w:World) (base:Nat) (spare:B9z) (held:Bool):KT->Value->Prop
 | .i k,v=>∃n,v=.int k n/\(Lit.int k n).wf=true
 | .b,v=>∃b,v=.bool b
 | .s t,v=>∃fuel x,DataW.trod enc P w base spare held fuel t [v]=some x
def kIs (enc:TypeId×Value->H) (P:Program) (w:World) (base:Nat) (spare:B9z) (held:Bool):List KT->List Value->Prop
 | [],[]=>True
 | k::ks,v::vs=>k.is enc P w base spare held v/\kIs enc P w base spare held ks vs
 | _,_=>False
theorem Qsa {k:KT} {ks:List KT} {vs:List Value} (h:kIs enc P w base spare held (k::ks) vs):∃v r,vs=v::r/\k.is enc P w base spare held v/\kIs enc P w base spare held ks r:=by
 cases vs with
 | nil=>exact h.elim
 | cons v r=>exact ⟨v,r,rfl,h.1,h.2⟩
theorem Q4i {vs:List Value} (h:kIs enc P w base spare held [] vs):vs=[]:=by
 cases vs with
 | nil=>rfl
 | cons v r=>exact h.elim
theorem Qxn:∀{ks:List KT} {vs:List Value},kIs enc P w base spare held ks vs->vs.length=ks.length
 | [],vs,h=>by rw[Q4i h];rfl
 | k::ks,vs,h=>by
   obtain ⟨v,r,rfl,_,h2⟩:=Qsa h
   simp[Qxn h2]
theorem Qhx:∀{ks ks':List KT} {vs vs':List Value},kIs enc P w base spare held ks vs->kIs enc P w base spare held ks' vs'->kIs enc P w base spare held (ks++ks') (vs++vs')
 | [],ks',vs,vs',h,h'=>by rw[Q4i h];exact h'
 | k::ks,ks',vs,vs',h,h'=>by
   obtain ⟨v,r,rfl,h1,h2⟩:=Qsa h
   exact ⟨h1,Qhx h2 h'⟩
theorem Q9o {g:TypeId->Option (List KT)} {n:Nat} (hg:∀t ks fuel cs x,g t=some ks->DataW.trod enc P w base spare held fuel t cs=some x->kIs enc P w base spare held ks cs) {cs:List Value}:∀(l:List Field) (o:Nat) (ks:List KT),Q8o P g l o=some ks->
 (∀(i:Nat) (f:Field),l[i]? =some f->∃x,DataW.trod enc P w base spare held n f.type ((cs.drop f.offset).take (P.cellsOf f.type))=some x)->kIs enc P w base spare held ks ((cs.drop o).take ks.length)
 | [],o,ks,h,_=>by simp[Q8o] at h;subst h;simp[kIs]
 | f::l,o,ks,h,hx=>by
   simp only[Q8o] at h
   split at h
   · rename_i ho
     split at h
     · rename_i k1 h1
       split at h
       · rename_i hc
         split at h
         · rename_i r h2
           cases h
           obtain ⟨x,hx0⟩:=hx 0 f rfl
           have e1:=hg _ _ _ _ _ h1 hx0
           rw[hc,ho] at e1
           have e2:=Q9o hg l _ r h2 (fun i f' hi=>hx (i+1) f' (by simpa using hi))
           rw[List.length_append,List.take_add,List.drop_drop]
           exact Qhx e1 e2
         · cases h
       · cases h
     · cases h
   · cases h
theorem Q2q:∀(n:Nat) (t:TypeId) (ks:List KT) (fuel:Nat) (cs:List Value) (x:DataW H×List MemPlace),Qfw P n t=some ks->DataW.trod enc P w base spare held fuel t cs=some x->kIs enc P w base spare held ks cs
 | 0,t,ks,fuel,cs,x,h,_=>by simp[Qfw] at h
 | n+1,t,ks,fuel,cs,x,h,hx=>by
   simp only[Qfw] at h
   split at h
   · rename_i k hu
     cases h
     obtain ⟨m,rfl,_,hw⟩:=DataW.trod_int hu hx
     exact ⟨⟨m,rfl,hw⟩,trivial⟩
   · rename_i hu
     cases h
     obtain ⟨b,rfl,_⟩:=DataW.trod_bool hu hx
     exact ⟨⟨b,rfl⟩,trivial⟩
   · rename_i e hu
     cases h
     rcases open_slice hu hx with ⟨rfl,_⟩|⟨a,len,cap,m,n',D,Pl,rfl,_⟩
     · exact ⟨⟨fuel,x,hx⟩,trivial⟩
     · exact ⟨⟨fuel,x,hx⟩,trivial⟩
   · rename_i fs hu
     split at h
     · rename_i ks' h1
       split at h
       · rename_i hc
         cases h
         obtain ⟨xs,n',_,_,hl,hxl,hf⟩:=DataW.trod_struct hu hx
         have:=Q9o (n:=n') (Q2q n) fs.toList 0 ks h1 (fun i f hi=>by
          have hi':fs[i]? =some f:=by simpa using hi
          have hlt:i<xs.length:=by rw[hxl];exact (Array.getElem?_eq_some_iff.1 hi').1
          exact ⟨_,(hf i f hi').trans (List.getElem?_eq_getElem hlt)⟩)
         rw[List.drop_zero,<-hc,<-hl,List.take_length] at this
         exact this
       · cases h
     · cases h
   · cases h
def RowK (enc:TypeId×Value->H) (P:Program) (w:World) (base:Nat) (spare:B9z) (held:Bool) (ks:List KT) (a:Option Addr) (len:Nat):Prop:=∀i,i<len->∃b o,a=some ⟨b,o,none⟩/\b<w.heap.size/\∃vs,kIs enc P w base spare held ks vs/\∀(t:Nat) (v:Value),vs[t]? =some v->w.cell? ⟨b,o+(i * ks.length+t),none⟩=some v
theorem Qag {t e:TypeId} {n:Nat} {ks:List KT} {v:Value} (ht:P.underlying t=some (.slice e)) (hk:Qfw P n e=some ks) (h0:0<ks.length) (h:∃fuel x,DataW.trod enc P w base (fun _=>true) held fuel t [v]=some x):
 ∃a len cap,v=.slice a len cap/\len<=maxLen/\RowK enc P w base (fun _=>true) held ks a len:=by
 obtain ⟨fuel,x,hx⟩:=h
 rcases open_slice ht hx with ⟨hc,_⟩|⟨a,len,cap,m,n',D,Pl,hc,_,hl,hm,hmm,_,hi⟩
 · simp at hc;subst hc
   exact ⟨none,0,0,rfl,Nat.zero_le _,fun i hi=>absurd hi (Nat.not_lt_zero _)⟩
 · simp at hc;subst hc
   refine ⟨some a,len,cap,rfl,by omega,fun i hil=>?_⟩
   have hcap:m=cap:=by rw[hmm];rfl
   obtain ⟨cs',hcs,hd⟩:=hi i o9
   have hks:=Q2q n e ks n' cs' _ hk hd
   have hlen:=Qxn hks
   obtain ⟨_,hcl,hat⟩:=World.cells?_some hcs
   have hC:P.cellsOf e=ks.length:=by rw[<-hcl,hlen]
   rw[hC] at hat
   obtain ⟨b,o,spot⟩:=a
   have hspot:spot=none:=by
    obtain ⟨cs0,hcs0,hd0⟩:=hi 0 o9
    have hlen0:=Qxn (Q2q n e ks n' cs0 _ hk hd0)
    obtain ⟨_,_,hat0⟩:=World.cells?_some hcs0
    rw[hC] at hat0
    have h00:=hat0 0 o9
    have:∃u,w.cell? (((⟨b,o,spot⟩:Addr).add (0 * ks.length)).add 0)=some u:=⟨cs0[0]'o9,by rw[h00,List.getElem?_eq_getElem]⟩
    obtain ⟨u,hu⟩:=this
    simpa [Addr.add] using World.cell?_spot hu
   subst hspot
   have hcell:∀(t:Nat) (v:Value),cs'[t]? =some v->w.cell? ⟨b,o+(i * ks.length+t),none⟩=some v:=fun t v ht=>by
    have hlt:t<ks.length:=by rw[<-hlen];exact (List.getElem?_eq_some_iff.1 ht).1
    have:=hat t hlt
    rw[ht,Go.Deep.add_add,add_plain] at this
    exact this
   refine ⟨b,o,rfl,?_,cs',hks,hcell⟩
   exact World.block_lt_of_cell? w _ (hcell 0 (cs'[0]'o9) (List.getElem?_eq_getElem o9))
end
section
variable {H:Type} {enc:TypeId×Value->H} {w:World} {base:Nat} {spare:B9z} {held:Bool}
def Qv2:List KT:=[.i .u8,.i .i64,.i .i64,.b,.i .u8]
def Qw2:List KT:=[.i .u8,.i .u8]
def Q3s:List KT:=[.i .u8,.i .i64,.b,.i .u8,.i .u8,.i .u8,.i .u8,.i .u8,.i .i64,.i .i64,.b,.i .u8,.i .u8,.i .i64,.i .i64,.b,.i .u8,.i .i64,.b,.i .u8,.i .u8,.i .i64,.i .i64,.b,.i .u8,.i .i64]
def Qhr:List KT:=[.s 28,.i .u8,.i .u8,.i .i64,.i .i64,.b,.i .u8,.i .i64,.i .i64,.i .i64,.s 33,.i .i64,.b,.i .u8]
theorem Qb5 {vs:List Value} (h:kIs enc Try.prog w base spare held Qv2 vs):∃o:GOper,vs=o.cells:=by
 obtain ⟨v0,r0,rfl,⟨n0,rfl,w0⟩,h0⟩:=Qsa h
 obtain ⟨v1,r1,rfl,⟨n1,rfl,w1⟩,h1⟩:=Qsa h0
 obtain ⟨v2,r2,rfl,⟨n2,rfl,w2⟩,h2⟩:=Qsa h1
 obtain ⟨v3,r3,rfl,⟨n3,rfl⟩,h3⟩:=Qsa h2
 obtain ⟨v4,r4,rfl,⟨n4,rfl,w4⟩,h4⟩:=Qsa h3
 obtain rfl:=Q4i h4
 exact ⟨⟨n0,n1,⟨n2,n3,n4⟩⟩,rfl⟩
theorem Qc5 {vs:List Value} (h:kIs enc Try.prog w base spare held Q3s vs):∃s:GStmt,vs=s.cells:=by
 obtain ⟨v0,r0,rfl,⟨n0,rfl,w0⟩,h0⟩:=Qsa h
 obtain ⟨v1,r1,rfl,⟨n1,rfl,w1⟩,h1⟩:=Qsa h0
 obtain ⟨v2,r2,rfl,⟨n2,rfl⟩,h2⟩:=Qsa h1
 obtain ⟨v3,r3,rfl,⟨n3,rfl,w3⟩,h3⟩:=Qsa h2
 obtain ⟨v4,r4,rfl,⟨n4,rfl,w4⟩,h4⟩:=Qsa h3
 obtain ⟨v5,r5,rfl,⟨n5,rfl,w5⟩,h5⟩:=Qsa h4
 obtain ⟨v6,r6,rfl,⟨n6,rfl,w6⟩,h6⟩:=Qsa h5
 obtain ⟨v7,r7,rfl,⟨n7,rfl,w7⟩,h7⟩:=Qsa h6
 obtain ⟨v8,r8,rfl,⟨n8,rfl,w8⟩,h8⟩:=Qsa h7
 obtain ⟨v9,r9,rfl,⟨n9,rfl,w9⟩,h9⟩:=Qsa h8
 obtain ⟨v10,r10,rfl,⟨n10,rfl⟩,h10⟩:=Qsa h9
 obtain ⟨v11,r11,rfl,⟨n11,rfl,w11⟩,h11⟩:=Qsa h10
 obtain ⟨v12,r12,rfl,⟨n12,rfl,w12⟩,h12⟩:=Qsa h11
 obtain ⟨v13,r13,rfl,⟨n13,rfl,w13⟩,h13⟩:=Qsa h12
 obtain ⟨v14,r14,rfl,⟨n14,rfl,w14⟩,h14⟩:=Qsa h13
 obtain ⟨v15,r15,rfl,⟨n15,rfl⟩,h15⟩:=Qsa h14
 obtain ⟨v16,r16,rfl,⟨n16,rfl,w16⟩,h16⟩:=Qsa h15
 obtain ⟨v17,r17,rfl,⟨n17,rfl,w17⟩,h17⟩:=Qsa h16
 obtain ⟨v18,r18,rfl,⟨n18,rfl⟩,h18⟩:=Qsa h17
 obtain ⟨v19,r19,rfl,⟨n19,rfl,w19⟩,h19⟩:=Qsa h18
 obtain ⟨v20,r20,rfl,⟨n20,rfl,w20⟩,h20⟩:=Qsa h19
 obtain ⟨v21,r21,rfl,⟨n21,rfl,w21⟩,h21⟩:=Qsa h20
 obtain ⟨v22,r22,rfl,⟨n22,rfl,w22⟩,h22⟩:=Qsa h21
 obtain ⟨v23,r23,rfl,⟨n23,rfl⟩,h23⟩:=Qsa h22
 obtain ⟨v24,r24,rfl,⟨n24,rfl,w24⟩,h24⟩:=Qsa h23
 obtain ⟨v25,r25,rfl,⟨n25,rfl,w25⟩,h25⟩:=Qsa h24
 obtain rfl:=Q4i h25
 exact ⟨⟨n0,⟨n1,n2,n3⟩,⟨n4,n5,n6,⟨n7,n8,⟨n9,n10,n11⟩⟩,⟨n12,n13,⟨n14,n15,n16⟩⟩,⟨n17,n18,n19⟩⟩,⟨n20,n21,⟨n22,n23,n24⟩⟩,n25⟩,rfl⟩
theorem Qd5 {vs:List Value} (h:kIs enc Try.prog w base spare held Qw2 vs):∃k t:Int,vs=[.int .u8 k,.int .u8 t]/\0<=k/\k<=255/\0<=t/\t<=255:=by
 obtain ⟨v0,r0,rfl,⟨n0,rfl,w0⟩,h0⟩:=Qsa h
 obtain ⟨v1,r1,rfl,⟨n1,rfl,w1⟩,h1⟩:=Qsa h0
 obtain rfl:=Q4i h1
 have b1:=bounds_u8 w0
 have b2:=bounds_u8 w1
 exact ⟨n0,n1,rfl,b1.1,b1.2,b2.1,b2.2⟩
structure BlkD where
 sA:Option Addr
 sn:Nat
 sc:Nat
 s:Nat->GStmt
 jA:Option Addr
 jn:Nat
 jc:Nat
 ja:Nat->GOper
 jk:Int
 jo:GOper
 jf:Int
 jx:Int
 je:Int
 jd:GPlace
def Q2j (w:World) (a:Option Addr) (n size:Nat) (el:Nat->List Value):Prop:=∀i,i<n->∃b o,a=some ⟨b,o,none⟩/\b<w.heap.size/\∀(t:Nat) (v:Value),(el i)[t]? =some v->w.cell? ⟨b,o+(i * size+t),none⟩=some v
theorem RowK.at {ks:List KT} {a:Option Addr} {len:Nat} {α:Type} (z:α) (el:α->List Value) (Q:α->Prop) (hk:∀vs,kIs enc Try.prog w base spare held ks vs->∃x:α,vs=el x/\Q x) (h:RowK enc Try.prog w base spare held ks a len):∃f:Nat->α,Q2j w a len ks.length (fun i=>el (f i))/\∀i,i<len->Q (f i):=by
 have key:∀i,∃x:α,i<len->Q x/\∃b o,a=some ⟨b,o,none⟩/\b<w.heap.size/\∀(t:Nat) (v:Value),(el x)[t]? =some v->w.cell? ⟨b,o+(i * ks.length+t),none⟩=some v:=fun i=>by
  by_cases hi:i<len
  · obtain ⟨b,o,h1,h2,vs,h3,h4⟩:=h i hi
    obtain ⟨x,rfl,hq⟩:=hk vs h3
    exact ⟨x,fun _=>⟨hq,b,o,h1,h2,h4⟩⟩
  · exact ⟨z,fun h=>absurd h hi⟩
 exact ⟨fun i=>Classical.choose (key i),fun i hi=>(Classical.choose_spec (key i) hi).2,fun i hi=>(Classical.choose_spec (key i) hi).1⟩
def BlkD.cells (B:BlkD):List Value:=[.slice B.sA B.sn B.sc,.int .u8 B.jk,.int .u8 B.jo.k,.int .i64 B.jo.n,.int .i64 B.jo.p.l,.bool B.jo.p.d,.int .u8 B.jo.p.f,.int .i64 B.jf,.int .i64 B.jx,.int .i64 B.je,.slice B.jA B.jn B.jc,.int .i64 B.jd.l,.bool B.jd.d,.int .u8 B.jd.f]
theorem Q00 {vs:List Value} (h:kIs enc Try.prog w base (fun _=>true) held Qhr vs):∃B:BlkD,vs=B.cells/\(B.sn<=maxLen/\B.jn<=maxLen/\Q2j w B.sA B.sn 26 (fun i=>(B.s i).cells)/\Q2j w B.jA B.jn 5 (fun i=>(B.ja i).cells)):=by
 obtain ⟨v0,r0,rfl,s0,h0⟩:=Qsa h
 obtain ⟨v1,r1,rfl,⟨n1,rfl,w1⟩,h1⟩:=Qsa h0
 obtain ⟨v2,r2,rfl,⟨n2,rfl,w2⟩,h2⟩:=Qsa h1
 obtain ⟨v3,r3,rfl,⟨n3,rfl,w3⟩,h3⟩:=Qsa h2
 obtain ⟨v4,r4,rfl,⟨n4,rfl,w4⟩,h4⟩:=Qsa h3
 obtain ⟨v5,r5,rfl,⟨n5,rfl⟩,h5⟩:=Qsa h4
 obtain ⟨v6,r6,rfl,⟨n6,rfl,w6⟩,h6⟩:=Qsa h5
 obtain ⟨v7,r7,rfl,⟨n7,rfl,w7⟩,h7⟩:=Qsa h6
 obtain ⟨v8,r8,rfl,⟨n8,rfl,w8⟩,h8⟩:=Qsa h7
 obtain ⟨v9,r9,rfl,⟨n9,rfl,w9⟩,h9⟩:=Qsa h8
 obtain ⟨v10,r10,rfl,s10,h10⟩:=Qsa h9
 obtain ⟨v11,r11,rfl,⟨n11,rfl,w11⟩,h11⟩:=Qsa h10
 obtain ⟨v12,r12,rfl,⟨n12,rfl⟩,h12⟩:=Qsa h11
 obtain ⟨v13,r13,rfl,⟨n13,rfl,w13⟩,h13⟩:=Qsa h12
 obtain rfl:=Q4i h13
 obtain ⟨sA,sn,sc,rfl,hs1,hs2⟩:=Qag Try.underlying28 (n:=5) (ks:=Q3s) (by kernel_rfl) (by decide) s0
 obtain ⟨jA,jn,jc,rfl,hj1,hj2⟩:=Qag Try.underlying33 (n:=5) (ks:=Qv2) (by kernel_rfl) (by decide) s10
 obtain ⟨s,hs3,_⟩:=hs2.at (GStmt.mk 0 .zero .zero .zero 0) GStmt.cells (fun _=>True) (fun vs h=>(Qc5 h).elim fun s e=>⟨s,e,trivial⟩)
 obtain ⟨ja,hj3,_⟩:=hj2.at GOper.zero GOper.cells (fun _=>True) (fun vs h=>(Qb5 h).elim fun s e=>⟨s,e,trivial⟩)
 exact ⟨⟨sA,sn,sc,s,jA,jn,jc,ja,n1,⟨n2,n3,⟨n4,n5,n6⟩⟩,n7,n8,n9,⟨n11,n12,n13⟩⟩,rfl,hs1,hj1,hs3,hj3⟩
def GFun.of (pa:Int) (un:Bool) (lA:Option Addr) (ln lc:Nat) (lt:Nat->Int×Int) (bA:Option Addr) (bn bc:Nat) (B:Nat->BlkD):GFun:=
 { pa:=pa,un:=un,lA:=lA,ln:=ln,lc:=lc,lk:=fun i=>(lt i).1,lt:=fun i=>(lt i).2,bA:=bA,bn:=bn,bc:=bc,sA:=fun b=>(B b).sA,sn:=fun b=>(B b).sn,sc:=fun b=>(B b).sc,s:=fun b=>(B b).s,
   jA:=fun b=>(B b).jA,jn:=fun b=>(B b).jn,jc:=fun b=>(B b).jc,ja:=fun b=>(B b).ja,jk:=fun b=>(B b).jk,jo:=fun b=>(B b).jo,jf:=fun b=>(B b).jf,jx:=fun b=>(B b).jx,je:=fun b=>(B b).je,jd:=fun b=>(B b).jd }
theorem Q9y {e:Env}:∀(l:List SC) (vs:List Value),l.map (toC e.chi)=vs.map some->isL e l vs
 | [],[],_=>trivial
 | c::l,v::vs,h=>by
   simp only[List.map_cons,List.cons.injEq] at h
   refine ⟨?_,Q9y l vs h.2⟩
   have h1:=h.1
   cases c<;>simp only[toC] at h1<;>first|(cases h1;rfl)|cases h1
 | [],_::_,h=>by simp at h
 | _::_,[],h=>by simp at h
theorem GFun.of_at {pa:Int} {un:Bool} {lA:Option Addr} {ln lc:Nat} {lt:Nat->Int×Int} {bA:Option Addr} {bn bc:Nat} {B:Nat->BlkD} (hl:Q2j w lA ln 2 (fun i=>[.int .u8 (lt i).1,.int .u8 (lt i).2])) (hb:Q2j w bA bn 14 (fun i=>(B i).cells)) (hl1:ln<=maxLen) (hb1:bn<=maxLen)
 (hB:∀i,(B i).sn<=maxLen/\(B i).jn<=maxLen/\Q2j w (B i).sA (B i).sn 26 (fun j=>((B i).s j).cells)/\Q2j w (B i).jA (B i).jn 5 (fun j=>((B i).ja j).cells)):(GFun.of pa un lA ln lc lt bA bn bc B).At w:=by
 refine ⟨fun q i j hj=>?_,?_,?_,fun b=>?_,fun b=>?_⟩
 · match q,hj with
   | 0,hj=>
     obtain ⟨b,o,h1,h2,h3⟩:=hl j hj
     exact ⟨b,o,h1,h2,by simp,_,Q9y _ _ rfl,h3⟩
   | 1,hj=>
     obtain ⟨b,o,h1,h2,h3⟩:=hb j hj
     exact ⟨b,o,h1,h2,by simp,_,Q9y _ _ rfl,h3⟩
   | 2,hj=>
     obtain ⟨b,o,h1,h2,h3⟩:=(hB i).2.2.1 j hj
     exact ⟨b,o,h1,h2,by simp,_,Q9y _ _ rfl,h3⟩
   | q+3,hj=>
     obtain ⟨b,o,h1,h2,h3⟩:=(hB i).2.2.2 j hj
     exact ⟨b,o,h1,h2,by simp,_,Q9y _ _ rfl,h3⟩
 · exact Nat.le_trans hl1 (by decide)
 · exact Nat.le_trans hb1 (by decide)
 · exact Nat.le_trans (hB b).1 (by decide)
 · exact Nat.le_trans (hB b).2.1 (by decide)
theorem Qepa {W:World} {base b0:Nat} {r:Reach} {v:Value} {d:DataW H} {p:List MemPlace} {held:Bool}
 (h:DataW.Trod enc Try.prog W base (fun _=>true) held 25 v d p) (hv:Value.okWide Try.prog W r b0 25 v):
 ∃F:GFun,v=F.val/\F.At W/\F.Ty8:=by
 obtain ⟨c0,c1,c2,c3,y0,y1,y2,y3,m,rfl,rfl,rfl,hy0,hy1,hy2,hy3⟩:=Go.Joins.open_agg4 Try.underlying25 (by kernel_rfl) (by kernel_rfl) hv h
 obtain ⟨pa,e0,_,_⟩:=DataW.trod_int Try.underlying3 hy0
 obtain ⟨un,e1,_⟩:=DataW.trod_bool Try.underlying4 hy1
 simp at e0 e1
 subst e0 e1
 obtain ⟨lA,ln,lc,rfl,hl1,hl2⟩:=Qag Try.underlying22 (n:=5) (ks:=Qw2) (by kernel_rfl) (by decide) ⟨_,_,hy2⟩
 obtain ⟨bA,bn,bc,rfl,hb1,hb2⟩:=Qag Try.underlying23 (n:=5) (ks:=Qhr) (by kernel_rfl) (by decide) ⟨_,_,hy3⟩
 obtain ⟨lt,hl3,hl4⟩:=hl2.at ((0,0):Int×Int) (fun x=>[.int .u8 x.1,.int .u8 x.2]) (fun x=>0<=x.1/\x.1<=255/\0<=x.2/\x.2<=255) (fun vs h=>by
  obtain ⟨k,t,e,b⟩:=Qd5 h
  exact ⟨(k,t),e,b⟩)
 have zB:∃Z:BlkD,Z.sn=0/\Z.jn=0:=⟨⟨none,0,0,fun _=>.mk 0 .zero .zero .zero 0,none,0,0,fun _=>.zero,0,.zero,0,0,0,.zero⟩,rfl,rfl⟩
 obtain ⟨Z,z1,z2⟩:=zB
 obtain ⟨B,hB1,hB2⟩:=hb2.at Z BlkD.cells (fun B=>B.sn<=maxLen/\B.jn<=maxLen/\Q2j W B.sA B.sn 26 (fun i=>(B.s i).cells)/\Q2j W B.jA B.jn 5 (fun i=>(B.ja i).cells)) (fun vs h=>Q00 h)
 refine ⟨GFun.of pa un lA ln lc lt bA bn bc (fun i=>if i<bn then B i else Z),rfl,GFun.of_at hl3 (fun i hi=>?_) hl1 hb1 (fun i=>?_),fun i hi=>hl4 i hi⟩
 · have:=hB1 i hi
   simp only[if_pos hi]
   exact this
 · by_cases hi:i<bn
   · simp only[if_pos hi];exact hB2 i hi
   · simp only[if_neg hi,z1,z2]
     exact ⟨Nat.zero_le _,Nat.zero_le _,fun j hj=>absurd hj (Nat.not_lt_zero _),fun j hj=>absurd hj (Nat.not_lt_zero _)⟩
end
end
end Go.Proofs.Ytemnfncbgalljab
