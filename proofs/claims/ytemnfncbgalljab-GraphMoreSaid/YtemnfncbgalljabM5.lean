/- Lemmas. No condition. -/
import Derived.Test.YtemnfncbgalljabM4
namespace Go.Proofs.Ytemnfncbgalljab
open Go.RowKit
set_option linter.all false
def Q0x:List (Nat×Ty)->Nat->Option Ty
 | [],_=>none
 | (t,y)::l,s=>if s=t then some y else Q0x l s
theorem Q7k:∀{l:List (Nat×Ty)} {t:Nat} {y:Ty},Q0x l t=some y->(t,y)∈l
 | [],_,_,h=>by cases h
 | (t',y')::l,t,y,h=>by
  unfold Q0x at h
  split at h
  · rename_i e;subst e;cases h;exact List.mem_cons_self ..
  · exact List.mem_cons_of_mem _ (Q7k h)
def tabL:List (Nat×Ty):=
 (5,.one (.int .u8 0))::
 (3,.one (.int .i64 0))::
 (2,.one (.int .i64 0))::
 (44,.one (.int .i64 0))::
 (67,.one (.int .u32 0))::
 (87,.one (.int .u64 0))::
 (151,.one (.int .u64 0))::
 (4,.one (.lit false))::
 (55,.struct 2 [.int .u8 0,.int .u8 0] [(0,1,false),(1,1,false)] true)::
 (30,.struct 3 [.int .i64 0,.lit false,.int .u8 0] [(0,1,false),(1,1,false),(2,1,false)] true)::
 (32,.struct 5 [.int .u8 0,.int .i64 0,.int .i64 0,.lit false,.int .u8 0] [(0,1,false),(1,1,false),(2,3,true)] true)::
 (41,.struct 16 [.int .u8 0,.int .u8 0,.int .u8 0,.int .u8 0,.int .i64 0,.int .i64 0,.lit false,.int .u8 0,.int .u8 0,.int .i64 0,.int .i64 0,.lit false,.int .u8 0,.int .i64 0,.lit false,.int .u8 0] [(0,1,false),(1,1,false),(2,1,false),(3,5,true),(8,5,true),(13,3,true)] true)::
 (43,.struct 26 [.int .u8 0,.int .i64 0,.lit false,.int .u8 0,.int .u8 0,.int .u8 0,.int .u8 0,.int .u8 0,.int .i64 0,.int .i64 0,.lit false,.int .u8 0,.int .u8 0,.int .i64 0,.int .i64 0,.lit false,.int .u8 0,.int .i64 0,.lit false,.int .u8 0,.int .u8 0,.int .i64 0,.int .i64 0,.lit false,.int .u8 0,.int .i64 0] [(0,1,false),(1,3,true),(4,16,true),(20,5,true),(25,1,false)] true)::
 (35,.struct 13 [.int .u8 0,.int .u8 0,.int .i64 0,.int .i64 0,.lit false,.int .u8 0,.int .i64 0,.int .i64 0,.int .i64 0,Q4b,.int .i64 0,.lit false,.int .u8 0] [(0,1,false),(1,5,true),(6,1,false),(7,1,false),(8,1,false),(9,1,false),(10,3,true)] false)::
 (37,.struct 14 [Q4b,.int .u8 0,.int .u8 0,.int .i64 0,.int .i64 0,.lit false,.int .u8 0,.int .i64 0,.int .i64 0,.int .i64 0,Q4b,.int .i64 0,.lit false,.int .u8 0] [(0,1,false),(1,13,true)] false)::
 (25,.struct 4 [.int .i64 0,.lit false,Q4b,Q4b] [(0,1,false),(1,1,false),(2,1,false),(3,1,false)] false)::
 (48,.struct 2 [.int .i64 0,.int .i64 0] [(0,1,false),(1,1,false)] true)::
 (108,.struct 4 [.int .i64 0,.lit false,.lit false,.lit false] [(0,1,false),(1,1,false),(2,1,false),(3,1,false)] true)::
 (22,.slice 2 true [.int .u8 0,.int .u8 0])::
 (33,.slice 5 true [.int .u8 0,.int .i64 0,.int .i64 0,.lit false,.int .u8 0])::
 (28,.slice 26 true [.int .u8 0,.int .i64 0,.lit false,.int .u8 0,.int .u8 0,.int .u8 0,.int .u8 0,.int .u8 0,.int .i64 0,.int .i64 0,.lit false,.int .u8 0,.int .u8 0,.int .i64 0,.int .i64 0,.lit false,.int .u8 0,.int .i64 0,.lit false,.int .u8 0,.int .u8 0,.int .i64 0,.int .i64 0,.lit false,.int .u8 0,.int .i64 0])::
 (23,.slice 14 true [Q4b,.int .u8 0,.int .u8 0,.int .i64 0,.int .i64 0,.lit false,.int .u8 0,.int .i64 0,.int .i64 0,.int .i64 0,Q4b,.int .i64 0,.lit false,.int .u8 0])::
 (71,.slice 2 true [.int .i64 0,.int .i64 0])::
 (105,.slice 4 true [.int .i64 0,.lit false,.lit false,.lit false])::
 (82,.slice 1 false [.int .i64 0])::
 (49,.slice 1 false [.lit false])::
 (63,.slice 1 false [.int .u32 0])::
 (159,.arr 2 5 true [.int .u8 0,.int .i64 0,.int .i64 0,.lit false,.int .u8 0,.int .u8 0,.int .i64 0,.int .i64 0,.lit false,.int .u8 0])::
 (93,.arr 16 1 false [.int .i64 0,.int .i64 0,.int .i64 0,.int .i64 0,.int .i64 0,.int .i64 0,.int .i64 0,.int .i64 0,.int .i64 0,.int .i64 0,.int .i64 0,.int .i64 0,.int .i64 0,.int .i64 0,.int .i64 0,.int .i64 0])::
 (69,.arr 16 1 false [.lit false,.lit false,.lit false,.lit false,.lit false,.lit false,.lit false,.lit false,.lit false,.lit false,.lit false,.lit false,.lit false,.lit false,.lit false,.lit false])::
 []
def Ql7 (P:Program) (p:Nat×Ty):Bool:=match p.2 with
 | .struct _ z _ true=>Qm2 P 5 p.1 z
 | _=>true
theorem Q68:tabL.all (fun p=>tyB Try.prog p.1 p.2)=true:=by kernel_rfl
theorem Qq6:tabL.all (Ql7 Try.prog)=true:=by kernel_rfl
theorem Q69 {nd:Bool->Bool->Bool} {nt:Bool->Bool} {ar:A9z} {cm:BinOp->Int->Int->Bool} {mx mn:Int->Int->Int} {pl:Nat->Nat->Nat} {jn:Nat->(Nat->List SC)->(Nat->List SC)->Nat->List SC} {up:(Nat->List SC)->Nat->Nat->List SC->Nat->List SC} {mi:Nat->Nat->Nat} {dp:Nat->(Nat->List SC)->Nat->List SC} (h1:nd=and) (h2:nt=not) (h3:ar=rAr) (h4:cm=rCm) (h5:mx=rMx) (h6:mn=rMn) (h7:pl=fun x y=>x+y) (h8:jn=rJn) (h9:up=rUp) (h10:mi=fun x y=>x - y) (h11:dp=rDp):
 TOk Try.prog ⟨Q0x tabL,nd,nt,ar,cm,mx,mn,pl,jn,up,mi,dp⟩:=
 ⟨fun t y h=>List.all_eq_true.1 Q68 (t,y) (Q7k h),fun t s z l h=>by
  have:=List.all_eq_true.1 Qq6 (t,_) (Q7k h)
  exact this,h1,h2,h3,h4,h5,h6,h7,h8,h9,h10,h11⟩
theorem Qca:∃nd:Bool->Bool->Bool,nd=and/\∃nt:Bool->Bool,nt=not/\∃ar:A9z,ar=rAr/\∃cm:BinOp->Int->Int->Bool,cm=rCm/\∃mx:Int->Int->Int,mx=rMx/\∃mn:Int->Int->Int,mn=rMn/\ar .add .i64 0 1=1/\ar .add .i64 1 1=2/\∃zpl:Nat->Nat->Nat,zpl=(fun x y=>x+y)/\∃zjn:Nat->(Nat->List SC)->(Nat->List SC)->Nat->List SC,zjn=rJn/\∃zup:(Nat->List SC)->Nat->Nat->List SC->Nat->List SC,zup=rUp/\∃zmi:Nat->Nat->Nat,zmi=(fun x y=>x - y)/\∃zdp:Nat->(Nat->List SC)->Nat->List SC,zdp=rDp/\TOk Try.prog ⟨Q0x tabL,nd,nt,ar,cm,mx,mn,zpl,zjn,zup,zmi,zdp⟩:=
 ⟨_,rfl,_,rfl,_,rfl,_,rfl,_,rfl,_,rfl,by decide,by decide,_,rfl,_,rfl,_,rfl,_,rfl,_,rfl,Q69 rfl rfl rfl rfl rfl rfl rfl rfl rfl rfl rfl⟩
def Out.ns:Out->Bool
 | .stuck=>false
 | _=>true
structure Pf (p:Prop):Prop where
 pf:p
section
variable {P:Program} {Q:E9z} {c:R9z} {w0:Base} {T:Tb}
theorem Qr2 (hT:TOk P T) {k:List Item} {st:St} {o:Out} (he:ev T c 400 k st=o) (hs:o.ns=true) (h:OutOk P Q c w0 o):Goes P Q c w0 k st:=Q1b hT 400 he h
theorem Qna (hT:TOk P T) {w:World} {Y:Inhabited Exs} {fn:Func} {st:St} {X x:SV} {r:List ORow} {sel:List RSrc} (h:Qul T c st fn.results.toList=some X) (hs:Qaz X x=sel) (hx:Pf (Qyo sel X x)) (hr:Pf (Qtf st sel r)) (hn:ndS sel=true):OutOk P (bodyPost P fn (RetR w c x r)) c ⟨w,[]⟩ (.ret st):=Q8q hT h hs hx.pf hr.pf hn
theorem Qhb (hT:TOk P T) {w:World} {Y:Inhabited Exs} {fn:Func} {st:St} {X x:SV} {r:List ORow} {sel:List RSrc} (h:Qul T c st fn.results.toList=some X) (hs:Qaz X x=sel) (hx:Pf (Qyo sel X x)) (hr:Pf (Qtf st sel r)) (hn:ndS sel=true):OutOk P (bodyPost P fn (RetR w c x r)) c ⟨w,[]⟩ (.fin st):=Q5q hT h hs hx.pf hr.pf hn
theorem Qvk (hT:TOk P T) {fn:Func} {bs:List Nat} {w:World} {hs':List (List SC)} {v u:Value} {st:St} {x:SV} (hlen:bs.length=Qzg hs') (h:Qul T c st fn.results.toList=some x) (hv:toV c x=some u) (hu:u=v) (hh:Pf (leH st.h (Qie hs'))) (hb:Q3j (Qzg hs') hs'=true):
 OutOk P (bodyPost P fn (fun e w'=>e=.returned v/\KB ⟨w,bs⟩ w'/\Q63 c w' bs hs')) c ⟨w,bs⟩ (.fin st):=Qkg hT hlen h hv hu hh.pf hb
end
theorem pfp {p:Prop} (h:Pf p):p:=h.pf
def zs9:List Nat->List Nat
 | a::n::l=>(List.range' a n)++zs9 l
 | l=>l
def zc9 (k i:Nat):Nat×SV:=(k,.pt (.one (.int .i64 (.ofNat i))))
section
variable {P:Program} {Q:E9z} {c:R9z} {w0:Base}
theorem Qgha {σ:Type} (ws:List Nat) (ups:σ->List (Nat×SV)) (hups:σ->List (Nat×List SC)) (rups:σ->List (Nat×ORow)) (μ:σ->Nat) (x0:σ) {body:Code} {k:List Item} {st:St} (h0:Le st (st.lay ws (ups x0) (hups x0) (rups x0)))
 (hr:∀(x:σ) (m:Nat),m=μ x->Goes P Q c w0 (.code body::.stop (Q73 c w0 (fun x=>st.lay ws (ups x) (hups x) (rups x)) μ m)::k) (st.lay ws (ups x) (hups x) (rups x)))
 (hb:(st.lay ws (ups x0) (hups x0) (rups x0)).bnd=true:=by (first|(cbv;done)|(cbv;rfl)|fail)) (hm:w0.mo.length<=(st.lay ws (ups x0) (hups x0) (rups x0)).h.length:=by (first|(simp;done)|fail)):OutOk P Q c w0 (.loop body k st):=Qja ws ups hups rups μ x0 h0 hb hm hr
theorem Qfha {σ:Type} {inv:σ->St} {μ:σ->Nat} {m:Nat} {k:List Item} {st:St} (y:σ) (hm:μ y<m) (h:Le st (inv y)) (hb:(inv y).bnd=true:=by (first|(cbv;done)|(cbv;rfl)|fail)) (hw:w0.mo.length<=(inv y).h.length:=by (first|(simp;done)|fail)):OutOk P Q c w0 (.stop (Q73 c w0 inv μ m) k st):=Qma y hm h hb hw
end
theorem msr {i n m:Nat} (h:i<n) (hm:m=n - i):n - (i+1)<m:=by omega
theorem gov {p q:Prop} (hq:q) (h:q->p:=by (first|((with_reducible apply Qr2 hT);(·(cbv;try rfl));(·rfl))|fail)):p:=h hq
theorem go1 {p q:Prop} (hq:q) (h:q->p:=by (first
 | ((with_reducible apply Qr2 hT);(·(cbv;try rfl));(·rfl))
 | ((with_reducible apply Qru hT);(·(cbv;try rfl));(·(cbv;try rfl)))
 | ((with_reducible apply Qqu hT);(·(cbv;try rfl));(·(cbv;try rfl)))
 | fail)):p:=h hq
theorem go2 {p a b:Prop} (ha:a) (hb:b) (h:a->b->p:=by (first|(with_reducible exact Qt7 hnt)|(with_reducible exact Qr4)|fail)):p:=h ha hb
theorem go3 {p a b:Prop} (ha:a) (hb:b) (h:a->b->p:=by (first|(with_reducible exact Qs7 hcm)|fail)):p:=h ha hb
theorem Qvha {p a b:Prop} (ha:a) (hb:b) (h:a->b->p:=by (first|(with_reducible exact Qha)|fail)):p:=h ha hb
theorem Qdb {p:Prop} (h:p:=by (first|((try with_reducible refine Q8c ?_ ?_ ?_ ?_);all_goals (cbv;(try simp only[true_and,and_true]);(try ((repeat' apply And.intro)<;>(first|trivial|rfl|exact RowLe.rfl' _|decide|(rw[Qda har _ o9])|fail))));done)|fail)):Pf p:=⟨h⟩
theorem go0 {p:Prop} (h:p:=by (first
 | (with_reducible exact Qj0)
 | ((with_reducible apply Qna hT);(·(cbv;try rfl));(·(cbv;try rfl));(·exact Qdb);(·exact Qdb);(·rfl))
 | ((with_reducible apply Qhb hT);(·(cbv;try rfl));(·(cbv;try rfl));(·exact Qdb);(·exact Qdb);(·rfl))
 | fail)):p:=h
theorem Qz9 {p q:Prop} (hq:q) (h:q->p:=by (first|((with_reducible refine Q4d ?_);(·kernel_rfl))|fail)):p:=h hq
theorem god {p q:Prop} (hq:q) (h:q->p:=by (first
 | ((with_reducible refine Qbn ?_ ?_ ?_);(·rfl);(·kernel_rfl);(·kernel_rfl))
 | ((with_reducible refine Q4d ?_);(·kernel_rfl))
 | fail)):p:=h hq
theorem gof {p q:Prop} (hq:q) (h:q->p:=by (first
 | (with_reducible exact Qz4)
 | ((with_reducible refine Qxa ?_ ?_);(·first|omega|(simp only[Int.ofNat_eq_natCast];omega));(·first|omega|(simp only[Int.ofNat_eq_natCast];omega)))
 | fail)):p:=h hq
theorem gob {p q:Prop} (hq:q) (h:q->p:=by (first
 | ((with_reducible refine Q4c ?_);(·first|trivial|(refine ⟨trivial,?_⟩;omega)|(rw[hzpl];refine ⟨trivial,?_⟩;show _+_<=1073741824;omega)|(rw[hzpl];show _+_<=1073741824;omega)))
 | fail)):p:=h hq
theorem goa {p q:Prop} (hq:q) (h:q->p:=by (first
 | ((with_reducible apply Qr2 hT);(·(cbv;try rfl));(·rfl))
 | ((with_reducible apply Qru hT);(·(cbv;try rfl));(·(cbv;try rfl)))
 | ((with_reducible apply Qqu hT);(·(cbv;try rfl));(·(cbv;try rfl)))
 | ((with_reducible refine Qq2 ?_);(·first|rfl|assumption|(rw[hcm];decide)))
 | ((with_reducible refine Qp2 ?_);(·first|rfl|assumption|(rw[hcm];decide)))
 | ((with_reducible refine Qt4 hnt ?_);(·first|rfl|assumption))
 | ((with_reducible refine Qs4 hnt ?_);(·first|rfl|assumption))
 | fail)):p:=h hq
theorem goz {p q:Prop} (hq:q) (h:q->p:=by (first
 | ((with_reducible refine Qbn ?_ ?_ ?_);(·rfl);(·kernel_rfl);(·kernel_rfl))
 | ((with_reducible refine Q4d ?_);(·kernel_rfl))
 | (with_reducible exact Qz4)
 | ((with_reducible refine Qxa ?_ ?_);(·first|omega|(simp only[Int.ofNat_eq_natCast];omega));(·first|omega|(simp only[Int.ofNat_eq_natCast];omega)))
 | ((with_reducible refine Q4c ?_);(·first|trivial|(refine ⟨trivial,?_⟩;omega)|(rw[hzpl];refine ⟨trivial,?_⟩;show _+_<=1073741824;omega)|(rw[hzpl];show _+_<=1073741824;omega)))
 | fail)):p:=h hq
theorem gor {p a b:Prop} (h:a->b->p:=by (first
 | (intro u_ v_;(with_reducible apply Qna hT (hx:=u_) (hr:=v_));(·(cbv;try rfl));(·(cbv;try rfl));(·rfl))
 | (intro u_ v_;(with_reducible apply Qhb hT (hx:=u_) (hr:=v_));(·(cbv;try rfl));(·(cbv;try rfl));(·rfl))
 | fail)) (ha:a) (hb:b):p:=h ha hb
section
variable {P:Program} {p:Prop} {f:Nat}
theorem Qhha {q:Prop} {fn:Func} {rs:List ResultVar} (hf:P.funcs[f]? =some fn) (hr:fn.results=rs.toArray) (hc:∀(args:Array Value) (w:World),(callFunc f args).run P w=.ok (.enter f args) w) (hq:q)
 (h:P.funcs[f]? =some fn->fn.results=rs.toArray->(∀(args:Array Value) (w:World),(callFunc f args).run P w=.ok (.enter f args) w)->q->p:=by (first
 | (intro u_ v_ x_ y_;(with_reducible apply Qba (hf:=u_) (hr:=v_) (hcall:=x_));(·rfl);(·(cbv;try rfl));(·exact y_))
 | fail)):p:=h hf hr hc hq
theorem Qiha {q r:Value->Prop} {v:Value} (hf:∀(args:Array Value) (w:World),(callFunc f args).run P w=.ok (.enter f args) w) (hr:r v) (hq:q v)
 (h:∀v,(∀(args:Array Value) (w:World),(callFunc f args).run P w=.ok (.enter f args) w)->r v->q v->p:=by (first
 | (intro v_ u_ x_ y_;(with_reducible apply Qfa (v:=v_) (hf:=u_));(·(cbv;try rfl));(·exact x_);(·exact y_))
 | (intro v_ u_ x_ y_;(with_reducible apply Qta (v:=v_) (hf:=u_));(·(cbv;try rfl));(·exact x_);(·exact y_))
 | fail)):p:=h v hf hr hq
end
section
variable {P:Program} {Q:E9z} {c:R9z} {w0:Base} {T:Tb}
def Q59 (S:Nat->Value) (B:N9z) (c:R9z):SC->Option Value
 | .sl k o n d=>some (.slice (some ⟨B k,o,none⟩) n d)
 | .ptr k o=>some (.pointer (some ⟨B k,o,none⟩))
 | x=>Q88 S c x
def Qiv (S:Nat->Value) (B:N9z) (c:R9z):List SC->Option (List Value)
 | []=>some []
 | x::l=>match Q59 S B c x,Qiv S B c l with
   | some v,some r=>some (v::r)
   | _,_=>none
def Qeba (S:Nat->Value) (B:N9z) (c:R9z):SV->Option Value
 | .pt (.one x)=>Q59 S B c x
 | .pt (.agg l)=>match Qiv S B c l with|some r=>some (.agg r.toArray)|none=>none
 | .tup _=>none
def Qjv (S:Nat->Value) (B:N9z) (c:R9z):List SV->Option (List Value)
 | []=>some []
 | x::l=>match Qeba S B c x,Qjv S B c l with
   | some v,some r=>some (v::r)
   | _,_=>none
section
variable {S:Nat->Value} {B:N9z}
theorem Qrz {e:Env} (hc:e.chi=c) (hS:∀q v,e.sg[q]? =some v->S q=v) (hB:∀k b,e.rho[k]? =some b->B k=b) {x:SC} {v u:Value} (h:Q59 S B c x=some v) (hu:x.is e u):u=v:=by
 unfold Q59 at h
 split at h
 · cases h
   obtain ⟨b,h1,rfl⟩:=hu
   rw[hB _ _ h1]
 · cases h
   obtain ⟨b,h1,rfl⟩:=hu
   rw[hB _ _ h1]
 · exact Qzr hc hS h hu
theorem Qio {e:Env} (hc:e.chi=c) (hS:∀q v,e.sg[q]? =some v->S q=v) (hB:∀k b,e.rho[k]? =some b->B k=b):∀{l:List SC} {vs us:List Value},Qiv S B c l=some vs->isL e l us->us=vs
 | [],vs,[],h,_=>by simp[Qiv] at h;exact h.symm
 | x::l,vs,u::us,h,hi=>by
   simp only[Qiv] at h
   split at h
   · rename_i v r h1 h2
     cases h
     rw[Qrz hc hS hB h1 hi.1,Qio hc hS hB h2 hi.2]
   · cases h
 | [],_,_::_,_,h=>h.elim
 | _::_,_,[],_,h=>h.elim
theorem Qjo {e:Env} (hc:e.chi=c) (hS:∀q v,e.sg[q]? =some v->S q=v) (hB:∀k b,e.rho[k]? =some b->B k=b):∀{l:List SV} {vs us:List Value},Qjv S B c l=some vs->isV e l us->us=vs
 | [],vs,[],h,_=>by simp[Qjv] at h;exact h.symm
 | x::l,vs,u::us,h,hi=>by
   simp only[Qjv] at h
   split at h
   · rename_i v r h1 h2
     cases h
     rw[Qjo hc hS hB h2 hi.2]
     congr 1
     have hi1:=hi.1
     unfold Qeba at h1
     split at h1
     · exact Qrz hc hS hB h1 hi1
     · split at h1
       · rename_i r' h3
         cases h1
         obtain ⟨ws,rfl,hl⟩:=hi1
         rw[<-Qio hc hS hB h3 hl]
       · cases h1
     · cases h1
   · cases h
 | [],_,_::_,_,h=>h.elim
 | _::_,_,[],_,h=>h.elim
structure MemIs (c:R9z) (w:World) (S:Nat->Value) (B:N9z) (st:St):Prop where
 blk:∀(k:Nat) (cs:List SC) (us:List Value),nth st.h k=some (some cs)->Qiv S B c cs=some us->B k<w.heap.size/\∃t,w.heap[B k]? =some (.cells us.toArray t (0,0))
 row:∀(q:Nat) (R:ORow),nth st.r q=some (some R)->RowIs c w R (S q)
end
theorem Fit.mem {e:Env} {st:St} {a:Act} {s:List Act} {w:World} (F:Fit e w0 st a s w) (hc:e.chi=c):MemIs c w (fun q=>(e.sg[q]?).getD undef) (fun k=>(e.rho[k]?).getD 0) st:=by
 refine ⟨fun k cs us hk hu=>?_,fun q R hq=>?_⟩
 · rw[Qva] at hk
   have hkl:k<e.rho.length:=by rw[F.len];exact (List.getElem?_eq_some_iff.1 hk).1
   obtain ⟨b,hb⟩:∃b,e.rho[k]? =some b:=⟨_,List.getElem?_eq_getElem hkl⟩
   obtain ⟨vs,t,hw,hl⟩:=F.cells k b cs hb hk
   have:=Qio hc (fun q v hq=>by simp only[hq,Option.getD_some]) (fun k b hb=>by simp only[hb,Option.getD_some]) hu hl
   subst this
   simp only[hb,Option.getD_some]
   exact ⟨F.hi k b hb,t,hw⟩
 · rw[Qva] at hq
   obtain ⟨v,xs,h1,h2,h3⟩:=F.rows.row q R hq
   simp only[h1,Option.getD_some]
   exact ⟨xs,h2,by rw[<-hc];exact h3,fun b hb=>F.rows.hi q b ⟨R,v,hq,h1,hb⟩⟩
end
def Qcha (p:Prop):Prop:=p
theorem halt {p:Prop} (h:Qcha p):p:=h
theorem Q1fa {p:Prop} (h:p):Qcha p:=h
def SC.noX:SC->Bool
 | .xs .. | .xp .. =>false
 | _=>true
def Q29:List SC->Bool
 | []=>true
 | c::l=>c.noX&&Q29 l
def SA.noX:SA->Bool
 | .one c=>c.noX
 | .agg l=>Q29 l
def Q19:List SA->Bool
 | []=>true
 | c::l=>c.noX&&Q19 l
def SV.noX:SV->Bool
 | .pt a=>a.noX
 | .tup l=>Q19 l
section
variable {c c':R9z} {g:List Value}
theorem Q22 {x:SC} {v:Value} (hk:x.noX=true) (h:x.is ⟨[],c,g⟩ v):x.is ⟨[],c',g⟩ v:=by
 cases x with
 | fn f cap=>
   obtain ⟨vs,rfl,h2⟩:=h
   refine ⟨vs,rfl,?_⟩
   have:∀(l:List (Nat×Nat)) (vs:List Value),Qfd ⟨[],c,g⟩ l vs->Qfd ⟨[],c',g⟩ l vs:=by
    intro l
    induction l with
    | nil=>intro vs h;cases vs<;>simp_all[Qfd]
    | cons p l ih=>
      intro vs h
      cases vs with
      | nil=>simp[Qfd] at h
      | cons v vs=>exact ⟨h.1,ih vs h.2⟩
   exact this _ _ h2
 | xs q i=>simp[SC.noX] at hk
 | xp q i j o=>simp[SC.noX] at hk
 | _=>exact h
theorem Qby:∀{x:List SC} {v:List Value},Q29 x=true->isL ⟨[],c,g⟩ x v->isL ⟨[],c',g⟩ x v
 | [],[],_,_=>trivial
 | _::_,_::_,hk,h=>by
   simp only[Q29,Bool.and_eq_true] at hk
   exact ⟨Q22 hk.1 h.1,Qby hk.2 h.2⟩
 | [],_::_,_,h=>h.elim
 | _::_,[],_,h=>h.elim
theorem Qbt {x:SA} {v:Value} (hk:x.noX=true) (h:x.is ⟨[],c,g⟩ v):x.is ⟨[],c',g⟩ v:=by
 cases x
 · exact Q22 hk h
 · obtain ⟨vs,rfl,hl⟩:=h;exact ⟨vs,rfl,Qby hk hl⟩
theorem Qay:∀{x:List SA} {v:List Value},Q19 x=true->isA ⟨[],c,g⟩ x v->isA ⟨[],c',g⟩ x v
 | [],[],_,_=>trivial
 | _::_,_::_,hk,h=>by
   simp only[Q19,Bool.and_eq_true] at hk
   exact ⟨Qbt hk.1 h.1,Qay hk.2 h.2⟩
 | [],_::_,_,h=>h.elim
 | _::_,[],_,h=>h.elim
theorem Q9i {x:SV} {v:Value} (hk:x.noX=true) (h:x.is ⟨[],c,g⟩ v):x.is ⟨[],c',g⟩ v:=by
 cases x
 · exact Qbt hk h
 · obtain ⟨vs,rfl,hl⟩:=h;exact ⟨vs,rfl,Qay hk hl⟩
end
def Qic:List ORow->Prop
 | []=>True
 | R::l=>(∀j,j<R.n->Qob (R.el j)=true)/\Qic l
theorem Qcj:∀{r:List ORow},Qic r->∀(i:Nat) (R:ORow),r[i]? =some R->∀j,j<R.n->Qob (R.el j)=true
 | [],_,i,R,h=>by simp at h
 | S::l,hp,i,R,h=>by
   cases i with
   | zero=>simp at h;subst h;exact hp.1
   | succ i=>exact Qcj hp.2 i R (by simpa using h)
theorem RetR.to {w w':World} {c c':R9z} {x:SV} {r:List ORow} {en:Ending} (hr:Qic r) (hx:x.noX=true) (h:RetR w c x r en w'):RetR w c' x r en w':=by
 obtain ⟨v,g,h1,h2,h3,h4⟩:=h
 refine ⟨v,g,h1,h2,⟨h3.len,fun i R hi=>?_,h3.nd⟩,Q9i hx h4⟩
 obtain ⟨v,xs,a1,a2,a3,a4⟩:=h3.row i R hi
 exact ⟨v,xs,a1,a2,fun j hj=>Q2b (Qcj hr i R hi j hj) (a3 j hj),a4⟩
theorem Calls.to {P:Program} {f:Nat} {args:Array Value} {w:World} {c c':R9z} {x:SV} {r:List ORow} (hr:Qic r) (hx:x.noX=true) (h:Calls P f args w (RetR w c x r)):Calls P f args w (RetR w c' x r):=
 h.mono fun _ _ h=>h.to hr hx
def SC.qb (K:Nat):SC->Bool
 | .xs q _=>decide (q<K)
 | .xp q _ _ _=>decide (q<K)
 | _=>true
def qbL (K:Nat):List SC->Bool
 | []=>true
 | c::l=>c.qb K&&qbL K l
def SA.qb (K:Nat):SA->Bool
 | .one c=>c.qb K
 | .agg l=>qbL K l
def qbA (K:Nat):List SA->Bool
 | []=>true
 | c::l=>c.qb K&&qbA K l
def SV.qb (K:Nat):SV->Bool
 | .pt a=>a.qb K
 | .tup l=>qbA K l
def qbV (K:Nat):List SV->Bool
 | []=>true
 | c::l=>c.qb K&&qbV K l
def qbF (K:Nat):List (List SV)->Bool
 | []=>true
 | c::l=>qbV K c&&qbF K l
def qbH (K:Nat):List (Option (List SC))->Bool
 | []=>true
 | none::l=>qbH K l
 | some c::l=>qbL K c&&qbH K l
def qbR (K:Nat):List (Option ORow)->Prop
 | []=>True
 | none::l=>qbR K l
 | some R::l=>(∀j,j<R.n->qbL K (R.el j)=true)/\qbR K l
def St.qb (K:Nat) (st:St):Bool:=qbV K st.t&&qbH K st.h&&qbF K st.fr
section
variable {r:List Nat} {g:List Value} {c1 c2:R9z} {K:Nat}
theorem Qto:∀{l:List (Nat×Nat)} {vs:List Value},Qfd ⟨r,c1,g⟩ l vs->Qfd ⟨r,c2,g⟩ l vs
 | [],[],_=>trivial
 | (k,o)::l,v::vs,h=>⟨h.1,Qto h.2⟩
 | [],_::_,h=>h.elim
 | _::_,[],h=>h.elim
theorem SC.is_chi (h12:∀q i,q<K->c1 q i=c2 q i) {x:SC} {v:Value} (hk:x.qb K=true) (h:x.is ⟨r,c1,g⟩ v):x.is ⟨r,c2,g⟩ v:=by
 cases x<;>try exact h
 case xs q i=>
  have:=h12 q i (of_decide_eq_true hk)
  simp only[SC.is] at h⊢
  rw[<-this];exact h
 case xp q i j o=>
  have:=h12 q i (of_decide_eq_true hk)
  simp only[SC.is] at h⊢
  rw[<-this];exact h
 case fn f cap=>obtain ⟨vs,h1,h2⟩:=h;exact ⟨vs,h1,Qto h2⟩
theorem Qbe (h12:∀q i,q<K->c1 q i=c2 q i):∀{l:List SC} {vs:List Value},qbL K l=true->isL ⟨r,c1,g⟩ l vs->isL ⟨r,c2,g⟩ l vs
 | [],[],_,_=>trivial
 | c::l,v::vs,hb,h=>by
   simp only[qbL,Bool.and_eq_true] at hb
   exact ⟨SC.is_chi h12 hb.1 h.1,Qbe h12 hb.2 h.2⟩
 | [],_::_,_,h=>h.elim
 | _::_,[],_,h=>h.elim
theorem SA.is_chi (h12:∀q i,q<K->c1 q i=c2 q i) {x:SA} {v:Value} (hk:x.qb K=true) (h:x.is ⟨r,c1,g⟩ v):x.is ⟨r,c2,g⟩ v:=by
 cases x
 · exact SC.is_chi h12 hk h
 · obtain ⟨vs,hv,hl⟩:=h;exact ⟨vs,hv,Qbe h12 hk hl⟩
theorem Q6w (h12:∀q i,q<K->c1 q i=c2 q i):∀{l:List SA} {vs:List Value},qbA K l=true->isA ⟨r,c1,g⟩ l vs->isA ⟨r,c2,g⟩ l vs
 | [],[],_,_=>trivial
 | c::l,v::vs,hb,h=>by
   simp only[qbA,Bool.and_eq_true] at hb
   exact ⟨SA.is_chi h12 hb.1 h.1,Q6w h12 hb.2 h.2⟩
 | [],_::_,_,h=>h.elim
 | _::_,[],_,h=>h.elim
theorem SV.is_chi (h12:∀q i,q<K->c1 q i=c2 q i) {x:SV} {v:Value} (hk:x.qb K=true) (h:x.is ⟨r,c1,g⟩ v):x.is ⟨r,c2,g⟩ v:=by
 cases x
 · exact SA.is_chi h12 hk h
 · obtain ⟨vs,hv,hl⟩:=h;exact ⟨vs,hv,Q6w h12 hk hl⟩
theorem Qdr (h12:∀q i,q<K->c1 q i=c2 q i):∀{l:List SV} {vs:List Value},qbV K l=true->isV ⟨r,c1,g⟩ l vs->isV ⟨r,c2,g⟩ l vs
 | [],[],_,_=>trivial
 | c::l,v::vs,hb,h=>by
   simp only[qbV,Bool.and_eq_true] at hb
   exact ⟨SV.is_chi h12 hb.1 h.1,Qdr h12 hb.2 h.2⟩
 | [],_::_,_,h=>h.elim
 | _::_,[],_,h=>h.elim
theorem Qzs (h12:∀q i,q<K->c1 q i=c2 q i):∀{l:List (List SV)} {vs:List Act},qbF K l=true->Qzl ⟨r,c1,g⟩ l vs->Qzl ⟨r,c2,g⟩ l vs
 | [],[],_,_=>trivial
 | c::l,v::vs,hb,h=>by
   simp only[qbF,Bool.and_eq_true] at hb
   exact ⟨⟨h.1.1,Qdr h12 hb.1 h.1.2⟩,Qzs h12 hb.2 h.2⟩
 | [],_::_,_,h=>h.elim
 | _::_,[],_,h=>h.elim
theorem Q9n:∀{l:List (Option (List SC))},qbH K l=true->∀{k:Nat} {cs:List SC},l[k]? =some (some cs)->qbL K cs=true
 | [],_,k,cs,h=>by simp at h
 | none::l,hb,0,cs,h=>by simp at h
 | none::l,hb,k+1,cs,h=>Q9n (l:=l) hb (by simpa using h)
 | some c::l,hb,0,cs,h=>by
   simp only[qbH,Bool.and_eq_true] at hb
   simp at h;subst h;exact hb.1
 | some c::l,hb,k+1,cs,h=>by
   simp only[qbH,Bool.and_eq_true] at hb
   exact Q9n hb.2 (by simpa using h)
theorem Qao:∀{l:List (Option ORow)},qbR K l->∀{k:Nat} {R:ORow},l[k]? =some (some R)->∀j,j<R.n->qbL K (R.el j)=true
 | [],_,k,R,h=>by simp at h
 | none::l,hb,0,R,h=>by simp at h
 | none::l,hb,k+1,R,h=>Qao (l:=l) hb (by simpa using h)
 | some c::l,hb,0,R,h=>by
   simp at h;subst h;exact hb.1
 | some c::l,hb,k+1,R,h=>Qao hb.2 (by simpa using h)
end
theorem Q9c {K:Nat}:∀{l:List SC},Qob l=true->qbL K l=true
 | [],_=>rfl
 | c::l,h=>by
   simp only[Qob,Bool.and_eq_true] at h
   simp only[qbL,Bool.and_eq_true]
   exact ⟨by cases c<;>first|rfl|(simp[Qxt] at h),Q9c h.2⟩
section
variable {P:Program} {Q:E9z} {c:R9z} {w0:Base} {T:Tb}
theorem Fit.chi {e:Env} {st:St} {a:Act} {s:List Act} {w:World} (F:Fit e w0 st a s w) {K:Nat} {c':R9z} (h12:∀q i,q<K->e.chi q i=c' q i) (hn:st.qb K=true) (hr:qbR K st.r) (hc:∀q i j,q<K->j<(e.chi q i).n->qbL K ((e.chi q i).el j)=true)
 (hnew:∀q i j,K<=q->j<(c' q i).n->∃b p,(c' q i).a=some ⟨b,p,none⟩/\b<w.heap.size/\b ∉ w0.mo/\(∀k,¬Qhd e st k b)/\(∀q',¬Qdd e st q' b)/\
   ∃vs,isL ⟨[],c',[]⟩ ((c' q i).el j) vs/\∀(t:Nat) (v:Value),vs[t]? =some v->w.cell? ⟨b,p+(j * (c' q i).size+t),none⟩=some v)
 (hE:∀q i j b p,K<=q->j<(c' q i).n->(c' q i).a=some ⟨b,p,none⟩->w0.ex b=none):Fit ⟨e.rho,c',e.sg⟩ w0 st a s w:=by
 obtain ⟨rho,chi,sg⟩:=e
 simp only[St.qb,Bool.and_eq_true] at hn
 simp only at h12 hc
 refine ⟨Qzs h12 hn.2 F.fr,F.dfr,Qdr h12 hn.1.1 F.tm,F.blw,F.lo,F.hi,F.nd,F.len,fun k b cs h1 h2=>?_,⟨fun q i j hj=>?_,F.ext.ex,fun q i j b p hj ha=>?_⟩,F.pre,⟨F.rows.len,fun q R hq=>?_,F.rows.lo,F.rows.hi,F.rows.nd,F.rows.no⟩⟩
 · obtain ⟨vs,t,g1,g2⟩:=F.cells k b cs h1 h2
   exact ⟨vs,t,g1,Qbe h12 (Q9n hn.1.2 h2) g2⟩
 · by_cases g:q<K
   · have e1:=h12 q i g
     simp only at hj⊢
     rw[<-e1] at hj⊢
     obtain ⟨b,p,g1,g2,g3,g4,g5,vs,g6,g7⟩:=F.ext.ok q i j hj
     exact ⟨b,p,g1,g2,g3,g4,g5,vs,Qbe h12 (hc q i j g hj) g6,g7⟩
   · exact hnew q i j o9 hj
 · by_cases g:q<K
   · have e1:=h12 q i g
     simp only at hj ha
     rw[<-e1] at hj ha
     exact F.ext.exx q i j b p hj ha
   · exact hE q i j b p o9 hj ha
 · obtain ⟨v,xs,g1,g2,g3⟩:=F.rows.row q R hq
   exact ⟨v,xs,g1,g2,fun j hj=>Qbe h12 (Qao hr hq j hj) (g3 j hj)⟩
def noA:List Item->Bool
 | []=>true
 | .aops ..::_=>false
 | .aop ..::_=>false
 | _::k=>noA k
theorem Qkc {c':R9z}:∀{k:List Item},noA k=true->∀s,KQ P Q c k s=KQ P Q c' k s
 | [],_,_=>rfl
 | .code cd::k,h,s=>by simp only[KQ,Qkc (c':=c') (k:=k) h]
 | .ops all rest::k,h,s=>by simp only[KQ,Qkc (c':=c') (k:=k) h]
 | .blk id::k,h,s=>by simp only[KQ,Qkc (c':=c') (k:=k) h]
 | .stop I::k,h,s=>by simp only[KQ,Qkc (c':=c') (k:=k) h]
 | .rnds b m::k,h,s=>by simp only[KQ,Qkc (c':=c') (k:=k) h]
 | .qops all rest::k,h,s=>by simp only[KQ,Qkc (c':=c') (k:=k) h]
 | .back r d::k,h,s=>by simp only[KQ,Qkc (c':=c') (k:=k) h]
 | .aops ..::k,h,s=>by simp[noA] at h
 | .aop ..::k,h,s=>by simp[noA] at h
def Qb8:List Item->Bool
 | .aops ..::k=>noA k
 | k=>noA k
theorem Q36 {c':R9z} (hS:∀w,SX c' w->SX c w):∀{k:List Item},Qb8 k=true->∀(s:List Act) (a:Act) (w:World),KQ P Q c' k s .normal a w->KQ P Q c k s .normal a w
 | .aops all l f::k,hk,s,a,w,h=>by
   have hk:noA k=true:=hk
   simp only[KQ,Exit.then,NP] at h⊢
   rw[Qkc (c':=c) hk] at h
   exact ⟨hS _ h.1,Qiu hS _ _ _ _ h.2⟩
 | [],_,_,_,_,h=>h
 | .code cd::k,hk,s,a,w,h=>by rw[Qkc (c':=c') (k:=.code cd::k) hk];exact h
 | .ops all rest::k,hk,s,a,w,h=>by rw[Qkc (c':=c') (k:=.ops all rest::k) hk];exact h
 | .blk id::k,hk,s,a,w,h=>by rw[Qkc (c':=c') (k:=.blk id::k) hk];exact h
 | .stop I::k,hk,s,a,w,h=>by rw[Qkc (c':=c') (k:=.stop I::k) hk];exact h
 | .rnds b m::k,hk,s,a,w,h=>by rw[Qkc (c':=c') (k:=.rnds b m::k) hk];exact h
 | .qops all rest::k,hk,s,a,w,h=>by rw[Qkc (c':=c') (k:=.qops all rest::k) hk];exact h
 | .back r d::k,hk,s,a,w,h=>by rw[Qkc (c':=c') (k:=.back r d::k) hk];exact h
 | .aop ..::k,hk,s,a,w,h=>by simp[Qb8,noA] at hk
def Q3a (c:R9z) (K:Nat) (G:R9z):Nat->Nat->Row:=fun q i=>if q<K then c q i else G (q - K) i
theorem Q4a {c:R9z} {K:Nat} {G:R9z} {q i:Nat} (h:q<K):Q3a c K G q i=c q i:=by simp[Q3a,h]
theorem Q2a {c:R9z} {K:Nat} {G:R9z} {q i:Nat} (h:K<=q):Q3a c K G q i=G (q - K) i:=by simp[Q3a,show ¬q<K by omega]
def SC.frz (q:Nat) (v:Value):SC->SC
 | .rs k=>if k=q then .val v else .rs k
 | .rp k es j o=>if k=q then .any else .rp k es j o
 | x=>x
def Qp7 (q:Nat) (v:Value):List SC->List SC
 | []=>[]
 | c::l=>c.frz q v::Qp7 q v l
def SA.frz (q:Nat) (v:Value):SA->SA
 | .one c=>.one (c.frz q v)
 | .agg l=>.agg (Qp7 q v l)
def Qfaa (q:Nat) (v:Value):List SA->List SA
 | []=>[]
 | c::l=>c.frz q v::Qfaa q v l
def SV.frz (q:Nat) (v:Value):SV->SV
 | .pt a=>.pt (a.frz q v)
 | .tup l=>.tup (Qfaa q v l)
def Qy9 (q:Nat) (v:Value):List SV->List SV
 | []=>[]
 | c::l=>c.frz q v::Qy9 q v l
def Qgaa (q:Nat) (v:Value):List (List SV)->List (List SV)
 | []=>[]
 | c::l=>Qy9 q v c::Qgaa q v l
def Qov (q:Nat) (v:Value):List (Option (List SC))->List (Option (List SC))
 | []=>[]
 | none::l=>none::Qov q v l
 | some c::l=>some (Qp7 q v c)::Qov q v l
def St.frz (st:St) (q:Nat) (v:Value):St:=⟨Qy9 q v st.t,Qov q v st.h,Qgaa q v st.fr,Q0b st.r q none⟩
section
variable {e:Env} {q:Nat} {u:Value}
theorem SC.frz_is (hq:e.sg[q]? =some u) {x:SC} {v:Value} (h:x.is e v):(x.frz q u).is e v:=by
 cases x<;>try exact h
 case rs k=>
  simp only[SC.frz]
  split
  · rename_i hk;subst hk
    have h1:=h.1
    rw[hq] at h1;cases h1;rfl
  · exact h
 case rp k es j o=>
  simp only[SC.frz]
  split
  · trivial
  · exact h
theorem Q3q (hq:e.sg[q]? =some u):∀{l:List SC} {vs:List Value},isL e l vs->isL e (Qp7 q u l) vs
 | [],[],_=>trivial
 | c::l,v::vs,h=>⟨SC.frz_is hq h.1,Q3q hq h.2⟩
 | [],_::_,h=>h.elim
 | _::_,[],h=>h.elim
theorem SA.frz_is (hq:e.sg[q]? =some u) {x:SA} {v:Value} (h:x.is e v):(x.frz q u).is e v:=by
 cases x
 · exact SC.frz_is hq h
 · obtain ⟨vs,hv,hl⟩:=h;exact ⟨vs,hv,Q3q hq hl⟩
theorem Qhw (hq:e.sg[q]? =some u):∀{l:List SA} {vs:List Value},isA e l vs->isA e (Qfaa q u l) vs
 | [],[],_=>trivial
 | c::l,v::vs,h=>⟨SA.frz_is hq h.1,Qhw hq h.2⟩
 | [],_::_,h=>h.elim
 | _::_,[],h=>h.elim
theorem SV.frz_is (hq:e.sg[q]? =some u) {x:SV} {v:Value} (h:x.is e v):(x.frz q u).is e v:=by
 cases x
 · exact SA.frz_is hq h
 · obtain ⟨vs,hv,hl⟩:=h;exact ⟨vs,hv,Qhw hq hl⟩
theorem Q4q (hq:e.sg[q]? =some u):∀{l:List SV} {vs:List Value},isV e l vs->isV e (Qy9 q u l) vs
 | [],[],_=>trivial
 | c::l,v::vs,h=>⟨SV.frz_is hq h.1,Q4q hq h.2⟩
 | [],_::_,h=>h.elim
 | _::_,[],h=>h.elim
theorem Qiw (hq:e.sg[q]? =some u):∀{ts:List (List SV)} {us:List Act},Qzl e ts us->Qzl e (Qgaa q u ts) us
 | [],[],_=>trivial
 | c::l,v::vs,h=>⟨⟨h.1.1,Q4q hq h.1.2⟩,Qiw hq h.2⟩
 | [],_::_,h=>h.elim
 | _::_,[],h=>h.elim
end
theorem Qck {q:Nat} {u:Value}:∀{l:List (Option (List SC))} {k:Nat} {cs:List SC},(Qov q u l)[k]? =some (some cs)->∃cs0,l[k]? =some (some cs0)/\cs=Qp7 q u cs0
 | [],k,cs,h=>by simp[Qov] at h
 | none::l,0,cs,h=>by simp[Qov] at h
 | some c::l,0,cs,h=>by simp[Qov] at h;exact ⟨c,by simp,h.symm⟩
 | none::l,k+1,cs,h=>by simpa using Qck (l:=l) (by simpa [Qov] using h)
 | some c::l,k+1,cs,h=>by simpa using Qck (l:=l) (by simpa [Qov] using h)
theorem Qih {q:Nat} {u:Value}:∀l:List (Option (List SC)),(Qov q u l).length=l.length
 | []=>rfl
 | none::l=>by simp[Qov,Qih l]
 | some _::l=>by simp[Qov,Qih l]
theorem Qci {α:Type}:∀(l:List α) (n:Nat) (x:α) (i:Nat),(Q0b l n x)[i]? =if i=n then (if n<l.length then some x else none) else l[i]?
 | [],n,x,i=>by simp[Q0b]
 | a::l,0,x,i=>by cases i<;>simp[Q0b]
 | a::l,n+1,x,i=>by
   cases i with
   | zero=>simp[Q0b]
   | succ i=>simp[Q0b,Qci l n x i]
theorem Qkf {α:Type}:∀(l:List α) (n:Nat) (x:α),(Q0b l n x).length=l.length
 | [],n,x=>rfl
 | a::l,0,x=>rfl
 | a::l,n+1,x=>by simp[Q0b,Qkf l n x]
theorem Fit.frz {e:Env} {st:St} {a:Act} {s:List Act} {w:World} (F:Fit e w0 st a s w) {q:Nat} {R:ORow} {u:Value} (hq:st.r[q]? =some (some R)) (hu:e.sg[q]? =some u):
 Fit e w0 (st.frz q u) a s w/\∀b,u.ownBlock=some b->(∀k,¬Qhd e (st.frz q u) k b)/\∀q',¬Qdd e (st.frz q u) q' b:=by
 have hH:∀k b,Qhd e (st.frz q u) k b->Qhd e st k b:=fun k b ⟨cs,h1,h2⟩=>by
  obtain ⟨cs0,h3,_⟩:=Qck h1
  exact ⟨cs0,h3,h2⟩
 have hget:∀q' R',(st.frz q u).r[q']? =some (some R')->q'≠q/\st.r[q']? =some (some R'):=fun q' R' h=>by
  simp only[St.frz,Qci] at h
  split at h
  · split at h
    · cases h
    · cases h
  · exact ⟨y9,h⟩
 have hR:∀q' b,Qdd e (st.frz q u) q' b->q'≠q/\Qdd e st q' b:=fun q' b ⟨R',v,h1,h2,h3⟩=>by
  obtain ⟨h4,h5⟩:=hget q' R' h1
  exact ⟨h4,R',v,h5,h2,h3⟩
 refine ⟨⟨Qiw hu F.fr,F.dfr,Q4q hu F.tm,F.blw,F.lo,F.hi,F.nd,by simp only[St.frz,Qih];exact F.len,fun k b cs h1 h2=>?_,F.ext.kept rfl (Nat.le_refl _) (fun _ _ _ _ _=>rfl) (fun k b h=>.inl (hH k b h)) (fun q' b h=>.inl (hR q' b h).2),F.pre,⟨by simp only[St.frz,Qkf];exact F.rows.len,fun q' R' h=>?_,fun q' b h=>F.rows.lo q' b (hR q' b h).2,fun q' b h=>F.rows.hi q' b (hR q' b h).2,fun q1 q2 b h1 h2=>F.rows.nd q1 q2 b (hR q1 b h1).2 (hR q2 b h2).2,fun q' b h k hk=>F.rows.no q' b (hR q' b h).2 k (hH k b hk)⟩⟩,fun b hb=>?_⟩
 · obtain ⟨cs0,h3,rfl⟩:=Qck h2
   obtain ⟨vs,t,g1,g2⟩:=F.cells k b cs0 h1 h3
   exact ⟨vs,t,g1,Q3q hu g2⟩
 · exact F.rows.row q' R' (hget q' R' h).2
 · have hq':Qdd e st q b:=⟨R,u,hq,hu,hb⟩
   exact ⟨fun k h=>F.rows.no q b hq' k (hH k b h),fun q' h=>(hR q' b h).1 (F.rows.nd q' q b (hR q' b h).2 hq')⟩
def Q3d (w:World) (a:Option Addr):Prop:=∀b p,a=some ⟨b,p,none⟩->w.heap.size<=b
theorem Qnc {w:World} {X:Inhabited Exs} {c0:R9z} {K:Nat} {G:R9z} {k:List Item} {st:St} (q p i:Nat) (G':Option Addr->Nat->Nat->Nat->Row) {R0 R:ORow} (hq:nth st.r q=some (some R0)) (hle:RowLe R0 R) (hk:Qb8 k=true)
 (hn:∀v,(st.frz q v).qb K=true) (hr:qbR K (Q0b st.r q none)) (hR:∀j,j<R.n->Qob (R.el j)=true) (hc:∀q i j,q<K->j<(c0 q i).n->qbL K ((c0 q i).el j)=true) (hG:∀p i j,j<(G p i).n->Qob ((G p i).el j)=true)
 (h0:(G p i).n=0) (h1:∀a cap p' i',¬(p'=p/\i'=i)->G' a cap p' i'=G p' i') (h2:∀a cap,G' a cap p i=⟨a,R.n,cap,R.es,R.el⟩)
 (h:∀a cap,Q3d w a->Goes P Q (Q3a c0 K (G' a cap)) ⟨w,[]⟩ k (st.frz q (.slice a R.n cap))):Goes P Q (Q3a c0 K G) ⟨w,[]⟩ k st:=⟨fun e s a w' hce F=>by
 rw[Qva] at hq
 obtain ⟨v,xs,g1,g2,g3⟩:=F.rows.row q R0 hq
 rw[hle.n,hle.es] at g2
 replace g3:=hle.els g3
 obtain ⟨ad,cap,rfl⟩:=g2.form
 have hnew:Q3d w ad:=fun b p' hb=>by
  have:=F.rows.lo q b ⟨R0,_,hq,g1,by rw[hb];rfl⟩
  simpa using this
 obtain ⟨F',hF'⟩:=F.frz hq g1
 have h12:∀q' i',q'<K->e.chi q' i'=Q3a c0 K (G' ad cap) q' i':=fun q' i' hl=>by rw[hce,Q4a hl,Q4a hl]
 refine Q36 (c':=Q3a c0 K (G' ad cap)) (fun w1 hx q' i' j hj=>?_) hk _ _ _ ?_
 · have hl:(q'<K\/¬(q' - K=p/\i'=i)):=by
    by_cases g:q'<K
    · exact .inl g
    · refine .inr fun ⟨ga,gb⟩=>?_
      simp only[Q2a (show K<=q' by omega)] at hj
      rw[ga,gb,h0] at hj
      exact absurd hj (Nat.not_lt_zero _)
   have ex:Q3a c0 K (G' ad cap) q' i'=Q3a c0 K G q' i':=by
    by_cases g:q'<K
    · rw[Q4a g,Q4a g]
    · rw[Q2a o9,Q2a o9]
      exact h1 _ _ _ _ (by rcases hl with hl|hl<;>first|omega|exact hl)
   have:=hx q' i' j (by simp only[ex];exact hj)
   simp only[ex] at this
   obtain ⟨b,p',f1,f2,f3,vs,f4,f5⟩:=this
   refine ⟨b,p',f1,f2,f3,vs,?_,f5⟩
   by_cases g:q'<K
   · simp only[Q4a g] at hj f4⊢
     exact Qbe (fun q i h=>by rw[Q4a h,Q4a h]) (hc q' i' j g hj) f4
   · simp only[Q2a (show K<=q' by omega)] at hj f4⊢
     exact Q2b (hG _ _ j hj) f4
 refine (h ad cap hnew).run ⟨e.rho,Q3a c0 K (G' ad cap),e.sg⟩ s a w' rfl (F'.chi (K:=K) (c':=Q3a c0 K (G' ad cap)) h12 (hn _) hr (fun q' i' j hl hj=>?_) (fun q' i' j hl hj=>?_) (fun q' i' j b o hl hj ha=>?_))
 · have e1:e.chi q' i'=c0 q' i':=by rw[hce,Q4a hl]
   rw[e1] at hj⊢
   exact hc q' i' j hl hj
 · rw[Q2a hl] at hj⊢
   by_cases g:q' - K=p/\i'=i
   · obtain ⟨ga,gb⟩:=g
     rw[ga,gb,h2] at hj⊢
     simp only at hj⊢
     rcases g2.2.2 with ⟨_,g0⟩|⟨b,o,cap',cur,ty,hv,hg,rest⟩
     · omega
     · cases hv
       obtain ⟨f1,f2⟩:=hF' b rfl
       refine ⟨b,o,rfl,F.rows.hi q b ⟨R0,_,hq,g1,rfl⟩,by simp,f1,f2,_,Q2b (hR j hj) (g3 j hj),fun t v ht=>?_⟩
       simp only[List.getElem?_take,List.getElem?_drop] at ht
       split at ht
       · exact g2.cell ht
       · cases ht
   · rw[h1 _ _ _ _ g] at hj⊢
     have e1:e.chi q' i'=G (q' - K) i':=by rw[hce,Q2a hl]
     have hx:=F'.ext.ok q' i' j (by rw[e1];exact hj)
     rw[e1] at hx
     obtain ⟨b,p',f1,f2,f3,f4,f5,vs,f6,f7⟩:=hx
     exact ⟨b,p',f1,f2,f3,f4,f5,vs,Q2b (hG _ _ j hj) f6,f7⟩
 · rw[Q2a hl] at hj ha
   by_cases g:q' - K=p/\i'=i
   · obtain ⟨ga,gb⟩:=g
     rw[ga,gb,h2] at ha
     have ha:ad=some ⟨b,o,none⟩:=ha
     subst ha
     cases hx:(⟨w,[]⟩:Base).ex b with
     | none=>rfl
     | some ob=>exact absurd ⟨R0,_,hq,g1,rfl⟩ ((F.ext.ex b ob hx).2.2.2.2 q)
   · rw[h1 _ _ _ _ g] at hj ha
     have e1:e.chi q' i'=G (q' - K) i':=by rw[hce,Q2a hl]
     exact F'.ext.exx q' i' j b o (by rw[e1];exact hj) (by rw[e1];exact ha)⟩
structure FamsAt (w:World) (lo:Nat) (g:List Value) (G:R9z):Prop where
 ok:∀q i j,j<(G q i).n->∃b p,(G q i).a=some ⟨b,p,none⟩/\lo<=b/\b<w.heap.size/\(∀u∈g,u.ownBlock≠some b)/\
  ∃vs,isL ⟨[],Qra,[]⟩ ((G q i).el j) vs/\∀(t:Nat) (v:Value),vs[t]? =some v->w.cell? ⟨b,p+(j * (G q i).size+t),none⟩=some v
def RetX {α:Type} (w:World) (x:α->SV) (r:α->List ORow) (G:α->Nat->Nat->Row):Ending->World->Prop:=fun en w'=>∃(A:α) (v:Value) (g:List Value),en=.returned v/\Below w.heap.size w w'/\RowsAt w' Qra w.heap.size g (r A)/\(x A).is ⟨[],Qra,g⟩ v/\FamsAt w' w.heap.size g (G A)
theorem RowsAt.to {w:World} {c c':R9z} {lo:Nat} {g:List Value} {r:List ORow} (hr:Qic r) (h:RowsAt w c lo g r):RowsAt w c' lo g r:=by
 refine ⟨h.len,fun i R hi=>?_,h.nd⟩
 obtain ⟨v,xs,a1,a2,a3,a4⟩:=h.row i R hi
 exact ⟨v,xs,a1,a2,fun j hj=>Q2b (Qcj hr i R hi j hj) (a3 j hj),a4⟩
theorem Q7p {e:Env} {st:St} {a:Act} {s:List Act} {w w':World} {Y:Inhabited Exs} (F:Fit e ⟨w,[]⟩ st a s w') {X x:SV} {r:List ORow} {sel:List RSrc} {v:Value} (hc:e.chi=c) (hX:X.is e v) (hx:Qyo sel X x) (hr:Qtf st sel r) (hn:ndS sel=true):∃g,(∀u∈g,∀b,u.ownBlock=some b->(∃q,Qdd e st q b)\/∃k,Qhd e st k b)/\Below w.heap.size w w'/\RowsAt w' c w.heap.size g r/\x.is ⟨[],c,g⟩ v:=by
 have hsrc:∀(sel:List RSrc) (r:List ORow),Qtf st sel r->sel.length=r.length/\∀(i:Nat) (R:ORow),r[i]? =some R->∃s,sel[i]? =some s/\Qf6 st s R:=by
  intro sel
  induction sel with
  | nil=>intro r h;cases r with
    | nil=>exact ⟨rfl,fun i R hi=>by simp at hi⟩
    | cons=>exact h.elim
  | cons s l ih=>intro r h;cases r with
    | nil=>exact h.elim
    | cons R r=>
      obtain ⟨h1,h2⟩:=ih r h.2
      refine ⟨by simp[h1],fun i R' hi=>?_⟩
      cases i with
      | zero=>simp at hi;subst hi;exact ⟨s,by simp,h.1⟩
      | succ i=>simpa using h2 i R' (by simpa using hi)
 obtain ⟨hlen,hsrc⟩:=hsrc sel r hr
 have key:∀(i:Nat) (R:ORow),r[i]? =some R->∃s xs,sel[i]? =some s/\OwnR w' R.es (s.val e) R.n xs/\Q3c c R xs/\∀b,(s.val e).ownBlock=some b->(w.heap.size<=b/\b<w'.heap.size)/\((∃q,s=.own q/\Qdd e st q b)\/∃k n c,s=.blk k n c/\Qhd e st k b):=by
  intro i R hi
  obtain ⟨s,h1,h2⟩:=hsrc i R hi
  cases s with
  | own q=>
    simp only[Qf6,Qva] at h2
    split at h2
    · rename_i R0 hq
      obtain ⟨v,xs,h3,h4,h5⟩:=F.rows.row q R0 hq
      refine ⟨_,xs,h1,?_,?_,fun b hb=>?_⟩
      · simp only[RSrc.val,h3,Option.getD_some,<-h2.n,<-h2.es];exact h4
      · rw[<-hc];exact h2.els h5
      · simp only[RSrc.val,h3,Option.getD_some] at hb
        have hR:Qdd e st q b:=⟨R0,v,hq,h3,hb⟩
        refine ⟨⟨?_,F.rows.hi q b hR⟩,.inl ⟨q,rfl,hR⟩⟩
        rcases F.rows.lo q b hR with h|h
        · exact h
        · simp at h
    · exact h2.elim
  | blk k n c'=>
    simp only[Qf6,Qva] at h2
    split at h2
    · rename_i cs hk
      obtain ⟨b,xs,h3,h4,h5⟩:=h2.own F hk
      refine ⟨_,xs,h1,?_,by rw[<-hc];exact h5,fun b' hb=>?_⟩
      · simp only[RSrc.val,h3,Option.getD_some];exact h4
      · simp only[RSrc.val,h3,Option.getD_some,Value.ownBlock,Option.some.injEq] at hb
        subst hb
        refine ⟨⟨?_,F.hi k b h3⟩,.inr ⟨k,n,c',rfl,cs,hk,h3⟩⟩
        rcases F.lo k b h3 with h|h
        · exact h
        · simp at h
    · exact h2.elim
  | nil=>
    have h0:R.n=0:=NilLe.n h2
    exact ⟨_,[],h1,⟨by simp[h0],by simp,.inl ⟨rfl,h0⟩⟩,fun j hj=>by omega,fun b hb=>by simp[RSrc.val,Value.ownBlock] at hb⟩
 have hnd:∀(l:List RSrc),ndS l=true->∀(i j:Nat),i<j->∀(s s':RSrc),l[i]? =some s->l[j]? =some s'->(∀q,s=.own q->s'≠.own q)/\(∀k n c,s=.blk k n c->∀n' c',s'≠.blk k n' c'):=by
  have hh:∀(l:List RSrc) (s:RSrc),Q5z l s=false->∀(j:Nat) (s':RSrc),l[j]? =some s'->(∀q,s=.own q->s'≠.own q)/\(∀k n c,s=.blk k n c->∀n' c',s'≠.blk k n' c'):=by
   intro l
   induction l with
   | nil=>intro s _ j s' hj;simp at hj
   | cons t l ih=>
     intro s hs j s' hj
     cases j with
     | zero=>
       simp at hj;subst hj
       cases s<;>cases t<;>simp_all[Q5z]
     | succ j=>
       refine ih s ?_ j s' (by simpa using hj)
       cases s<;>cases t<;>simp_all[Q5z]
  intro l
  induction l with
  | nil=>intro _ i j _ s s' hi;simp at hi
  | cons t l ih=>
    intro hl i j hij s s' hi hj
    simp only[ndS,Bool.and_eq_true,Bool.not_eq_true'] at hl
    obtain ⟨j',rfl⟩:∃j',j=j'+1:=⟨j - 1,by omega⟩
    simp only[List.getElem?_cons_succ] at hj
    cases i with
    | zero=>simp at hi;subst hi;exact hh l t hl.1 j' s' hj
    | succ i=>exact ih hl.2 i j' o9 s s' (by simpa using hi) hj
 refine ⟨sel.map (RSrc.val e),fun u hu b hb=>?_,F.blw.below,⟨by simp[hlen],fun i R hi=>?_,fun i j b u u' hi hj hu hu'=>?_⟩,Q3v hc hx hX⟩
 · obtain ⟨s,hs,rfl⟩:=List.mem_map.1 hu
   obtain ⟨i,hi⟩:=List.mem_iff_getElem?.1 hs
   have hil:i<r.length:=by rw[<-hlen];exact (List.getElem?_eq_some_iff.1 hi).1
   obtain ⟨t,_,h1,_,_,h2⟩:=key i _ (List.getElem?_eq_getElem hil)
   rw[hi] at h1;cases h1
   rcases (h2 b hb).2 with ⟨q,_,h⟩|⟨k,_,_,_,h⟩
   · exact .inl ⟨q,h⟩
   · exact .inr ⟨k,h⟩
 · obtain ⟨s,xs,h1,h2,h3,h4⟩:=key i R hi
   exact ⟨s.val e,xs,by simp[h1],h2,h3,fun b hb=>(h4 b hb).1⟩
 · simp only[List.getElem?_map,Option.map_eq_some_iff] at hi hj
   obtain ⟨s,hs,rfl⟩:=hi
   obtain ⟨s',hs',rfl⟩:=hj
   have hil:i<r.length:=by rw[<-hlen];exact (List.getElem?_eq_some_iff.1 hs).1
   have hjl:j<r.length:=by rw[<-hlen];exact (List.getElem?_eq_some_iff.1 hs').1
   obtain ⟨t,_,h1,_,_,h2⟩:=key i _ (List.getElem?_eq_getElem hil)
   obtain ⟨t',_,h1',_,_,h2'⟩:=key j _ (List.getElem?_eq_getElem hjl)
   rw[hs] at h1;cases h1
   rw[hs'] at h1';cases h1'
   have hd:=hnd sel hn
   have sym:∀(i j:Nat) (s s':RSrc),i<j->sel[i]? =some s->sel[j]? =some s'->(s.val e).ownBlock=some b->(s'.val e).ownBlock=some b->((∃q,s=.own q/\Qdd e st q b)\/∃k n c,s=.blk k n c/\Qhd e st k b)->((∃q,s'=.own q/\Qdd e st q b)\/∃k n c,s'=.blk k n c/\Qhd e st k b)->False:=by
    intro i j s s' hij hs hs' _ _ g1 g2
    have:=hd i j hij s s' hs hs'
    rcases g1 with ⟨q,rfl,g1⟩|⟨k,n,c',rfl,g1⟩<;>rcases g2 with ⟨q',rfl,g2⟩|⟨k',n',c'',rfl,g2⟩
    · have:=F.rows.nd q q' b g1 g2
      subst this
      exact (hd i j hij _ _ hs hs').1 q rfl rfl
    · exact F.rows.no q b g1 k' g2
    · exact F.rows.no q' b g2 k g1
    · obtain ⟨_,_,g3⟩:=g1
      obtain ⟨_,_,g4⟩:=g2
      have:=F.nd k k' b g3 g4
      subst this
      exact (hd i j hij _ _ hs hs').2 k n c' rfl n' c'' rfl
   rcases Nat.lt_trichotomy i j with h|h|h
   · exact (sym i j s s' h hs hs' hu hu' (h2 b hu).2 (h2' b hu').2).elim
   · exact h
   · exact (sym j i s' s h hs' hs hu' hu (h2' b hu').2 (h2 b hu).2).elim
theorem Q0t {α:Type} {w w':World} {e:Env} {st:St} {a:Act} {s:List Act} {c0:R9z} {K:Nat} {G:α->Nat->Nat->Row} {A:α} {X:SV} {x:α->SV} {r:α->List ORow} {sel:List RSrc} {v:Value} {Y:Inhabited Exs} (F:Fit e ⟨w,[]⟩ st a s w') (hc:e.chi=Q3a c0 K (G A))
 (hX:X.is e v) (hx:Qyo sel X (x A)) (hr:Qtf st sel (r A)) (hn:ndS sel=true) (hG:∀p i j,j<(G A p i).n->Qob ((G A p i).el j)=true) (hN:∀p i,Q3d w (G A p i).a) (hp:Qic (r A)) (hxx:(x A).noX=true):RetX w x r G (.returned v) w':=by
 obtain ⟨g,h1,h2,h3,h4⟩:=Q7p F hc hX hx hr hn
 refine ⟨A,v,g,rfl,h2,h3.to hp,Q9i hxx h4,⟨fun q i j hj=>?_⟩⟩
 have e1:e.chi (q+K) i=G A q i:=by rw[hc,Q2a o9,Nat.add_sub_cancel]
 have:=F.ext.ok (q+K) i j (by rw[e1];exact hj)
 rw[e1] at this
 obtain ⟨b,p,f1,f2,_,f4,f5,vs,f6,f7⟩:=this
 refine ⟨b,p,f1,hN q i b p f1,f2,fun u hu hb=>?_,vs,Q2b (hG q i j hj) f6,f7⟩
 rcases h1 u hu b hb with ⟨q',h⟩|⟨k,h⟩
 · exact f5 q' h
 · exact f4 k h
theorem Q7q {α:Type} (hT:TOk P T) {w:World} {Y:Inhabited Exs} {fn:Func} {st:St} {X:SV} {x:α->SV} {c0:R9z} {K:Nat} {G:α->Nat->Nat->Row} (A:α) {r:α->List ORow} {sel:List RSrc} (h:Qul T (Q3a c0 K (G A)) st fn.results.toList=some X) (hs:Qaz X (x A)=sel) (hx:Qyo sel X (x A)) (hr:Qtf st sel (r A)) (hn:ndS sel=true)
 (hG:∀p i j,j<(G A p i).n->Qob ((G A p i).el j)=true) (hN:∀p i,Q3d w (G A p i).a) (hp:Qic (r A)) (hxx:(x A).noX=true):OutOk P (bodyPost P fn (RetX w x r G)) (Q3a c0 K (G A)) ⟨w,[]⟩ (.ret st):=
 Q5d hT h fun _ _ _ _ _ hc F hv=>Q0t F hc hv hx hr hn hG hN hp hxx
def NoFam:Nat->Nat->Row:=fun _ _=>⟨none,0,0,0,fun _=>[]⟩
theorem Qcm (K:Nat) {k:List Item} {st:St} (hk:noA k=true) (hn:st.qb K=true) (hr:qbR K st.r) (hc:∀q i j,q<K->j<(c q i).n->qbL K ((c q i).el j)=true) (h:Goes P Q (Q3a c K NoFam) w0 k st):Goes P Q c w0 k st:=⟨fun e s a w hce F=>by
 subst hce
 rw[Qkc hk]
 exact h.run ⟨e.rho,Q3a e.chi K NoFam,e.sg⟩ s a w rfl (F.chi (K:=K) (c':=Q3a e.chi K NoFam) (fun q i hl=>(Q4a hl).symm) hn hr hc (fun q i j hl hj=>by rw[Q2a hl] at hj;exact absurd hj (Nat.not_lt_zero _)) (fun q i j b p hl hj=>by rw[Q2a hl] at hj;exact absurd hj (Nat.not_lt_zero _)))⟩
theorem Qhc {α:Type} {f:Nat} {args:List SV} {dst:Option Nat} {k:List Item} {st:St} {vs:(Nat->Value)->List Value} {x:α->SV} {r:α->List ORow} {G:α->Nat->Nat->Row} (K:Nat) (hv:∀S:Nat->Value,Qlq S c args=some (vs S)) (hf:∀(args:Array Value) (w:World),(callFunc f args).run P w=.ok (.enter f args) w)
 (hC:∀(w:World) (S:Nat->Value),KB w0 w->XOk ⟨[],c,[]⟩ ⟨w,[]⟩->(∀q R,nth st.r q=some (some R)->RowIs c w R (S q))->Calls P f (vs S).toArray w (RetX w x r G)) (hx:∀A,(x A).rsOk=true) (hxx:∀A,(x A).noX=true) (hk:noA k=true) (hn:st.qb K=true) (hr:qbR K st.r) (hc:∀q i j,q<K->j<(c q i).n->qbL K ((c q i).el j)=true)
 (hp:∀A,Qic (r A)) (hG:∀A p i j,j<(G A p i).n->Qob ((G A p i).el j)=true)
 (h:∀(A:α),(∀p i,(∃j,j<(G A p i).n)->Q3d w0.w (G A p i).a)->Goes P Q (Q3a c K (G A)) w0 k (({ st with r:=st.r++Qjq (r A) }:St).put dst ((x A).shR (Qyn st.r)))):OutOk P Q c w0 (.call f args dst k st):=⟨fun e s a w hce F us hu=>by
 subst hce
 rw[Qhi rfl (S:=fun q=>(e.sg[q]?).getD undef) (fun q v hq=>by simp only[hq,Option.getD_some]) (hv _) hu]
 refine ⟨hf _ _,(hC w _ F.blw (F.ext.xok0 rfl) fun q R hq=>?_).mono fun en w' ⟨A,v,g,he,hb,hg,hX,hA⟩=>⟨v,he,?_⟩⟩
 · rw[Qva] at hq
   obtain ⟨v,xs,h1,h2,h3⟩:=F.rows.row q R hq
   simp only[h1,Option.getD_some]
   exact ⟨xs,h2,h3,fun b hb=>F.rows.hi q b ⟨R,v,hq,h1,hb⟩⟩
 · rw[Qkc hk]
   have F1:=F.adds hb (hg.to (c':=e.chi) (hp A))
   have hq1:∀l:List ORow,Qic l->qbR K (Qjq l):=by
    intro l
    induction l with
    | nil=>intro _;trivial
    | cons R l ih=>intro h;exact ⟨fun j hj=>Q9c (h.1 j hj),ih h.2⟩
   have hq2:∀l m:List (Option ORow),qbR K l->qbR K m->qbR K (l++m):=by
    intro l m
    induction l with
    | nil=>intro _ h;exact h
    | cons R l ih=>
      intro h h'
      cases R with
      | none=>exact ih h h'
      | some R=>exact ⟨h.1,ih h.2 h'⟩
   have F2:=F1.chi (K:=K) (c':=Q3a e.chi K (G A)) (fun q i hl=>(Q4a hl).symm) hn (hq2 _ _ hr (hq1 _ (hp A))) hc (fun q i j hl hj=>by
    rw[Q2a hl] at hj⊢
    obtain ⟨b,p,f1,f2,f3,f4,vs,f5,f6⟩:=hA.ok _ _ j hj
    refine ⟨b,p,f1,f3,fun hm=>?_,fun k hk=>?_,fun q' hq=>?_,vs,Q2b (hG A _ _ j hj) f5,f6⟩
    · obtain ⟨i,hi⟩:=List.mem_iff_getElem?.1 hm
      have:=F.hi i b (F.pre i b hi);omega
    · obtain ⟨cs,_,h4⟩:=hk
      have:=F.hi k b h4;omega
    · obtain ⟨R',v',h1,h2,h3⟩:=hq
      simp only[Env.adds] at h1 h2
      have hl:=F.rows.len
      by_cases hq':q'<st.r.length
      · rw[List.getElem?_append_left hq'] at h1
        rw[List.getElem?_append_left o9] at h2
        have:=F.rows.hi q' b ⟨R',v',h1,h2,h3⟩
        omega
      · rw[List.getElem?_append_right o9] at h2
        exact f4 v' (List.mem_of_getElem? h2) h3) (fun q i j b p hl hj ha=>by
    rw[Q2a hl] at hj ha
    obtain ⟨b',p',f1,f2,_⟩:=hA.ok _ _ j hj
    rw[ha] at f1;cases f1
    cases hx:w0.ex b with
    | none=>rfl
    | some ob=>have:=(Array.getElem?_eq_some_iff.1 (F.ext.ex b ob hx).2.2.1).1;omega)
   have hsh:=Qj3 (e:=⟨e.rho,Q3a e.chi K (G A),e.sg⟩) (hx A) (Q9i (c':=Q3a e.chi K (G A)) (hxx A) hX)
   have hl:e.sg.length=st.r.length:=F.rows.len
   simp only[hl] at hsh
   rw[<-Qyd] at hsh
   exact (h A fun p i ⟨j,hj⟩ b o ha=>by
    obtain ⟨b',p',f1,f2,_⟩:=hA.ok p i j hj
    rw[f1] at ha;cases ha
    exact Nat.le_trans F.blw.size f2).run ⟨e.rho,Q3a e.chi K (G A),e.sg++g⟩ s _ _ rfl (F2.put hsh)⟩
def Q56 {σ:Type} (C:σ->Nat->Nat->Row) (w0:Base) (inv:σ->St) (μ:σ->Nat) (m:Nat) (s:List Act) (a:Act) (w:World):Prop:=∃y:σ,μ y<m/\∃e:Env,e.chi=C y/\Fit e w0 (inv y) a s w
theorem Qne {σ:Type} (C:σ->Nat->Nat->Row) (ws:List Nat) (ups:σ->List (Nat×SV)) (hups:σ->List (Nat×List SC)) (rups:σ->List (Nat×ORow)) (μ:σ->Nat) (x0:σ) {body:Code} {k:List Item} {st:St} (hc0:c=C x0) (hk:noA k=true) (h0:Le st (st.lay ws (ups x0) (hups x0) (rups x0))) (hb:(st.lay ws (ups x0) (hups x0) (rups x0)).bnd=true)
 (hm:w0.mo.length<=(st.lay ws (ups x0) (hups x0) (rups x0)).h.length)
 (hr:∀(x:σ) (m:Nat),m=μ x->Goes P Q (C x) w0 (.code body::.stop (Q56 C w0 (fun x=>st.lay ws (ups x) (hups x) (rups x)) μ m)::k) (st.lay ws (ups x) (hups x) (rups x))):OutOk P Q c w0 (.loop body k st):=⟨fun e s a w hc F=>by
 refine Go.wp_loop_ghost (fun n a w=>∃y:σ,μ y=n/\∃e:Env,e.chi=C y/\Fit e w0 (st.lay ws (ups y) (hups y) (rups y)) a s w) (μ x0) ⟨x0,rfl,e.cut _ _,hc.trans hc0,F.le h0 hb hm⟩ ?_
 rintro n a w ⟨y,rfl,e,hc,F⟩
 have:=(hr y _ rfl).run e s a w hc F
 simp only[KQ] at this
 rw[Qkc (c':=c) hk] at this
 refine wp_mono this ?_
 intro en a' w' hq
 cases en with
 | normal=>obtain ⟨y',h1,e',h2,h3⟩:=hq;exact ⟨μ y',h1,y',rfl,e',h2,h3⟩
 | _=>exact hq⟩
theorem Qqe {σ:Type} {C:σ->Nat->Nat->Row} {inv:σ->St} {μ:σ->Nat} {m:Nat} {k:List Item} {st:St} (y:σ) (hcy:c=C y) (hm:μ y<m) (h:Le st (inv y)) (hb:(inv y).bnd=true) (hw:w0.mo.length<=(inv y).h.length):OutOk P Q c w0 (.stop (Q56 C w0 inv μ m) k st):=
 ⟨fun e s a w hc F=>⟨y,hm,e.cut (inv y).h.length (inv y).r.length,hc.trans hcy,F.le h hb hw⟩⟩
theorem Oper.wp_monoQ {o:Oper} {a:Act} {w:World} {K:Act->World->Prop} {R R':E9z} (h:∀e a w,R e a w->R' e a w) (hh:o.wp P a w K R):o.wp P a w K R':=by
 unfold Oper.wp at *
 generalize (execOp a.eval o).run P w=r at *
 cases r with
 | ok n w'=>
   cases n<;>simp only[Oper.upon] at hh⊢<;>
    first
     | exact hh
     | exact Calls.mono hh (fun e w'' he=>by cases e<;>first|exact he|exact h _ _ _ he|exact he.elim fun a' h1=>h1.elim fun w3 h2=>⟨a',w3,h _ _ _ h2⟩)
 | halt x w'=>cases x<;>simp only[Oper.upon] at hh⊢<;>first|exact h _ _ _ hh|exact hh
theorem Qmv {ops:Array Oper} {i:Nat} {a:Act} {w:World} {K:Act->World->Prop} {R R':E9z} (h:∀e a w,R e a w->R' e a w) (hh:wpOp P ops R i K a w):wpOp P ops R' i K a w:=by
 unfold wpOp at *
 split
 · simpa [*] using hh
 · rename_i o ho
   simp only[ho] at hh
   split
   · rename_i hw;simp only[hw,if_true] at hh;exact hh.imp (Oper.wp_monoQ h) (fun g=>⟨g.1,g.2.elim fun a' h1=>h1.elim fun w3 h2=>⟨a',w3,h _ _ _ h2⟩⟩)
   · rename_i hw;rw[if_neg (by simpa using hw)] at hh;exact hh
theorem Qql {ops:Array Oper} {R R':E9z} {md:Region.Mode} {S:World->Prop} (h:∀e a w,R e a w->R' e a w):∀(f:Nat) (l:Array Bool) (a:Act) (w:World),wpL P md ops R S f l a w->wpL P md ops R' S f l a w
 | 0,_,_,_,g=>fun w' hb=>⟨(g w' hb).1,h _ _ _ (g w' hb).2⟩
 | f+1,_,_,_,g=>fun w' hb=>⟨fun hr=>h _ _ _ ((g w' hb).1 hr),fun i hi=>wpOp_mono (fun a' w' h'=>⟨h'.1,Qql h f _ a' w' h'.2⟩) (Qmv h ((g w' hb).2 i hi))⟩
def Q3z {σ:Type} (C:σ->Nat->Nat->Row) (w0:Base) (inv:σ->St) (s:List Act) (a:Act) (w:World):Prop:=∃(y:σ) (e:Env),e.chi=C y/\Fit e w0 (inv y) a s w
theorem Qmw {σ:Type} (C:σ->Nat->Nat->Row) (inv:σ->St) {ops:Array Oper} {l:List Bool} {f:Nat} {k:List Item} {st:St} (hk:noA k=true) (h1:Goes P Q c w0 (.aops ops l f::.stop (Q3z C w0 inv)::k) st) (h2:∀y,Goes P Q (C y) w0 k (inv y)):Goes P Q c w0 (.aops ops l f::k) st:=⟨fun e s a w hc F=>by
 have:=h1.run e s a w hc F
 simp only[KQ,Exit.then] at this⊢
 refine ⟨this.1,Qql (fun en a' w' hq=>?_) _ _ _ _ this.2⟩
 cases en with
 | normal=>
   obtain ⟨y,e',h3,h4⟩:=hq
   have h5:KQ P Q (C y) k s .normal a' w':=(h2 y).run e' s a' w' h3 h4
   rw[Qkc (c':=c) hk] at h5
   exact h5
 | _=>exact hq⟩
theorem Qw4 {σ:Type} (C:σ->Nat->Nat->Row) (ws:List Nat) (ups:σ->List (Nat×SV)) (hups:σ->List (Nat×List SC)) (rups:σ->List (Nat×ORow)) {ops:Array Oper} {l:List Bool} {f:Nat} {k:List Item} {st:St} (hk:noA k=true)
 (h1:Goes P Q c w0 (.aops ops l f::.stop (Q3z C w0 (fun y=>st.lay ws (ups y) (hups y) (rups y)))::k) st) (h2:∀y,Goes P Q (C y) w0 k (st.lay ws (ups y) (hups y) (rups y))):Goes P Q c w0 (.aops ops l f::k) st:=Qmw C _ hk h1 h2
theorem Qzh {σ:Type} {C:σ->Nat->Nat->Row} {inv:σ->St} {k:List Item} {st:St} (y:σ) (hcy:c=C y) (h:Le st (inv y)) (hb:(inv y).bnd=true) (hw:w0.mo.length<=(inv y).h.length):OutOk P Q c w0 (.stop (Q3z C w0 inv) k st):=
 ⟨fun e s a w hc F=>⟨y,e.cut (inv y).h.length (inv y).r.length,hc.trans hcy,F.le h hb hw⟩⟩
theorem Qdda {k:List Item} {st st':St} (h:∀(e:Env) (s:List Act) (a:Act) (w:World),e.chi=c->Fit e w0 st a s w->Fit e w0 st' a s w) (hg:Goes P Q c w0 k st'):Goes P Q c w0 k st:=⟨fun e s a w hc F=>hg.run e s a w hc (h e s a w hc F)⟩
theorem Qsca {k:List Item} {st:St} (q:Nat) {R:ORow} (el:Nat->List SC) (hq:nth st.r q=some (some R)) (hl:∀j,j<R.n->∀vs,isL ⟨[],c,[]⟩ (R.el j) vs->isL ⟨[],c,[]⟩ (el j) vs) (hg:Goes P Q c w0 k { st with r:=Q0b st.r q (some ⟨R.n,R.es,el⟩) }):Goes P Q c w0 k st:=
 Qdda (fun e s a w hc F=>by
  subst hc
  rw[Qva] at hq
  have hget:∀(q':Nat) (R':ORow),(Q0b st.r q (some (⟨R.n,R.es,el⟩:ORow)))[q']? =some (some R')->∃R0:ORow,st.r[q']? =some (some R0)/\R0.n=R'.n/\R0.es=R'.es/\∀j,j<R0.n->∀vs,isL ⟨[],e.chi,[]⟩ (R0.el j) vs->isL ⟨[],e.chi,[]⟩ (R'.el j) vs:=fun q' R' h=>by
   rw[Qci] at h
   split at h
   · rename_i hqq
     subst hqq
     split at h
     · cases h;exact ⟨R,hq,rfl,rfl,hl⟩
     · cases h
   · exact ⟨R',h,rfl,rfl,fun _ _ _ h=>h⟩
  have hR:∀q' b,Qdd e { st with r:=Q0b st.r q (some (⟨R.n,R.es,el⟩:ORow)) } q' b->Qdd e st q' b:=fun q' b ⟨R',v,h1,h2,h3⟩=>by
   obtain ⟨R0,h4,_⟩:=hget q' R' h1
   exact ⟨R0,v,h4,h2,h3⟩
  refine ⟨F.fr,F.dfr,F.tm,F.blw,F.lo,F.hi,F.nd,F.len,F.cells,F.ext.kept rfl (Nat.le_refl _) (fun _ _ _ _ _=>rfl) (fun k b h=>.inl h) (fun q' b h=>.inl (hR q' b h)),F.pre,⟨by simp only[Qkf];exact F.rows.len,fun q' R' h=>?_,fun q' b h=>F.rows.lo q' b (hR q' b h),fun q' b h=>F.rows.hi q' b (hR q' b h),fun q1 q2 b h1 h2=>F.rows.nd q1 q2 b (hR q1 b h1) (hR q2 b h2),fun q' b h k hk=>F.rows.no q' b (hR q' b h) k hk⟩⟩
  obtain ⟨R0,h1,h2,h3,h4⟩:=hget q' R' h
  obtain ⟨v,xs,g1,g2,g3⟩:=F.rows.row q' R0 h1
  exact ⟨v,xs,g1,by rw[<-h2,<-h3];exact g2,fun j hj=>by rw[<-h3];exact h4 j (by rw[h2];exact hj) _ (g3 j (by rw[h2];exact hj))⟩) hg
end
end Go.Proofs.Ytemnfncbgalljab
