/- Operations that the evaluator does not know, met by hand: a remainder. No condition. -/
import Derived.Test.YtaafofmfbcnaaaaGreatSxQ
namespace Go.Proofs.YtaafofmfbcnaaaaGreat
open Go.RowKit
set_option linter.unusedVariables false
set_option linter.unusedSimpArgs false
section
variable {P:Program} {Q:Exit→Act→World→Prop} {c:Nat→Nat→Row} {w0:Base}
theorem go_manV {o:Oper} {all:Array Oper} {rest:List Oper} {k:List Item} {st:St} (x:SV) (hg:o.guard=none) (hop:∀(e:Env) (a:Act) (w:World),isV e st.t a.tmps.toList→∃v,x.is e v∧(execOp a.eval o).run P w=.ok (.value v) w)
 (h:Goes P Q c w0 (.ops all rest::k) (st.put o.dst x)):OutOk P Q c w0 (.man o all rest k st):=
 ⟨fun e s a w hc F=>by
  obtain ⟨v,h1,h2⟩:=hop e a w F.tm
  show wpList P all (KQ P Q c k s) (o::rest) a w
  refine list_op hg ?_
  unfold Oper.wp
  rw[h2,Oper.upon_value]
  exact h.run e s _ _ hc (F.put h1)⟩
theorem go_rem {o:Oper} {all:Array Oper} {rest:List Oper} {k:List Item} {st:St} {t u:Nat} {x y:Operand} {m n:Nat} (z:Nat) (hg:o.guard=none) (ho:o.op=.binOp .rem t x y u) (hx:evO st x=.pt (.one (.int .i64 (.ofNat m)))) (hy:evO st y=.pt (.one (.int .i64 (.ofNat n)))) (hn:0<n) (hz:z=m % n)
 (h:Goes P Q c w0 (.ops all rest::k) (st.put o.dst (.pt (.one (.int .i64 (.ofNat z)))))):OutOk P Q c w0 (.man o all rest k st):=
 go_manV _ hg (fun e a w tm=>by
  have h1:=evO_is tm x
  have h2:=evO_is tm y
  rw[hx] at h1
  rw[hy] at h2
  have h1:=one_int h1
  have h2:=one_int h2
  refine ⟨_,rfl,?_⟩
  have hn0:¬n=0:=by omega
  simp[execOp,ho,h1,h2,eqGuard_at_int,binOp,Op.intDiv,hn0,hz]
  exact (Int.ofNat_tmod m n).symm) h
theorem go_takeR (n:Nat) {all:Array Oper} {i:Nat} {listed:List Bool} {f:Nat} {k:List Item} {l:List (List Item)} {st:St} {o:Oper} {t u:Nat} {x y:Operand} {m:Int} {d:Nat} (z:Nat) (_hn:l[n]? =some (.aop all i listed f::k))
 (hl:l=(Region.ready .any all listed.toArray).map fun j=>(.aop all j listed f::k:List Item)) (hi:all[i]? =some o) (ho:o.op=.binOp .rem t x y u) (hns:Region.noSelect all=true) (hfr:Region.free .any all listed.toArray i=true) (hr:(Region.ready .any all listed.toArray).contains i=true)
 (hg:guardE all st o=some true) (hx:evO st x=.pt (.one (.int .i64 m))) (hy:evO st y=.pt (.one (.int .i64 (.ofNat d)))) (hm:0≤m) (hd:0<d) (hz:z=m.toNat % d) (h:Goes P Q c w0 (.aops all (setN listed i true) f::k) (st.put o.dst (ofR (.int .i64 (.ofNat z))))):OutOk P Q c w0 (.fork l st):=⟨fun x' hx'=>⟨fun e s a w hc F=>by
 rw[hl] at hx'
 obtain ⟨j,hj,rfl⟩:=List.mem_map.1 hx'
 have hSX:SX c w:=F.ext.xok0 hc
 have hH:=(h.run e s (a.put o.dst (.int .i64 (.ofNat z))) w hc (F.put (ofR_is e _))).2
 rw[setN_arr] at hH
 have hyl:YieldsIf P all (SX c) o (.int .i64 (.ofNat z)) a:=by
  refine .inl ⟨guardE_is F hg,fun w1 _=>?_⟩
  have h1:=evO_is F.tm x
  have h2:=evO_is F.tm y
  rw[hx] at h1
  rw[hy] at h2
  have h1:=one_int h1
  have h2:=one_int h2
  have hn0:¬d=0:=by omega
  obtain ⟨m',rfl⟩:∃m':Nat,m=.ofNat m':=⟨m.toNat,by simp only[Int.ofNat_eq_natCast];omega⟩
  simp[execOp,ho,h1,h2,eqGuard_at_int,binOp,Op.intDiv,hn0,hz]
  exact (Int.ofNat_tmod m' d).symm
 have:=wpL_take (Q:=NP (KQ P Q c k s)) hi hns hfr hr (fun _ _ _ h=>h.elim) SX_later hyl hSX hH
 exact (this w (Below.refl _ _)).2 j hj⟩⟩
end
end Go.Proofs.YtaafofmfbcnaaaaGreat
