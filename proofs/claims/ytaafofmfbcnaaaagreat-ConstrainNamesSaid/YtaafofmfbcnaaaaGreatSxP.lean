/- Walks by computing, more: drawn regions whose calls are handed rows. No condition. -/
import Derived.Test.YtaafofmfbcnaaaaGreatM5
namespace Go.Proofs.YtaafofmfbcnaaaaGreat
open Go.RowKit
set_option linter.unusedVariables false
set_option linter.unusedSimpArgs false
section
variable {P:Program} {Q:Exit→Act→World→Prop} {c:Nat→Nat→Row} {w0:Base}
def noneOf (fs:List Nat):Op→Bool
 | .call ⟨.value (.func n),_,_⟩=>fs.all fun m=>m !=n
 | _=>true
theorem go_drawQ (fs:List Nat) {id:Nat} {ops:Array Oper} {k:List Item} {st:St} (_hn:ops.toList.all (fun o=>noneOf fs o.op)=true) (hq:ops.toList.all (fun o=>quietOp o.op)=true) (hm:P.follows .mixedOrders=true) (hB:Region.lexB .any ops=true) (h:Goes P Q c w0 (.qops ops ops.toList::k) st):OutOk P Q c w0 (.draw id ops k st):=
 go_draw hq hm hB h
theorem go_callqRv {f:Nat} {args:List SV} {dst:Option Nat} {k:List Item} {st:St} {vs:(Nat→Value)→List Value} {v:Value} (hv:∀S:Nat→Value,toVsR S c args=some (vs S)) (hf:∀(args:Array Value) (w:World),(callFunc f args).run P w=.ok (.enter f args) w)
 (hC:∀(w:World) (S:Nat→Value),KB w0 w→XOk ⟨[],c,[]⟩ ⟨w,[]⟩→(∀q R,nth st.r q=some (some R)→RowIs c w R (S q))→Calls P f (vs S).toArray w (Ret w v))
 (h:Goes P Q c w0 k (st.put dst (ofR v))):OutOk P Q c w0 (.callq f args dst k st):=⟨fun e s a w hc F us hu=>by
 rw[toVsR_is hc (S:=fun q=>(e.sg[q]?).getD undef) (fun q v hq=>by simp only[hq,Option.getD_some]) (hv _) hu]
 refine ⟨v,fun w' hw'=>⟨hf _ _,(hC w' _ (F.later hw').blw ((F.later hw').ext.xok0 hc) fun q R hq=>?_).mono fun en w'' ⟨he,hb⟩=>⟨v,he,rfl,hw'.trans (hb.mono hw'.size)⟩⟩,?_⟩
 · have F:=F.later hw'
   rw[nth_eq] at hq
   obtain ⟨v,xs,h1,h2,h3⟩:=F.rows.row q R hq
   simp only[h1,Option.getD_some]
   exact ⟨xs,h2,by rw[←hc];exact h3,fun b hb=>F.rows.hi q b ⟨R,v,hq,h1,hb⟩⟩
 · exact h.run e s _ _ hc (F.put (ofR_is e v))⟩
end
end Go.Proofs.YtaafofmfbcnaaaaGreat
