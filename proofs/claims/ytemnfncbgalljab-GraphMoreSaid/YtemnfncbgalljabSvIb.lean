/- Lemmas. No condition. -/
import Derived.Test.YtemnfncbgalljabN6
namespace Go.Proofs.Ytemnfncbgalljab
open Go.RowKit
set_option linter.all false
theorem Qcja {e e':Env}:∀{l:List SC} {vs:List Value},(∀c∈l,∀v,c.is e v->c.is e' v)->isL e l vs->isL e' l vs
 | [],[],_,_=>trivial
 | c::l,v::vs,hm,h=>⟨hm c List.mem_cons_self v h.1,Qcja (fun x hx=>hm x (List.mem_cons_of_mem _ hx)) h.2⟩
 | [],_::_,_,h=>h.elim
 | _::_,[],_,h=>h.elim
def GFun.moved (F:GFun) (lA:Option Addr) (lc:Nat) (bA:Option Addr) (bc:Nat) (sA:Nat->Option Addr) (sc:N9z) (jA:Nat->Option Addr) (jc:N9z):GFun:={ F with lA:=lA,lc:=lc,bA:=bA,bc:=bc,sA:=sA,sc:=sc,jA:=jA,jc:=jc }
section
variable (F:GFun) (lA:Option Addr) (lc:Nat) (bA:Option Addr) (bc:Nat) (sA:Nat->Option Addr) (sc:N9z) (jA:Nat->Option Addr) (jc:N9z)
theorem Q6ia:∀n,Qrm (F.moved lA lc bA bc sA sc jA jc) n=Qrm F n
 | 0=>rfl
 | n+1=>by simp only[Qrm,Q6ia n];rfl
theorem Q5ia:∀n,Qke (F.moved lA lc bA bc sA sc jA jc) n=Qke F n
 | 0=>rfl
 | n+1=>by simp only[Qke,Q5ia n];rfl
theorem Q8ia:fchkV (F.moved lA lc bA bc sA sc jA jc)=fchkV F:=by
 have h1:Q0c (F.moved lA lc bA bc sA sc jA jc)=Q0c F:=rfl
 have h2:Qrf (F.moved lA lc bA bc sA sc jA jc)=Qrf F:=by
  unfold Qrf
  rw[Q6ia];rfl
 have h3:Qmo (F.moved lA lc bA bc sA sc jA jc)=Qmo F:=by
  unfold Qmo
  rw[Q5ia];rfl
 unfold fchkV
 rw[h1,h2,h3]
end
end Go.Proofs.Ytemnfncbgalljab
