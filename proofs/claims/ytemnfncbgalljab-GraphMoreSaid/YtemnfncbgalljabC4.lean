/- Lemmas. No condition. -/
import Derived.Test.YtemnfncbgalljabV6
namespace Go.Proofs.Ytemnfncbgalljab
open Go.RowKit
set_option linter.all false
section
variable {P:Program} {Q:E9z} {c:R9z} {w0:Base} {k:List Item} {st:St}
theorem Qrs (d q i:Nat) {a:Option Addr} {n cap:Nat} (hd:nth st.t d=some (.pt (.one (.val (.slice a n cap))))) (hq:(.slice (c q i).a (c q i).n (c q i).c:Value)=.slice a n cap)
 (h:Goes P Q c w0 k { st with t:=Q0b st.t d (.pt (.one (.xs q i))) }):Goes P Q c w0 k st:=⟨fun e s a' w hce F=>by
 rw[Qva] at hd
 obtain ⟨v,h1,h2⟩:=Qce F.tm hd
 have h2:v=.slice a n cap:=h2
 subst h2
 have h3:isV e (Q0b st.t d (.pt (.one (.xs q i)))) (a'.tmps.toList.set d (.slice a n cap)):=Qsn F.tm d (by subst hce;exact hq.symm)
 have h4:a'.tmps.toList.set d (.slice a n cap)=a'.tmps.toList:=by
  apply List.ext_getElem?
  intro j
  rw[List.getElem?_set]
  split
  · rename_i e;subst e;split
    · exact h1.symm
    · rename_i g;rw[List.getElem?_eq_none o9]
  · rfl
 rw[h4] at h3
 have h5:=h.run e s a' w hce (F.turn rfl rfl F.fr F.dfr h3)
 exact h5⟩
end
end Go.Proofs.Ytemnfncbgalljab
