/- Lemmas. No condition. -/
import Derived.Test.YtemnfncbgalljaaGreatV4
import Derived.Test.YtemnfncbgalljaaGreatN7
namespace Go.Proofs.YtemnfncbgalljaaGreat
open Go.ChangeShapes Go.WideShapes Go.Deep
set_option linter.all false
section
set_option maxRecDepth 100000
section
variable {H:Type} {enc:TypeId×Value->H} {w:World} {base:Nat} {spare:B9z} {held:Bool}
theorem Q35 {ks:List KT} {a:Option Addr} {len:Nat} {el:Nat->List Value} (h:RowK enc Tryz.prog w base spare held ks a len) (h2:Q2j w a len ks.length el) (hl:∀i,i<len->(el i).length=ks.length):∀i,i<len->kIs enc Tryz.prog w base spare held ks (el i):=fun i hi=>by
 obtain ⟨b,o,h1,_,vs,h3,h4⟩:=h i hi
 obtain ⟨b',o',h5,_,h6⟩:=h2 i hi
 rw[h1] at h5
 simp only[Option.some.injEq,Addr.mk.injEq] at h5
 obtain ⟨rfl,rfl,_⟩:=h5
 have hv:=Qxn h3
 have:el i=vs:=List.ext_getElem? fun t=>by
  by_cases ht:t<ks.length
  · have e1:=List.getElem?_eq_getElem (l:=el i) (i:=t) (by rw[hl i hi];exact ht)
    have e2:=List.getElem?_eq_getElem (l:=vs) (i:=t) (by rw[hv];exact ht)
    have c1:=h6 t _ e1
    have c2:=h4 t _ e2
    rw[c1] at c2
    rw[e1,e2];exact c2
  · rw[List.getElem?_eq_none (by rw[hl i hi];omega),List.getElem?_eq_none o9]
 rw[this];exact h3
end
end
section
open Go.ChangeShapes Go.WideShapes Go.ChangeAt Go.RowKit
end
end Go.Proofs.YtemnfncbgalljaaGreat
