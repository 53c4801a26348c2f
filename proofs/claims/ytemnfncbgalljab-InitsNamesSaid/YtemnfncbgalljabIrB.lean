/- Lemmas. No condition. -/
import Derived.Test.YtemnfncbgalljabW4
import Derived.Test.YtemnfncbgalljabSpA
namespace Go.Proofs.Ytemnfncbgalljab
open Go.RowKit
set_option linter.all false
def reG (F:GFun):SwG:=⟨stN F.sn F.bn,Qbd F,fun _ b=>b,fun n=>decide (n=0)⟩
theorem Qloa {F:GFun} (hO:F.Ok) {n:Nat} (hn:n<stN F.sn F.bn):(reG F).sB n=Q5ja F (pbN F n):=by
 have key:Cl (reG F).Z (reG F).R n↔ReachG (Q0g F) n:=by
  constructor
  · intro h
    induction h with
    | zero h=>
      rcases h with h|⟨m,_,h,_⟩
      · have:=of_decide_eq_true h.2
        rw[this];exact .zero
      · cases h
    | step _ h ih=>exact .step (ih h.1) ((Qcg h.1).1 h.2.2)
  · intro h
    have hlt:∀j,ReachG (Q0g F) j->j<stN F.sn F.bn:=fun j h=>by
     induction h with
     | zero=>exact Qdl hO
     | step _ hn ih=>exact Qgi hO ih _ hn
    clear hn
    induction h with
    | zero=>exact .zero (.inl ⟨Qdl hO,rfl⟩)
    | step hb hn ih=>exact .step ih ⟨hlt _ hb,rfl,(Qcg (hlt _ hb)).2 hn⟩
 have h2:=Qzka hO hn
 unfold SwG.sB
 have h1:=Qmb (Z:=(reG F).Z) (R:=(reG F).R) (n:=n)
 rw[key,h2] at h1
 cases hs:clB (reG F).Z (reG F).R n<;>cases hr:Q5ja F (pbN F n)<;>simp_all
end Go.Proofs.Ytemnfncbgalljab
