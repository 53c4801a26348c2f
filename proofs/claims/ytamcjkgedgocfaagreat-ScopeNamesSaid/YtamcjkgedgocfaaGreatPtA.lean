/- What the program and the reference ask of a point: operands, the place that it writes. No condition. -/
import Derived.Test.YtamcjkgedgocfaaGreatN6
import Derived.Test.YtamcjkgedgocfaaGreatX1
import Derived.Test.YtamcjkgedgocfaaGreatG1
namespace Go.Proofs.YtamcjkgedgocfaaGreat
open Go.RowKit
set_option linter.all false
def Q6a (p:GPlace):Bool:= !p.d&&p.f==0
def Qraa (n:Nat) (o:GOper):Prop:=o.k=1∨(o.k=2∨o.k=3)∧0≤o.p.l∧o.p.l<n
theorem Qp5 {n:Nat} {may:Bool} {o:GOper} (ho:o.ok=true) (h:∀q∈Qaj may o,0≤q.1.l∧q.1.l<(n:Int)):Qraa n o:=by
 by_cases g:o.k=1
 · exact .inl g
 · refine .inr ⟨?_,h (o.p,_) (by unfold Qaj;rw[if_neg g];exact List.mem_singleton.2 rfl)⟩
   simp only[GOper.ok,Bool.or_eq_true,Bool.and_eq_true,beq_iff_eq] at ho
   omega
theorem Qvp {g:Nat→GOper} {q:GPlace×Bool}:∀{n i},i<n→q∈Qaj true (g i)→q∈Qlh g n
 | n+1,i,hi,h=>by
   simp only[Qlh,List.mem_append]
   rcases Nat.lt_or_ge i n with h1|h1
   · exact .inl (Qvp h1 h)
   · obtain rfl:i=n:=by omega
     exact .inr h
theorem Q89 {F:GFun} (h:F.Ok) {b:Nat} (hb:b<F.bn) (hk:F.jk b=4) {i:Nat} (hi:i<F.jn b):Qraa F.ln (F.ja b i):=by
 have h1:=h.jmIn hb
 have ho:=h.okJ hb
 simp only[GJump.ok,GFun.jump,Bool.or_eq_true,Bool.and_eq_true,beq_iff_eq,Q7r,List.all_eq_true,List.mem_range] at ho
 have ho:(F.ja b i).ok=true:=by
  rcases ho with ((ho|ho)|ho)|ho
  · omega
  · omega
  · omega
  · exact ho.2 i hi
 refine Qp5 (may:=true) ho fun q hq=>h1 q ?_
 unfold Qlp Qpi
 rw[if_neg (by omega),if_pos hk]
 exact List.mem_cons_of_mem _ (Qvp hi hq)
end Go.Proofs.YtamcjkgedgocfaaGreat
