/- What the program and the reference ask of a point: operands, the place that it writes. No condition. -/
import Derived.Test.YtamcjkgedgocfaaGreatN6
import Derived.Test.YtamcjkgedgocfaaGreatX1
import Derived.Test.YtamcjkgedgocfaaGreatG1
namespace Go.Proofs.YtamcjkgedgocfaaGreat
open Go.RowKit
set_option linter.unusedVariables false
set_option linter.unusedSimpArgs false
def wholeP (p:GPlace):Bool:= !p.d&&p.f==0
def opIn (n:Nat) (o:GOper):Prop:=o.k=1∨(o.k=2∨o.k=3)∧0≤o.p.l∧o.p.l<n
theorem opIn_of {n:Nat} {may:Bool} {o:GOper} (ho:o.ok=true) (h:∀q∈opPl may o,0≤q.1.l∧q.1.l<(n:Int)):opIn n o:=by
 by_cases g:o.k=1
 · exact .inl g
 · refine .inr ⟨?_,h (o.p,_) (by unfold opPl;rw[if_neg g];exact List.mem_singleton.2 rfl)⟩
   simp only[GOper.ok,Bool.or_eq_true,Bool.and_eq_true,beq_iff_eq] at ho
   omega
theorem opsPl_mem {g:Nat→GOper} {q:GPlace×Bool}:∀{n i},i<n→q∈opPl true (g i)→q∈opsPl g n
 | n+1,i,hi,h=>by
   simp only[opsPl,List.mem_append]
   rcases Nat.lt_or_ge i n with h1|h1
   · exact .inl (opsPl_mem h1 h)
   · obtain rfl:i=n:=by omega
     exact .inr h
theorem argIn {F:GFun} (h:F.Ok) {b:Nat} (hb:b<F.bn) (hk:F.jk b=4) {i:Nat} (hi:i<F.jn b):opIn F.ln (F.ja b i):=by
 have h1:=h.jmIn hb
 have ho:=h.okJ hb
 simp only[GJump.ok,GFun.jump,Bool.or_eq_true,Bool.and_eq_true,beq_iff_eq,argL_all,List.all_eq_true,List.mem_range] at ho
 have ho:(F.ja b i).ok=true:=by
  rcases ho with ((ho|ho)|ho)|ho
  · omega
  · omega
  · omega
  · exact ho.2 i hi
 refine opIn_of (may:=true) ho fun q hq=>h1 q ?_
 unfold jmPlB jmPl
 rw[if_neg (by omega),if_pos hk]
 exact List.mem_cons_of_mem _ (opsPl_mem hi hq)
theorem funX_qb (F:GFun):∀q i j,q<4→j<(funX F q i).n→qbL 4 ((funX F q i).el j)=true:=fun q i j hq hj=>by
 match q,hq with
 | 0,_=>rfl
 | 1,_=>rfl
 | 2,_=>rfl
 | 3,_=>rfl
theorem pointNC (F:GFun) (w:World) (hF:F.At w) (hS:F.Sm) (n:Nat) (hn:n<stN F.sn F.bn):
 Calls Tryz.prog 44 #[F.val,.int .i64 (.ofNat n)] w (Ret w (.agg #[.int .i64 (.ofNat (pbN F n)),.int .i64 (.ofNat (piN F n))])):=by
 obtain ⟨h1,h2,h3⟩:=num_pt hn
 have:=pointC F w hF hS (pbN F n) (piN F n) h1 h2
 rw[←h3] at this
 exact this
end Go.Proofs.YtamcjkgedgocfaaGreat
