/- Lemmas. No condition. -/
import Derived.Test.YtemnfncbgalljabX1
import Derived.Test.YtemnfncbgalljabG1
namespace Go.Proofs.Ytemnfncbgalljab
open Go.RowKit
set_option linter.all false
def Q6a (p:GPlace):Bool:= !p.d&&p.f==0
def Qraa (n:Nat) (o:GOper):Prop:=o.k=1\/(o.k=2\/o.k=3)/\0<=o.p.l/\o.p.l<n
theorem Qp5 {n:Nat} {may:Bool} {o:GOper} (ho:o.ok=true) (h:∀q∈Qaj may o,0<=q.1.l/\q.1.l<(n:Int)):Qraa n o:=by
 by_cases g:o.k=1
 · exact .inl g
 · refine .inr ⟨?_,h (o.p,_) (by unfold Qaj;rw[if_neg g];exact List.mem_singleton.2 rfl)⟩
   simp only[GOper.ok,Bool.or_eq_true,Bool.and_eq_true,beq_iff_eq] at ho
   omega
theorem Qvp {g:Nat->GOper} {q:GPlace×Bool}:∀{n i},i<n->q∈Qaj true (g i)->q∈Qlh g n
 | n+1,i,hi,h=>by
   simp only[Qlh,List.mem_append]
   rcases Nat.lt_or_ge i n with h1|h1
   · exact .inl (Qvp h1 h)
   · obtain rfl:i=n:=by omega
     exact .inr h
theorem Q89 {F:GFun} (h:F.Ok) {b:Nat} (hb:b<F.bn) (hk:F.jk b=4) {i:Nat} (hi:i<F.jn b):Qraa F.ln (F.ja b i):=by
 have h1:=h.jmIn hb
 have ho:=h.okJ hb
 simp only[GJump.ok,GFun.jump,Bool.or_eq_true,Bool.and_eq_true,beq_iff_eq,Q7r,List.all_eq_true,List.mem_range] at ho
 have ho:(F.ja b i).ok=true:=by
  rcases ho with ((ho|ho)|ho)|ho
  · omega
  · omega
  · omega
  · exact ho.2 i hi
 refine Qp5 (may:=true) ho fun q hq=>h1 q ?_
 unfold Qlp Qpi
 rw[if_neg o9,if_pos hk]
 exact List.mem_cons_of_mem _ (Qvp hi hq)
theorem Qyfa {F:GFun} (h:F.Ok) {b:Nat} (hb:b<F.bn) (hk:F.jk b=2):Qraa F.ln (F.jo b):=by
 have h1:=h.jmIn hb
 have ho:=h.okJ hb
 simp only[GJump.ok,GFun.jump,Bool.or_eq_true,Bool.and_eq_true,beq_iff_eq] at ho
 have ho:(F.jo b).ok=true:=by
  rcases ho with ((ho|ho)|ho)|ho
  · omega
  · exact ho.1.1.2
  · omega
  · omega
 refine Qp5 (may:=false) ho fun q hq=>h1 q ?_
 unfold Qlp Qpi
 rw[if_pos hk]
 exact hq
structure StIn (n:Nat) (s:GStmt):Prop where
 k:s.k=1\/s.k=2\/s.k=3\/s.k=4
 r:s.k=1->s.r.k=1/\Qraa n s.r.a\/(s.r.k=2\/s.r.k=3)/\Qraa n s.r.a/\Qraa n s.r.b\/s.r.k=4\/s.r.k=5
 a:s.k=2\/s.k=4->Qraa n s.a
theorem Q6ga {F:GFun} (h:F.Ok) {b i:Nat} (hb:b<F.bn) (hi:i<F.sn b):StIn F.ln (F.s b i):=by
 have h1:=h.stIn hb hi
 have hs:=h.okS hb hi
 generalize F.s b i=s at h1 hs
 have hk:s.k=1\/s.k=2\/s.k=3\/s.k=4:=by
  simp only[GStmt.ok,Bool.or_eq_true,Bool.and_eq_true,beq_iff_eq] at hs
  omega
 refine ⟨hk,fun g=>?_,fun g=>?_⟩
 · have hr:s.r.ok=true:=by
    simp only[GStmt.ok,Bool.or_eq_true,Bool.and_eq_true,beq_iff_eq] at hs
    grind
   have mem:∀q,q∈Q3e s↔q∈(if s.r.k=4\/s.r.k=5 then [(s.p,false),(s.r.p,false)] else if s.r.k=1 then (s.p,false)::Qaj true s.r.a else (s.p,false)::(Qaj false s.r.a++Qaj false s.r.b)):=fun q=>by
    unfold Q3e
    rw[if_neg o9,if_neg o9,if_pos g]
   simp only[GRv.ok,Bool.or_eq_true,Bool.and_eq_true,beq_iff_eq] at hr
   by_cases g4:s.r.k=4\/s.r.k=5
   · exact .inr (.inr g4)
   by_cases g1:s.r.k=1
   · refine .inl ⟨g1,Qp5 (may:=true) (by grind) fun q hq=>h1 q ((mem q).2 ?_)⟩
     rw[if_neg g4,if_pos g1];exact List.mem_cons_of_mem _ hq
   · refine .inr (.inl ⟨by omega,Qp5 (may:=false) (by grind) fun q hq=>h1 q ((mem q).2 ?_),Qp5 (may:=false) (by grind) fun q hq=>h1 q ((mem q).2 ?_)⟩)
     · rw[if_neg g4,if_neg g1];exact List.mem_cons_of_mem _ (List.mem_append_left _ hq)
     · rw[if_neg g4,if_neg g1];exact List.mem_cons_of_mem _ (List.mem_append_right _ hq)
 · refine Qp5 (may:=false) ?_ fun q hq=>h1 q ?_
   · simp only[GStmt.ok,Bool.or_eq_true,Bool.and_eq_true,beq_iff_eq] at hs
     grind
   · unfold Q3e;rw[if_neg o9,if_pos g];exact hq
theorem Qrda (b:Bool):Qre (.lit b) (.bool b):=rfl
theorem Qsda (b:Bool):Qre (.bool b) (.bool b):=rfl
theorem Qmc (F:GFun):∀q i j,q<4->j<(Qwa F q i).n->qbL 4 ((Qwa F q i).el j)=true:=fun q i j hq hj=>by
 match q,hq with
 | 0,_=>rfl
 | 1,_=>rfl
 | 2,_=>rfl
 | 3,_=>rfl
def rvN (r:GRv):Nat:=if r.k=1 then 1 else if r.k=2\/r.k=3 then 2 else 0
def rvG (r:GRv) (i:Nat):GOper:=if i=0 then r.a else r.b
def Qlea (s:GStmt):Nat:=if s.k=1 then rvN s.r else if s.k=3 then 0 else 1
def stG (s:GStmt) (i:Nat):GOper:=if s.k=1 then rvG s.r i else s.a
theorem Qjga {F:GFun} {n:Nat} (h:Qge F n=true):stAt F n=F.s (pbN F n) (piN F n):=by
 unfold Qge at h
 unfold stAt
 rw[if_pos (of_decide_eq_true h)]
def tgP (F:GFun) (n:Nat):GPlace:=if Qge F n then (stAt F n).p else F.jd (pbN F n)
def tgW (F:GFun) (n:Nat):Bool:=if Qge F n then decide ((stAt F n).k=1) else decide (F.jk (pbN F n)=4)
end Go.Proofs.Ytemnfncbgalljab
