/- What the program and the reference ask of a point: operands, the place that it writes. No condition. -/
import Derived.Test.YtemnfncbgalljaaGreatN6
import Derived.Test.YtemnfncbgalljaaGreatX1
import Derived.Test.YtemnfncbgalljaaGreatG1
namespace Go.Proofs.YtemnfncbgalljaaGreat
open Go.RowKit
set_option linter.all false
set_option maxHeartbeats 64000000
set_option maxRecDepth 100000
def Q6a (p:GPlace):Bool:= !p.d&&p.f==0
def Qraa (n:Nat) (o:GOper):Prop:=o.k=1\/(o.k=2\/o.k=3)/\0<=o.p.l/\o.p.l<n
theorem Qp5 {n:Nat} {may:Bool} {o:GOper} (ho:o.ok=true) (h:∀q∈Qaj may o,0<=q.1.l/\q.1.l<(n:Int)):Qraa n o:=by
 by_cases g:o.k=1
 · exact .inl g
 · refine .inr ⟨?_,h (o.p,_) (by unfold Qaj;rw[if_neg g];exact List.mem_singleton.2 rfl)⟩
   simp only[GOper.ok,Bool.or_eq_true,Bool.and_eq_true,beq_iff_eq] at ho
   omega
theorem Qvp {g:Nat->GOper} {q:GPlace×Bool}:∀{n i},i<n->q∈Qaj true (g i)->q∈Qlh g n
 | n+1,i,hi,h=>by
   simp only[Qlh,List.mem_append]
   rcases Nat.lt_or_ge i n with h1|h1
   · exact .inl (Qvp h1 h)
   · obtain rfl:i=n:=by omega
     exact .inr h
theorem Q89 {F:GFun} (h:F.Ok) {b:Nat} (hb:b<F.bn) (hk:F.jk b=4) {i:Nat} (hi:i<F.jn b):Qraa F.ln (F.ja b i):=by
 have h1:=h.jmIn hb
 have ho:=h.okJ hb
 simp only[GJump.ok,GFun.jump,Bool.or_eq_true,Bool.and_eq_true,beq_iff_eq,Q7r,List.all_eq_true,List.mem_range] at ho
 have ho:(F.ja b i).ok=true:=by
  rcases ho with ((ho|ho)|ho)|ho
  · omega
  · omega
  · omega
  · exact ho.2 i hi
 refine Qp5 (may:=true) ho fun q hq=>h1 q ?_
 unfold Qlp Qpi
 rw[if_neg (by omega),if_pos hk]
 exact List.mem_cons_of_mem _ (Qvp hi hq)
theorem Qmc (F:GFun):∀q i j,q<4->j<(Qwa F q i).n->qbL 4 ((Qwa F q i).el j)=true:=fun q i j hq hj=>by
 match q,hq with
 | 0,_=>rfl
 | 1,_=>rfl
 | 2,_=>rfl
 | 3,_=>rfl
theorem Q2y (l f:Int) (d:Bool) (w:World):
 Calls Tryz.prog 143 #[.agg #[.int .i64 l,.bool d,.int .u8 f]] w (Ret w (.bool (Q6a ⟨l,d,f⟩))):=by
 refine Qaa (args:=[.pt (.agg [.int .i64 l,.bool d,.int .u8 f])]) (c:=Qra) Tryz.func143 rfl (Qga _) rfl rfl ?_
 obtain ⟨_,hnd,_,hnt,_,har,_,hcm,_,_,_,_,ar01,ar12,_,hzpl,_,_,_,_,_,_,_,_,hT⟩:=Qca
 repeat' (first
  | refine go1 ?_|refine go2 (fun h=>?_) (fun h=>?_)
  | fail)
 all_goals
  subst hnd hnt hcm
  refine Qtb ?_
  grind [Q6a]
theorem Qsy (F:GFun) (w:World) (hF:F.At w) (hS:F.Sm) (n:Nat) (hn:n<stN F.sn F.bn):
 Calls Tryz.prog 207 #[F.val,.int .i64 (.ofNat n)] w (Ret w (.agg #[.int .i64 (.ofNat (pbN F n)),.int .i64 (.ofNat (piN F n))])):=by
 obtain ⟨h1,h2,h3⟩:=Qoc hn
 have:=Qry F w hF hS (pbN F n) (piN F n) h1 h2
 rw[<-h3] at this
 exact this
theorem Qb3 (F:GFun) (w:World) (hF:F.At w) (hS:F.Sm) (n:Nat) (hn:n<stN F.sn F.bn):
 Calls Tryz.prog 228 #[F.val,.int .i64 (.ofNat n)] w (Ret w (Q6z F (pbN F n))):=by
 have h1 (wc:World) (hk:KB ⟨w,[]⟩ wc):=Qsy F wc (hF.later hk) hS n hn
 have hpb:=(Qoc hn).1
 obtain ⟨pb,hb'⟩:∃b,b=pbN F n:=⟨_,rfl⟩
 rw[<-hb'] at h1 hpb⊢
 clear hb' hS
 obtain ⟨pa,un,lA,ln,lc,lk,lt,bA,bn,bc,sA,sn,sc,s,jA,jn,jc,ja,jk,jo,jf,jx,je,jd⟩:=F
 obtain ⟨hX,hl,hb,hs,hj⟩:=hF
 simp only at hl hb hs hj
 simp only at hpb
 refine Qaa (args:=[.pt (.agg (GFun.dat _)),.pt (.one (.int .i64 (.ofNat n)))]) (c:=(Qwa _)) Tryz.func228 rfl hX rfl rfl ?_
 obtain ⟨_,_,_,hnt,_,har,_,hcm,_,_,_,_,ar01,ar12,_,hzpl,_,_,_,_,_,_,_,_,hT⟩:=Qca
 repeat' (first
  | refine go1 ?_|exact go0|refine god ?_|refine gof ?_|(with_reducible refine Qha ?_ ?_)
  | (refine' Qiha Tryz.call207 ?_ ?_;rotate_left;(·intro wc hbc hxc;exact h1 wc hbc))
  | fail)
 all_goals rfl
end Go.Proofs.YtemnfncbgalljaaGreat
