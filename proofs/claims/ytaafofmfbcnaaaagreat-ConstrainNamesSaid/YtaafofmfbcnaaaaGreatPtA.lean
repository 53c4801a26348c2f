/- What the program and the reference ask of a point: operands, the place that it writes. No condition. -/
import Derived.Test.YtaafofmfbcnaaaaGreatN6
import Derived.Test.YtaafofmfbcnaaaaGreatSxQ
import Derived.Test.YtaafofmfbcnaaaaGreatSxP
import Derived.Test.YtaafofmfbcnaaaaGreatGrA
namespace Go.Proofs.YtaafofmfbcnaaaaGreat
set_option maxRecDepth 100000
open Go.RowKit
set_option linter.unusedVariables false
set_option linter.unusedSimpArgs false
def wholeP (p:GPlace):Bool:= !p.d&&p.f==0
def opIn (n:Nat) (o:GOper):Prop:=o.k=1∨(o.k=2∨o.k=3)∧0≤o.p.l∧o.p.l<n
theorem opIn_of {n:Nat} {may:Bool} {o:GOper} (ho:o.ok=true) (h:∀q∈opPl may o,0≤q.1.l∧q.1.l<(n:Int)):opIn n o:=by
 by_cases g:o.k=1
 · exact .inl g
 · refine .inr ⟨?_,h (o.p,_) (by unfold opPl;rw[if_neg g];exact List.mem_singleton.2 rfl)⟩
   simp only[GOper.ok,Bool.or_eq_true,Bool.and_eq_true,beq_iff_eq] at ho
   omega
theorem opsPl_mem {g:Nat→GOper} {q:GPlace×Bool}:∀{n i},i<n→q∈opPl true (g i)→q∈opsPl g n
 | n+1,i,hi,h=>by
   simp only[opsPl,List.mem_append]
   rcases Nat.lt_or_ge i n with h1|h1
   · exact .inl (opsPl_mem h1 h)
   · obtain rfl:i=n:=by omega
     exact .inr h
theorem argIn {F:GFun} (h:F.Ok) {b:Nat} (hb:b<F.bn) (hk:F.jk b=4) {i:Nat} (hi:i<F.jn b):opIn F.ln (F.ja b i):=by
 have h1:=h.jmIn hb
 have ho:=h.okJ hb
 simp only[GJump.ok,GFun.jump,Bool.or_eq_true,Bool.and_eq_true,beq_iff_eq,argL_all,List.all_eq_true,List.mem_range] at ho
 have ho:(F.ja b i).ok=true:=by
  rcases ho with ((ho|ho)|ho)|ho
  · omega
  · omega
  · omega
  · exact ho.2 i hi
 refine opIn_of (may:=true) ho fun q hq=>h1 q ?_
 unfold jmPlB jmPl
 rw[if_neg (by omega),if_pos hk]
 exact List.mem_cons_of_mem _ (opsPl_mem hi hq)
theorem condIn {F:GFun} (h:F.Ok) {b:Nat} (hb:b<F.bn) (hk:F.jk b=2):opIn F.ln (F.jo b):=by
 have h1:=h.jmIn hb
 have ho:=h.okJ hb
 simp only[GJump.ok,GFun.jump,Bool.or_eq_true,Bool.and_eq_true,beq_iff_eq] at ho
 have ho:(F.jo b).ok=true:=by
  rcases ho with ((ho|ho)|ho)|ho
  · omega
  · exact ho.1.1.2
  · omega
  · omega
 refine opIn_of (may:=false) ho fun q hq=>h1 q ?_
 unfold jmPlB jmPl
 rw[if_pos hk]
 exact hq
structure StIn (n:Nat) (s:GStmt):Prop where
 k:s.k=1∨s.k=2∨s.k=3∨s.k=4
 r:s.k=1→s.r.k=1∧opIn n s.r.a∨(s.r.k=2∨s.r.k=3)∧opIn n s.r.a∧opIn n s.r.b∨s.r.k=4∨s.r.k=5
 a:s.k=2∨s.k=4→opIn n s.a
theorem st_in {F:GFun} (h:F.Ok) {b i:Nat} (hb:b<F.bn) (hi:i<F.sn b):StIn F.ln (F.s b i):=by
 have h1:=h.stIn hb hi
 have hs:=h.okS hb hi
 generalize F.s b i=s at h1 hs
 have hk:s.k=1∨s.k=2∨s.k=3∨s.k=4:=by
  simp only[GStmt.ok,Bool.or_eq_true,Bool.and_eq_true,beq_iff_eq] at hs
  omega
 refine ⟨hk,fun g=>?_,fun g=>?_⟩
 · have hr:s.r.ok=true:=by
    simp only[GStmt.ok,Bool.or_eq_true,Bool.and_eq_true,beq_iff_eq] at hs
    grind
   have mem:∀q,q∈stPl s↔q∈(if s.r.k=4∨s.r.k=5 then [(s.p,false),(s.r.p,false)] else if s.r.k=1 then (s.p,false)::opPl true s.r.a else (s.p,false)::(opPl false s.r.a++opPl false s.r.b)):=fun q=>by
    unfold stPl
    rw[if_neg (by omega),if_neg (by omega),if_pos g]
   simp only[GRv.ok,Bool.or_eq_true,Bool.and_eq_true,beq_iff_eq] at hr
   by_cases g4:s.r.k=4∨s.r.k=5
   · exact .inr (.inr g4)
   by_cases g1:s.r.k=1
   · refine .inl ⟨g1,opIn_of (may:=true) (by grind) fun q hq=>h1 q ((mem q).2 ?_)⟩
     rw[if_neg g4,if_pos g1];exact List.mem_cons_of_mem _ hq
   · refine .inr (.inl ⟨by omega,opIn_of (may:=false) (by grind) fun q hq=>h1 q ((mem q).2 ?_),opIn_of (may:=false) (by grind) fun q hq=>h1 q ((mem q).2 ?_)⟩)
     · rw[if_neg g4,if_neg g1];exact List.mem_cons_of_mem _ (List.mem_append_left _ hq)
     · rw[if_neg g4,if_neg g1];exact List.mem_cons_of_mem _ (List.mem_append_right _ hq)
 · refine opIn_of (may:=false) ?_ fun q hq=>h1 q ?_
   · simp only[GStmt.ok,Bool.or_eq_true,Bool.and_eq_true,beq_iff_eq] at hs
     grind
   · unfold stPl;rw[if_neg (by omega),if_pos g];exact hq
theorem leLit (b:Bool):leCell (.lit b) (.bool b):=rfl
theorem leBoo (b:Bool):leCell (.bool b) (.bool b):=rfl
theorem funX_qb (F:GFun):∀q i j,q<4→j<(funX F q i).n→qbL 4 ((funX F q i).el j)=true:=fun q i j hq hj=>by
 match q,hq with
 | 0,_=>rfl
 | 1,_=>rfl
 | 2,_=>rfl
 | 3,_=>rfl
theorem rWholeC (l f:Int) (d:Bool) (w:World):
 Calls Tryz.prog 144 #[.agg #[.int .i64 l,.bool d,.int .u8 f]] w (Ret w (.bool (wholeP ⟨l,d,f⟩))):=by
 refine go_start (args:=[.pt (.agg [.int .i64 l,.bool d,.int .u8 f])]) (c:=NoRows) Tryz.func144 rfl (noRows_ok _) rfl rfl ?_
 obtain ⟨nd,hnd,nt,hnt,ar,har,cm,hcm,mx,hmx,mn,hmn,ar01,ar12,zpl,hzpl,zjn,hzjn,zup,hzup,zmi,hzmi,zdp,hzdp,hT⟩:=t0_all
 repeat' (first
  | refine go1 ?_|refine go2 (fun h=>?_) (fun h=>?_)
  | fail)
 all_goals
  subst hnd hnt hcm
  refine bool_eq ?_
  grind [wholeP]
theorem pointNC (F:GFun) (w:World) (hF:F.At w) (hS:F.Sm) (n:Nat) (hn:n<stN F.sn F.bn):
 Calls Tryz.prog 53 #[F.val,.int .i64 (.ofNat n)] w (Ret w (.agg #[.int .i64 (.ofNat (pbN F n)),.int .i64 (.ofNat (piN F n))])):=by
 obtain ⟨h1,h2,h3⟩:=num_pt hn
 have:=pointC F w hF hS (pbN F n) (piN F n) h1 h2
 rw[←h3] at this
 exact this
set_option maxHeartbeats 4000000 in
theorem rJumpC (F:GFun) (w:World) (hF:F.At w) (hS:F.Sm) (n:Nat) (hn:n<stN F.sn F.bn):
 Calls Tryz.prog 203 #[F.val,.int .i64 (.ofNat n)] w (Ret w (jmpV F (pbN F n))):=by
 have h1 (wc:World) (hk:KB ⟨w,[]⟩ wc):=pointNC F wc (hF.later hk) hS n hn
 have hpb:=(num_pt hn).1
 obtain ⟨pb,hb'⟩:∃b,b=pbN F n:=⟨_,rfl⟩
 rw[←hb'] at h1 hpb⊢
 clear hb' hS
 obtain ⟨pa,un,lA,ln,lc,lk,lt,bA,bn,bc,sA,sn,sc,s,jA,jn,jc,ja,jk,jo,jf,jx,je,jd⟩:=F
 obtain ⟨hX,hl,hb,hs,hj⟩:=hF
 simp only at hl hb hs hj
 simp only at hpb
 refine go_start (args:=[.pt (.agg (GFun.dat ⟨pa,un,lA,ln,lc,lk,lt,bA,bn,bc,sA,sn,sc,s,jA,jn,jc,ja,jk,jo,jf,jx,je,jd⟩)),.pt (.one (.int .i64 (.ofNat n)))]) (c:=(funX ⟨pa,un,lA,ln,lc,lk,lt,bA,bn,bc,sA,sn,sc,s,jA,jn,jc,ja,jk,jo,jf,jx,je,jd⟩)) Tryz.func203 rfl hX rfl rfl ?_
 obtain ⟨nd,hnd,nt,hnt,ar,har,cm,hcm,mx,hmx,mn,hmn,ar01,ar12,zpl,hzpl,zjn,hzjn,zup,hzup,zmi,hzmi,zdp,hzdp,hT⟩:=t0_all
 repeat' (first
  | refine go1 ?_|exact go0|refine god ?_|refine gof ?_|(with_reducible refine fork_cons ?_ ?_)
  | ((with_reducible apply go_call (f:=53) (hf:=Tryz.call53));(·(cbv;try rfl));(·intro wc hbc hxc;exact h1 wc hbc))
  | fail)
 all_goals rfl
def opR (n:Nat) (g:Nat→GOper):ORow:=⟨n,5,fun i=>(g i).sc⟩
def rvN (r:GRv):Nat:=if r.k=1 then 1 else if r.k=2∨r.k=3 then 2 else 0
def rvG (r:GRv) (i:Nat):GOper:=if i=0 then r.a else r.b
def stNO (s:GStmt):Nat:=if s.k=1 then rvN s.r else if s.k=3 then 0 else 1
def stG (s:GStmt) (i:Nat):GOper:=if s.k=1 then rvG s.r i else s.a
theorem opR_nil {g:Nat→GOper}:NilLe (opR 0 g):=⟨rfl⟩
theorem opR_one {cs:List SC} {g:Nat→GOper} (hl:decide (5≤cs.length)=true) (hf:freeL cs=true) (hs:solidL cs=true) (h:leCL (cutL cs (0 * 5) 5) (g 0).sc):BlkLe cs 1 1 (opR 1 g):=by
 refine ⟨rfl,Nat.le_refl _,by decide,of_decide_eq_true hl,hf,hs,fun j hj=>?_⟩
 have hj:j<1:=hj
 obtain rfl:j=0:=by omega
 exact h
theorem opR_two {cs:List SC} {g:Nat→GOper} (hl:decide (10≤cs.length)=true) (hf:freeL cs=true) (hs:solidL cs=true) (h:leCL (cutL cs (0 * 5) 5) (g 0).sc) (h':leCL (cutL cs (1 * 5) 5) (g 1).sc):BlkLe cs 2 2 (opR 2 g):=by
 refine ⟨rfl,Nat.le_refl _,by decide,of_decide_eq_true hl,hf,hs,fun j hj=>?_⟩
 have hj:j<2:=hj
 have hj2:j=0∨j=1:=by omega
 rcases hj2 with rfl|rfl
 · exact h
 · exact h'
theorem isAt_st {F:GFun} {n:Nat} (h:isAt F n=true):stAt F n=F.s (pbN F n) (piN F n):=by
 unfold isAt at h
 unfold stAt
 rw[if_pos (of_decide_eq_true h)]
def tgP (F:GFun) (n:Nat):GPlace:=if isAt F n then (stAt F n).p else F.jd (pbN F n)
def tgW (F:GFun) (n:Nat):Bool:=if isAt F n then decide ((stAt F n).k=1) else decide (F.jk (pbN F n)=4)
end Go.Proofs.YtaafofmfbcnaaaaGreat
