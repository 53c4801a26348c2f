/- Texts joined: SyA SyB. No condition. -/
import Derived.Test.YtamcjkgedgocfaaGreatM5
import Derived.Test.YtamcjkgedgocfaaGreatM1
namespace Go.Proofs.YtamcjkgedgocfaaGreat
open Go.RowKit
set_option linter.all false
set_option maxHeartbeats 64000000
section
set_option maxRecDepth 100000
def okI (b:Bool):Int:=if b then 0 else 8
theorem Q90 (b:Bool):decide (okI b=0)=b:=by cases b<;>rfl
theorem Qi8 {b:Bool} (h:b=false):8=okI b:=by rw[h];rfl
theorem Qh8 {b:Bool} (h:b=true):0=okI b:=by rw[h];rfl
theorem Qwe {z:Int} {b:Bool} (hz:z=okI b) (h:decide (z=0)=true):b=true:=by subst hz;cases b<;>simp_all[okI]
theorem Qxc {z:Int} {b:Bool} (hz:z=okI b) (h:decide (z=0)=false):b=false:=by subst hz;cases b<;>simp_all[okI]
theorem Q3b {p:Nat→Prop} {i:Nat} (h:∀j,j<i→p j) (hi:p i):∀j,j<i+1→p j:=fun j hj=>by
 rcases Nat.lt_or_eq_of_le (Nat.le_of_lt_succ hj) with h'|rfl
 · exact h j h'
 · exact hi
theorem Qj7 (x:Int):decide (rMn (rMx x 1) 6=x)=(decide (1≤x)&&decide (x≤6)):=by
 grind [rMn,rMx]
theorem Qk7 (x:Int):decide (rMn (rMx x 1) 3=x)=(decide (1≤x)&&decide (x≤3)):=by
 grind [rMn,rMx]
def GPlace.sc (p:GPlace):List SC:=[.int .i64 p.l,.bool p.d,.int .u8 p.f]
def GOper.sc (o:GOper):List SC:=[.int .u8 o.k,.int .i64 o.n,.int .i64 o.p.l,.bool o.p.d,.int .u8 o.p.f]
def GRv.sc (r:GRv):List SC:=[.int .u8 r.k,.int .u8 r.op,.int .u8 r.bo,.int .u8 r.a.k,.int .i64 r.a.n,.int .i64 r.a.p.l,.bool r.a.p.d,.int .u8 r.a.p.f,.int .u8 r.b.k,.int .i64 r.b.n,.int .i64 r.b.p.l,.bool r.b.p.d,.int .u8 r.b.p.f,.int .i64 r.p.l,.bool r.p.d,.int .u8 r.p.f]
def Q5r (a:Option Addr) (n c size:Nat) (el:Nat→List SC):Nat→Nat→Row:=fun _ _=>⟨a,n,c,size,el⟩
def Q8j (n:Nat) (g:Nat→GOper):List GOper:=(List.range n).map g
theorem Quh (n:Nat) (g:Nat→GOper):(Q8j n g).length=n:=by simp[Q8j]
theorem Q7r (n:Nat) (g:Nat→GOper) (p:GOper→Bool):(Q8j n g).all p=(List.range n).all fun i=>p (g i):=by simp[Q8j,Function.comp_def]
def Qed (n:Nat) (p:Nat→Bool):Bool:=(List.range n).all p
theorem Qro (p:Nat→Bool):Qed 0 p=true:=rfl
theorem Qqo (n:Nat) (p:Nat→Bool):Qed (n+1) p=(Qed n p&&p n):=by simp[Qed,List.range_succ]
theorem Qfb {n i:Nat} {p:Nat→Bool} (hi:i<n) (h:p i=false):Qed n p=false:=by
 rw[←Bool.not_eq_true];intro hh
 have:=List.all_eq_true.1 hh i (by simpa using hi)
 rw[h] at this;cases this
theorem Qla {n:Nat} {p:Nat→Bool}:Qed n p=true↔∀i,i<n→p i=true:=by
 simp[Qed]
def GStmt.sc (s:GStmt):List SC:=[.int .u8 s.k,.int .i64 s.p.l,.bool s.p.d,.int .u8 s.p.f,.int .u8 s.r.k,.int .u8 s.r.op,.int .u8 s.r.bo,.int .u8 s.r.a.k,.int .i64 s.r.a.n,.int .i64 s.r.a.p.l,.bool s.r.a.p.d,.int .u8 s.r.a.p.f,.int .u8 s.r.b.k,.int .i64 s.r.b.n,.int .i64 s.r.b.p.l,.bool s.r.b.p.d,.int .u8 s.r.b.p.f,.int .i64 s.r.p.l,.bool s.r.p.d,.int .u8 s.r.p.f,.int .u8 s.a.k,.int .i64 s.a.n,.int .i64 s.a.p.l,.bool s.a.p.d,.int .u8 s.a.p.f,.int .i64 s.l]
theorem Qwt (p:GPlace) (w:World):
 Calls Tryz.prog 100 #[p.val] w (Ret w (.int .i64 (okI p.ok))):=by
 refine Qaa (args:=[.pt (.agg p.sc)]) (c:=Qra) Tryz.func100 rfl (Qga _) rfl rfl ?_
 obtain ⟨nd,hnd,nt,hnt,ar,har,cm,hcm,mx,hmx,mn,hmn,ar01,ar12,zpl,hzpl,zjn,hzjn,zup,hzup,zmi,hzmi,zdp,hzdp,hT⟩:=Qca
 repeat' (first
  | refine go1 ?_|refine go2 (fun h=>?_) (fun h=>?_)
  | fail)
 all_goals
  subst hnd hnt hcm
  refine Qyc ?_
  grind [okI,GPlace.ok,rCm]
theorem Qr5 (o:GOper) (w:World):
 Calls Tryz.prog 154 #[o.val] w (Ret w (.int .i64 (okI o.ok))):=by
 refine Qaa (args:=[.pt (.agg o.sc)]) (c:=Qra) Tryz.func154 rfl (Qga _) rfl rfl ?_
 obtain ⟨nd,hnd,nt,hnt,ar,har,cm,hcm,mx,hmx,mn,hmn,ar01,ar12,zpl,hzpl,zjn,hzjn,zup,hzup,zmi,hzmi,zdp,hzdp,hT⟩:=Qca
 repeat' (first
  | refine go1 ?_|refine go2 (fun h=>?_) (fun h=>?_)
  | ((with_reducible apply Q1a (f:=100) (hf:=Tryz.call100));(·(cbv;try rfl));(·intro wc hbc hxc;exact Qwt o.p wc);intro z hz)
  | fail)
 all_goals
  subst hnd hnt hcm
  refine Qyc ?_
  grind [okI,GOper.ok,GPlace.eqB,GPlace.zero]
theorem Q6h (l f:Int) (d:Bool) (w:World):
 Calls Tryz.prog 100 #[.agg #[.int .i64 l,.bool d,.int .u8 f]] w (Ret w (.int .i64 (okI (GPlace.mk l d f).ok))):=Qwt ⟨l,d,f⟩ w
theorem Qhf (k n l f:Int) (d:Bool) (w:World):
 Calls Tryz.prog 154 #[.agg #[.int .u8 k,.int .i64 n,.int .i64 l,.bool d,.int .u8 f]] w (Ret w (.int .i64 (okI (GOper.mk k n ⟨l,d,f⟩).ok))):=Qr5 ⟨k,n,⟨l,d,f⟩⟩ w
theorem Qf9 (r:GRv) (w:World):
 Calls Tryz.prog 189 #[r.val] w (Ret w (.int .i64 (okI r.ok))):=by
 refine Qaa (args:=[.pt (.agg r.sc)]) (c:=Qra) Tryz.func189 rfl (Qga _) rfl rfl ?_
 obtain ⟨nd,hnd,nt,hnt,ar,har,cm,hcm,mx,hmx,mn,hmn,ar01,ar12,zpl,hzpl,zjn,hzjn,zup,hzup,zmi,hzmi,zdp,hzdp,hT⟩:=Qca
 repeat' (first
  | ((with_reducible apply Q1b hT 400);(·(cbv;try rfl));(fail_if_success with_reducible apply Qya);(try simp only[ar01,ar12]))
  | refine go1 ?_|refine Qpb ?_|refine go2 (fun h=>?_) (fun h=>?_)|refine gof ?_
  | ((with_reducible apply Q1a (f:=100) (hf:=Tryz.call100));(·(cbv;try rfl));(·intro wc hbc hxc;exact Q6h _ _ _ wc);intro z hz)
  | ((with_reducible apply Q1a (f:=154) (hf:=Tryz.call154));(·(cbv;try rfl));(·intro wc hbc hxc;exact Qhf _ _ _ _ _ wc);intro z hz)
  | ((with_reducible apply Qba (f:=210) (hf:=Tryz.func210) (hr:=Tryz.results210) (hcall:=Tryz.call210));(·rfl);(·(cbv;try rfl)))
  | (with_reducible apply Qqa 4)
  | fail)
 all_goals
  clear ar01 ar12 hT
  subst hnd hnt hmx hmn
  refine Qyc ?_
 all_goals (obtain ⟨k,op,bo,⟨ak,an,⟨al,ad,af⟩⟩,⟨bk,bn,⟨bl,bd,bf⟩⟩,⟨pl,pd,pf⟩⟩:=r;subst_vars;simp only[GRv.ok,GOper.eqB,GPlace.eqB,GPlace.zero,GOper.zero,Q90,Qj7,Qk7] at *)
 all_goals (first|refine Qi8 ?_|refine Qh8 ?_|skip)
 all_goals grind [okI]
end
section
theorem Q1z (k op bo ak an al af bk bn bl bf pl pf:Int) (ad bd pd:Bool) (w:World):
 Calls Tryz.prog 189 #[.agg #[.int .u8 k,.int .u8 op,.int .u8 bo,.int .u8 ak,.int .i64 an,.int .i64 al,.bool ad,.int .u8 af,.int .u8 bk,.int .i64 bn,.int .i64 bl,.bool bd,.int .u8 bf,.int .i64 pl,.bool pd,.int .u8 pf]] w (Ret w (.int .i64 (okI (GRv.mk k op bo ⟨ak,an,⟨al,ad,af⟩⟩ ⟨bk,bn,⟨bl,bd,bf⟩⟩ ⟨pl,pd,pf⟩).ok))):=
 Qf9 ⟨k,op,bo,⟨ak,an,⟨al,ad,af⟩⟩,⟨bk,bn,⟨bl,bd,bf⟩⟩,⟨pl,pd,pf⟩⟩ w
set_option maxRecDepth 100000 in
theorem Qxr (s:GStmt) (w:World):
 Calls Tryz.prog 146 #[s.val] w (Ret w (.int .i64 (okI s.ok))):=by
 refine Qaa (args:=[.pt (.agg s.sc)]) (c:=Qra) Tryz.func146 rfl (Qga _) rfl rfl ?_
 obtain ⟨nd,hnd,nt,hnt,ar,har,cm,hcm,mx,hmx,mn,hmn,ar01,ar12,zpl,hzpl,zjn,hzjn,zup,hzup,zmi,hzmi,zdp,hzdp,hT⟩:=Qca
 repeat' (first
  | refine go1 ?_|refine go2 (fun h=>?_) (fun h=>?_)|exact go0|refine god ?_|refine gof ?_|(with_reducible refine Qha ?_ ?_)
  | ((with_reducible apply Q1a (f:=100) (hf:=Tryz.call100));(·(cbv;try rfl));(·intro wc hbc hxc;exact Q6h _ _ _ wc);intro z hz)
  | ((with_reducible apply Q4f (f:=100) (hf:=Tryz.call100));(·(cbv;try rfl));(·intro wc hbc hxc;exact Q6h _ _ _ wc);intro z hz)
  | ((with_reducible apply Q1a (f:=154) (hf:=Tryz.call154));(·(cbv;try rfl));(·intro wc hbc hxc;exact Qhf _ _ _ _ _ wc);intro z hz)
  | ((with_reducible apply Q4f (f:=189) (hf:=Tryz.call189));(·(cbv;try rfl));(·intro wc hbc hxc;exact Q1z _ _ _ _ _ _ _ _ _ _ _ _ _ _ _ _ wc);intro z hz)
  | fail)
 all_goals
  clear ar01 ar12 hT
  subst hnd hnt hmx hmn
  refine Qyc ?_
 all_goals (obtain ⟨k,⟨ql,qd,qf⟩,⟨rk,rop,rbo,⟨ak,an,⟨al,ad,af⟩⟩,⟨bk,bn,⟨bl,bd,bf⟩⟩,⟨pl,pd,pf⟩⟩,⟨ck,cn,⟨cl,cd,cf⟩⟩,l⟩:=s;subst_vars;simp only[GStmt.ok,GRv.eqB,GRv.zero,GOper.eqB,GPlace.eqB,GPlace.zero,GOper.zero,Q90] at *)
 all_goals (first|refine Qi8 ?_|refine Qh8 ?_|skip)
 all_goals grind [okI,rMx,GPlace.ok]
end
end Go.Proofs.YtamcjkgedgocfaaGreat
