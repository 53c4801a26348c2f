/- Lemmas. No condition. -/
import Derived.Test.YtemnfncbgalljabM5
namespace Go.Proofs.Ytemnfncbgalljab
open Go.RowKit
set_option linter.all false
set_option maxHeartbeats 64000000
section
set_option maxRecDepth 100000
def okI (b:Bool):Int:=if b then 0 else 8
theorem Q90 (b:Bool):decide (okI b=0)=b:=by cases b<;>rfl
theorem Qi8 {b:Bool} (h:b=false):8=okI b:=by rw[h];rfl
theorem Qh8 {b:Bool} (h:b=true):0=okI b:=by rw[h];rfl
theorem Qwe {z:Int} {b:Bool} (hz:z=okI b) (h:decide (z=0)=true):b=true:=by subst hz;cases b<;>simp_all[okI]
theorem Qxc {z:Int} {b:Bool} (hz:z=okI b) (h:decide (z=0)=false):b=false:=by subst hz;cases b<;>simp_all[okI]
theorem Q3b {p:Nat->Prop} {i:Nat} (h:∀j,j<i->p j) (hi:p i):∀j,j<i+1->p j:=fun j hj=>by
 rcases Nat.lt_or_eq_of_le (Nat.le_of_lt_succ hj) with h'|rfl
 · exact h j h'
 · exact hi
theorem Qj7 (x:Int):decide (rMn (rMx x 1) 6=x)=(decide (1<=x)&&decide (x<=6)):=by
 grind [rMn,rMx]
theorem Qk7 (x:Int):decide (rMn (rMx x 1) 3=x)=(decide (1<=x)&&decide (x<=3)):=by
 grind [rMn,rMx]
def GPlace.sc (p:GPlace):List SC:=[.int .i64 p.l,.bool p.d,.int .u8 p.f]
def GOper.sc (o:GOper):List SC:=[.int .u8 o.k,.int .i64 o.n,.int .i64 o.p.l,.bool o.p.d,.int .u8 o.p.f]
def GRv.sc (r:GRv):List SC:=[.int .u8 r.k,.int .u8 r.op,.int .u8 r.bo,.int .u8 r.a.k,.int .i64 r.a.n,.int .i64 r.a.p.l,.bool r.a.p.d,.int .u8 r.a.p.f,.int .u8 r.b.k,.int .i64 r.b.n,.int .i64 r.b.p.l,.bool r.b.p.d,.int .u8 r.b.p.f,.int .i64 r.p.l,.bool r.p.d,.int .u8 r.p.f]
def Q5r (a:Option Addr) (n c size:Nat) (el:Nat->List SC):Nat->Nat->Row:=fun _ _=>⟨a,n,c,size,el⟩
def Q8j (n:Nat) (g:Nat->GOper):List GOper:=(List.range n).map g
theorem Quh (n:Nat) (g:Nat->GOper):(Q8j n g).length=n:=by simp[Q8j]
theorem Q7r (n:Nat) (g:Nat->GOper) (p:GOper->Bool):(Q8j n g).all p=(List.range n).all fun i=>p (g i):=by simp[Q8j,Function.comp_def]
def Qed (n:Nat) (p:B9z):Bool:=(List.range n).all p
theorem Qro (p:B9z):Qed 0 p=true:=rfl
theorem Qqo (n:Nat) (p:B9z):Qed (n+1) p=(Qed n p&&p n):=by simp[Qed,List.range_succ]
theorem Qfb {n i:Nat} {p:B9z} (hi:i<n) (h:p i=false):Qed n p=false:=by
 rw[<-Bool.not_eq_true];intro hh
 have:=List.all_eq_true.1 hh i (by simpa using hi)
 rw[h] at this;cases this
theorem Qla {n:Nat} {p:B9z}:Qed n p=true↔∀i,i<n->p i=true:=by
 simp[Qed]
def GStmt.sc (s:GStmt):List SC:=[.int .u8 s.k,.int .i64 s.p.l,.bool s.p.d,.int .u8 s.p.f,.int .u8 s.r.k,.int .u8 s.r.op,.int .u8 s.r.bo,.int .u8 s.r.a.k,.int .i64 s.r.a.n,.int .i64 s.r.a.p.l,.bool s.r.a.p.d,.int .u8 s.r.a.p.f,.int .u8 s.r.b.k,.int .i64 s.r.b.n,.int .i64 s.r.b.p.l,.bool s.r.b.p.d,.int .u8 s.r.b.p.f,.int .i64 s.r.p.l,.bool s.r.p.d,.int .u8 s.r.p.f,.int .u8 s.a.k,.int .i64 s.a.n,.int .i64 s.a.p.l,.bool s.a.p.d,.int .u8 s.a.p.f,.int .i64 s.l]
theorem Qwt (p:GPlace) (w:World):
 Calls Try.prog 74 #[p.val] w (Ret w (.int .i64 (okI p.ok))):=by
 refine Qaa (args:=[.pt (.agg p.sc)]) (c:=Qra) Try.func74 rfl (Qga _) rfl rfl ?_
 obtain ⟨_,hnd,_,hnt,_,har,_,hcm,_,_,_,_,ar01,ar12,_,hzpl,_,_,_,_,_,_,_,_,hT⟩:=Qca
 repeat' (first
  | refine go1 ?_|refine go2 (fun h=>?_) (fun h=>?_)
  | fail)
 all_goals
  subst hnd hnt hcm
  refine Qyc ?_
  grind [okI,GPlace.ok,rCm]
theorem Qr5 (o:GOper) (w:World):
 Calls Try.prog 73 #[o.val] w (Ret w (.int .i64 (okI o.ok))):=by
 refine Qaa (args:=[.pt (.agg o.sc)]) (c:=Qra) Try.func73 rfl (Qga _) rfl rfl ?_
 obtain ⟨_,hnd,_,hnt,_,har,_,hcm,_,_,_,_,ar01,ar12,_,hzpl,_,_,_,_,_,_,_,_,hT⟩:=Qca
 repeat' (first
  | refine go1 ?_|refine go2 (fun h=>?_) (fun h=>?_)
  | ((with_reducible apply Q1a (hf:=Try.call74));(·(cbv;try rfl));(·intro wc hbc hxc;exact Qwt o.p wc);intro z hz)
  | fail)
 all_goals
  subst hnd hnt hcm
  refine Qyc ?_
  grind [okI,GOper.ok,GPlace.eqB,GPlace.zero]
theorem Q6h (l f:Int) (d:Bool) (w:World):
 Calls Try.prog 74 #[.agg #[.int .i64 l,.bool d,.int .u8 f]] w (Ret w (.int .i64 (okI (GPlace.mk l d f).ok))):=Qwt ⟨l,d,f⟩ w
theorem Qhf (k n l f:Int) (d:Bool) (w:World):
 Calls Try.prog 73 #[.agg #[.int .u8 k,.int .i64 n,.int .i64 l,.bool d,.int .u8 f]] w (Ret w (.int .i64 (okI (GOper.mk k n ⟨l,d,f⟩).ok))):=Qr5 ⟨k,n,⟨l,d,f⟩⟩ w
theorem Qf9 (r:GRv) (w:World):
 Calls Try.prog 86 #[r.val] w (Ret w (.int .i64 (okI r.ok))):=by
 refine Qaa (args:=[.pt (.agg r.sc)]) (c:=Qra) Try.func86 rfl (Qga _) rfl rfl ?_
 obtain ⟨_,hnd,_,hnt,_,har,_,hcm,_,hmx,_,hmn,ar01,ar12,_,hzpl,_,_,_,_,_,_,_,_,hT⟩:=Qca
 repeat' (first
  | (refine gov ?_;(try simp only[ar01,ar12]))
  | refine goa ?_|refine go2 (fun h=>?_) (fun h=>?_)|refine gof ?_
  | ((with_reducible apply Q1a (hf:=Try.call74));(·(cbv;try rfl));(·intro wc hbc hxc;exact Q6h _ _ _ wc);intro z hz)
  | ((with_reducible apply Q1a (hf:=Try.call73));(·(cbv;try rfl));(·intro wc hbc hxc;exact Qhf _ _ _ _ _ wc);intro z hz)
  | refine Qhha Try.func103 Try.results103 Try.call103 ?_
  | (with_reducible apply Qqa 4)
  | fail)
 all_goals
  clear ar01 ar12 hT
  subst hnd hnt hmx hmn
  refine Qyc ?_
 all_goals (obtain ⟨k,op,bo,⟨ak,an,⟨al,ad,af⟩⟩,⟨bk,bn,⟨bl,bd,bf⟩⟩,⟨pl,pd,pf⟩⟩:=r;subst_vars;simp only[GRv.ok,GOper.eqB,GPlace.eqB,GPlace.zero,GOper.zero,Q90,Qj7,Qk7] at *)
 all_goals (first|refine Qi8 ?_|refine Qh8 ?_|skip)
 all_goals grind [okI]
end
theorem Q1z (k op bo ak an al af bk bn bl bf pl pf:Int) (ad bd pd:Bool) (w:World):
 Calls Try.prog 86 #[.agg #[.int .u8 k,.int .u8 op,.int .u8 bo,.int .u8 ak,.int .i64 an,.int .i64 al,.bool ad,.int .u8 af,.int .u8 bk,.int .i64 bn,.int .i64 bl,.bool bd,.int .u8 bf,.int .i64 pl,.bool pd,.int .u8 pf]] w (Ret w (.int .i64 (okI (GRv.mk k op bo ⟨ak,an,⟨al,ad,af⟩⟩ ⟨bk,bn,⟨bl,bd,bf⟩⟩ ⟨pl,pd,pf⟩).ok))):=
 Qf9 ⟨k,op,bo,⟨ak,an,⟨al,ad,af⟩⟩,⟨bk,bn,⟨bl,bd,bf⟩⟩,⟨pl,pd,pf⟩⟩ w
theorem Qxr (s:GStmt) (w:World):
 Calls Try.prog 67 #[s.val] w (Ret w (.int .i64 (okI s.ok))):=by
 refine Qaa (args:=[.pt (.agg s.sc)]) (c:=Qra) Try.func67 rfl (Qga _) rfl rfl ?_
 obtain ⟨_,hnd,_,hnt,_,har,_,hcm,_,hmx,_,hmn,ar01,ar12,_,hzpl,_,_,_,_,_,_,_,_,hT⟩:=Qca
 repeat' (first
  | refine go1 ?_|refine go2 (fun h=>?_) (fun h=>?_)|exact go0|refine god ?_|refine gof ?_|refine Qvha ?_ ?_
  | ((with_reducible apply Q1a (hf:=Try.call74));(·(cbv;try rfl));(·intro wc hbc hxc;exact Q6h _ _ _ wc);intro z hz)
  | ((with_reducible apply Q4f (hf:=Try.call74));(·(cbv;try rfl));(·intro wc hbc hxc;exact Q6h _ _ _ wc);intro z hz)
  | ((with_reducible apply Q1a (hf:=Try.call73));(·(cbv;try rfl));(·intro wc hbc hxc;exact Qhf _ _ _ _ _ wc);intro z hz)
  | ((with_reducible apply Q4f (hf:=Try.call86));(·(cbv;try rfl));(·intro wc hbc hxc;exact Q1z _ _ _ _ _ _ _ _ _ _ _ _ _ _ _ _ wc);intro z hz)
  | fail)
 all_goals
  clear ar01 ar12 hT
  subst hnd hnt hmx hmn
  refine Qyc ?_
 all_goals (obtain ⟨k,⟨ql,qd,qf⟩,⟨rk,rop,rbo,⟨ak,an,⟨al,ad,af⟩⟩,⟨bk,bn,⟨bl,bd,bf⟩⟩,⟨pl,pd,pf⟩⟩,⟨ck,cn,⟨cl,cd,cf⟩⟩,l⟩:=s;subst_vars;simp only[GStmt.ok,GRv.eqB,GRv.zero,GOper.eqB,GPlace.eqB,GPlace.zero,GOper.zero,Q90] at *)
 all_goals (first|refine Qi8 ?_|refine Qh8 ?_|skip)
 all_goals grind [okI,rMx,GPlace.ok]
def Qgr (k:Int) (a:GOper) (fn nx el:Int) (n:Nat) (ga:Bool) (d:GPlace):Bool:=
 let call:=k==4
 let branch:=k==2
 let next:=call||branch||k==1
 !((!next&&k !=3&&k !=5)||(!next&&nx !=0)||!blk nx||
  (!branch&&(el !=0||!a.eqB .zero))||!blk el||(branch&&!a.ok)||
  (!call&&(fn !=0||!(n==0)||!d.eqB .zero))||
  decide (fn<0)||decide (8<=fn)||decide (8<n))&&
 (!call||d.ok)&&ga
theorem Qvn (k:Int) (a:GOper) (fn nx el:Int) (n:Nat) (g:Nat->GOper) (d:GPlace):(GJump.mk k a fn nx el (Q8j n g) d).ok=Qgr k a fn nx el n (Qed n fun i=>(g i).ok) d:=by
 rw[<-GJump.ok2_eq,GJump.ok2,Qgr,Quh,Q7r]
 have:(Q8j n g).isEmpty=(n==0):=by
  cases n with
  | zero=>rfl
  | succ n=>simp[Q8j,List.range_succ]
 rw[this];rfl
theorem Qwn (k fn nx el ak an al af dl df:Int) (ad dd:Bool) (A:Option Addr) (n cap:Nat) (g:Nat->GOper) (w:World) (hn:n<=maxLen) (hX:XOk ⟨[],Q5r A n cap 5 fun i=>(g i).sc,[]⟩ ⟨w,[]⟩):
 Calls Try.prog 54 #[.agg #[.int .u8 k,.int .u8 ak,.int .i64 an,.int .i64 al,.bool ad,.int .u8 af,.int .i64 fn,.int .i64 nx,.int .i64 el,.slice A n cap,.int .i64 dl,.bool dd,.int .u8 df]] w (Ret w (.int .i64 (okI (GJump.mk k ⟨ak,an,⟨al,ad,af⟩⟩ fn nx el (Q8j n g) ⟨dl,dd,df⟩).ok))):=by
 unfold maxLen at hn
 rw[Qvn]
 obtain ⟨ga,hga⟩:=x9 (Qed n fun i=>(g i).ok)
 rw[<-hga]
 refine Qaa (args:=[.pt (.agg [.int .u8 k,.int .u8 ak,.int .i64 an,.int .i64 al,.bool ad,.int .u8 af,.int .i64 fn,.int .i64 nx,.int .i64 el,.xs 0 0,.int .i64 dl,.bool dd,.int .u8 df])]) (c:=(Q5r A n cap 5 fun i=>(g i).sc)) Try.func54 rfl hX rfl rfl ?_
 obtain ⟨_,hnd,_,hnt,_,har,_,hcm,_,hmx,_,hmn,ar01,ar12,_,hzpl,_,_,_,_,_,_,_,_,hT⟩:=Qca
 by_cases h4:k=4
 · subst h4
   repeat' (first
    | refine goa ?_|refine go3 (fun hlt=>?_) (fun hge=>?_)|refine go2 (fun h=>?_) (fun h=>?_)|refine god ?_|refine gof ?_
    | ((with_reducible apply Q1a (hf:=Try.call74));(·(cbv;try rfl));(·intro wc hbc hxc;exact Q6h _ _ _ wc);intro z hz)
    | ((with_reducible apply Q1a (hf:=Try.call73));(·(cbv;try rfl));(·intro wc hbc hxc;exact Qhf _ _ _ _ _ wc);intro z hz)
    | refine Qhha Try.func72 Try.results72 Try.call72 ?_
    | ((with_reducible refine Qgha (σ:={i:Nat // i<=n/\∀j,j<i->(g j).ok=true}) (zs9 [8,2,119,9]) (fun x=>[zc9 118 x.1]) (fun x=>[]) (fun x=>[]) (fun x=>n - x.1) ⟨0,by omega,fun j hj=>by omega⟩ ?_ ?_);(·exact pfp Qdb);(rintro ⟨i,hi,hok⟩ mm hmm))
    | ((with_reducible refine Qfha ⟨i+1,by omega,Q3b hok (Qwe hz h)⟩ ?_ ?_);(·exact msr o9 y9);(·exact pfp Qdb))
    | fail)
   all_goals (first|have hgb:=hga.trans (Qfb (p:=fun i=>(g i).ok) hlt (Qxc hz h))|have hgb:=hga.trans ((Qla (p:=fun i=>(g i).ok)).2 (fun j hj=>hok j o9))|skip)
   all_goals (refine Qyc ?_;clear ar01 ar12 hT hX hga;subst hnd hnt hmx hmn har hcm)
   all_goals try (grind [Qgr,okI,rCm,blk,GOper.eqB,GPlace.eqB,GPlace.zero,GOper.zero])
 by_cases h2:k=2
 · subst h2
   repeat' (first
    | refine goa ?_|refine go3 (fun hlt=>?_) (fun hge=>?_)|refine go2 (fun h=>?_) (fun h=>?_)|refine god ?_|refine gof ?_
    | ((with_reducible apply Q1a (hf:=Try.call73));(·(cbv;try rfl));(·intro wc hbc hxc;exact Qhf _ _ _ _ _ wc);intro z hz)
    | refine Qhha Try.func72 Try.results72 Try.call72 ?_
    | ((with_reducible refine Qgha (σ:={i:Nat // i<=n/\∀j,j<i->(g j).ok=true}) (zs9 [8,2,119,9]) (fun x=>[zc9 118 x.1]) (fun x=>[]) (fun x=>[]) (fun x=>n - x.1) ⟨0,by omega,fun j hj=>by omega⟩ ?_ ?_);(·exact pfp Qdb);(rintro ⟨i,hi,hok⟩ mm hmm))
    | ((with_reducible refine Qfha ⟨i+1,by omega,Q3b hok (Qwe hz h)⟩ ?_ ?_);(·exact msr o9 y9);(·exact pfp Qdb))
    | fail)
   all_goals (first|have hgb:=hga.trans (Qfb (p:=fun i=>(g i).ok) hlt (Qxc hz h))|have hgb:=hga.trans ((Qla (p:=fun i=>(g i).ok)).2 (fun j hj=>hok j o9))|skip)
   all_goals (refine Qyc ?_;clear ar01 ar12 hT hX hga;subst hnd hnt hmx hmn har hcm)
   all_goals try (grind [Qgr,okI,rCm,blk,GOper.eqB,GPlace.eqB,GPlace.zero,GOper.zero])
 by_cases h1:k=1
 · subst h1
   repeat' (first
    | refine goa ?_|refine go3 (fun hlt=>?_) (fun hge=>?_)|refine go2 (fun h=>?_) (fun h=>?_)|refine god ?_|refine gof ?_
    | ((with_reducible apply Q1a (hf:=Try.call73));(·(cbv;try rfl));(·intro wc hbc hxc;exact Qhf _ _ _ _ _ wc);intro z hz)
    | refine Qhha Try.func72 Try.results72 Try.call72 ?_
    | ((with_reducible refine Qgha (σ:={i:Nat // i<=n/\∀j,j<i->(g j).ok=true}) (zs9 [8,2,119,9]) (fun x=>[zc9 118 x.1]) (fun x=>[]) (fun x=>[]) (fun x=>n - x.1) ⟨0,by omega,fun j hj=>by omega⟩ ?_ ?_);(·exact pfp Qdb);(rintro ⟨i,hi,hok⟩ mm hmm))
    | ((with_reducible refine Qfha ⟨i+1,by omega,Q3b hok (Qwe hz h)⟩ ?_ ?_);(·exact msr o9 y9);(·exact pfp Qdb))
    | fail)
   all_goals (first|have hgb:=hga.trans (Qfb (p:=fun i=>(g i).ok) hlt (Qxc hz h))|have hgb:=hga.trans ((Qla (p:=fun i=>(g i).ok)).2 (fun j hj=>hok j o9))|skip)
   all_goals (refine Qyc ?_;clear ar01 ar12 hT hX hga;subst hnd hnt hmx hmn har hcm)
   all_goals try (grind [Qgr,okI,rCm,blk,GOper.eqB,GPlace.eqB,GPlace.zero,GOper.zero])
 by_cases h3:k=3
 · subst h3
   repeat' (first
    | refine goa ?_|refine go3 (fun hlt=>?_) (fun hge=>?_)|refine go2 (fun h=>?_) (fun h=>?_)|refine god ?_|refine gof ?_
    | ((with_reducible apply Q1a (hf:=Try.call73));(·(cbv;try rfl));(·intro wc hbc hxc;exact Qhf _ _ _ _ _ wc);intro z hz)
    | refine Qhha Try.func72 Try.results72 Try.call72 ?_
    | ((with_reducible refine Qgha (σ:={i:Nat // i<=n/\∀j,j<i->(g j).ok=true}) (zs9 [8,2,119,9]) (fun x=>[zc9 118 x.1]) (fun x=>[]) (fun x=>[]) (fun x=>n - x.1) ⟨0,by omega,fun j hj=>by omega⟩ ?_ ?_);(·exact pfp Qdb);(rintro ⟨i,hi,hok⟩ mm hmm))
    | ((with_reducible refine Qfha ⟨i+1,by omega,Q3b hok (Qwe hz h)⟩ ?_ ?_);(·exact msr o9 y9);(·exact pfp Qdb))
    | fail)
   all_goals (first|have hgb:=hga.trans (Qfb (p:=fun i=>(g i).ok) hlt (Qxc hz h))|have hgb:=hga.trans ((Qla (p:=fun i=>(g i).ok)).2 (fun j hj=>hok j o9))|skip)
   all_goals (refine Qyc ?_;clear ar01 ar12 hT hX hga;subst hnd hnt hmx hmn har hcm)
   all_goals try (grind [Qgr,okI,rCm,blk,GOper.eqB,GPlace.eqB,GPlace.zero,GOper.zero])
 by_cases h5:k=5
 · subst h5
   repeat' (first
    | refine goa ?_|refine go3 (fun hlt=>?_) (fun hge=>?_)|refine go2 (fun h=>?_) (fun h=>?_)|refine god ?_|refine gof ?_
    | ((with_reducible apply Q1a (hf:=Try.call73));(·(cbv;try rfl));(·intro wc hbc hxc;exact Qhf _ _ _ _ _ wc);intro z hz)
    | refine Qhha Try.func72 Try.results72 Try.call72 ?_
    | ((with_reducible refine Qgha (σ:={i:Nat // i<=n/\∀j,j<i->(g j).ok=true}) (zs9 [8,2,119,9]) (fun x=>[zc9 118 x.1]) (fun x=>[]) (fun x=>[]) (fun x=>n - x.1) ⟨0,by omega,fun j hj=>by omega⟩ ?_ ?_);(·exact pfp Qdb);(rintro ⟨i,hi,hok⟩ mm hmm))
    | ((with_reducible refine Qfha ⟨i+1,by omega,Q3b hok (Qwe hz h)⟩ ?_ ?_);(·exact msr o9 y9);(·exact pfp Qdb))
    | fail)
   all_goals (first|have hgb:=hga.trans (Qfb (p:=fun i=>(g i).ok) hlt (Qxc hz h))|have hgb:=hga.trans ((Qla (p:=fun i=>(g i).ok)).2 (fun j hj=>hok j o9))|skip)
   all_goals (refine Qyc ?_;clear ar01 ar12 hT hX hga;subst hnd hnt hmx hmn har hcm)
   all_goals try (grind [Qgr,okI,rCm,blk,GOper.eqB,GPlace.eqB,GPlace.zero,GOper.zero])
 have q4:decide (k=4)=false:=by simpa using h4
 have q2:decide (k=2)=false:=by simpa using h2
 have q1:decide (k=1)=false:=by simpa using h1
 have q3:decide (k=3)=false:=by simpa using h3
 have q5:decide (k=5)=false:=by simpa using h5
 repeat' (first
  | refine goa ?_|refine god ?_
  | fail)
 all_goals (first|have hgb:=hga.trans (Qfb (p:=fun i=>(g i).ok) hlt (Qxc hz h))|have hgb:=hga.trans ((Qla (p:=fun i=>(g i).ok)).2 (fun j hj=>hok j o9))|skip)
 all_goals (refine Qyc ?_;clear ar01 ar12 hT hX hga;subst hnd hnt hmx hmn har hcm)
 all_goals try (grind [Qgr,okI,rCm,blk,GOper.eqB,GPlace.eqB,GPlace.zero,GOper.zero])
section
set_option maxRecDepth 100000
structure GFun where
 pa:Int
 un:Bool
 lA:Option Addr
 ln:Nat
 lc:Nat
 lk:Nat->Int
 lt:Nat->Int
 bA:Option Addr
 bn:Nat
 bc:Nat
 sA:Nat->Option Addr
 sn:Nat->Nat
 sc:Nat->Nat
 s:Nat->Nat->GStmt
 jA:Nat->Option Addr
 jn:Nat->Nat
 jc:Nat->Nat
 ja:Nat->Nat->GOper
 jk:Nat->Int
 jo:Nat->GOper
 jf:Nat->Int
 jx:Nat->Int
 je:Nat->Int
 jd:Nat->GPlace
def GFun.val (F:GFun):Value:=.agg #[.int .i64 F.pa,.bool F.un,.slice F.lA F.ln F.lc,.slice F.bA F.bn F.bc]
def GFun.dat (F:GFun):List SC:=[.int .i64 F.pa,.bool F.un,.xs 0 0,.xs 1 0]
def GFun.blkC (F:GFun) (b:Nat):List SC:=[.xs 2 b,.int .u8 (F.jk b),.int .u8 (F.jo b).k,.int .i64 (F.jo b).n,.int .i64 (F.jo b).p.l,.bool (F.jo b).p.d,.int .u8 (F.jo b).p.f,.int .i64 (F.jf b),.int .i64 (F.jx b),.int .i64 (F.je b),.xs 3 b,.int .i64 (F.jd b).l,.bool (F.jd b).d,.int .u8 (F.jd b).f]
def Qwa (F:GFun):Nat->Nat->Row
 | 0,_=>⟨F.lA,F.ln,F.lc,2,fun i=>[.int .u8 (F.lk i),.int .u8 (F.lt i)]⟩
 | 1,_=>⟨F.bA,F.bn,F.bc,14,fun b=>F.blkC b⟩
 | 2,b=>⟨F.sA b,F.sn b,F.sc b,26,fun i=>(F.s b i).sc⟩
 | _,b=>⟨F.jA b,F.jn b,F.jc b,5,fun i=>(F.ja b i).sc⟩
structure GFun.At (F:GFun) (w:World):Prop where
 ok:XOk ⟨[],Qwa F,[]⟩ ⟨w,[]⟩
 l:F.ln<=9223372036854775807
 b:F.bn<=9223372036854775807
 s:∀b,F.sn b<=9223372036854775807
 j:∀b,F.jn b<=9223372036854775807
theorem GFun.At.later {F:GFun} {w w':World} (h:F.At w) (hb:KB ⟨w,[]⟩ w'):F.At w':=
 ⟨XOk.at (e:=⟨[],Qwa F,[]⟩) [] h.ok hb (fun b hb=>by simp at hb),h.l,h.b,h.s,h.j⟩
def GFun.jump (F:GFun) (b:Nat):GJump:=⟨F.jk b,F.jo b,F.jf b,F.jx b,F.je b,Q8j (F.jn b) (F.ja b),F.jd b⟩
def Q4l (k t:Int):Bool:=((k==1||k==2)&&t==0)||(decide (3<=k)&&decide (k<=5)&&(t==1||t==2))
theorem Qc9 (k t:Int) (w:World):
 Calls Try.prog 84 #[.agg #[.int .u8 k,.int .u8 t]] w (Ret w (.int .i64 (okI (Q4l k t)))):=by
 refine Qaa (args:=[.pt (.agg [.int .u8 k,.int .u8 t])]) (c:=Qra) Try.func84 rfl (Qga _) rfl rfl ?_
 obtain ⟨_,hnd,_,hnt,_,har,_,hcm,_,_,_,_,ar01,ar12,_,hzpl,_,_,_,_,_,_,_,_,hT⟩:=Qca
 repeat' (first
  | refine go1 ?_|refine go2 (fun h=>?_) (fun h=>?_)
  | fail)
 all_goals
  subst hnd hnt hcm
  refine Qyc ?_
  grind [okI,Q4l,rCm]
theorem Qtb {a b:Bool} (h:a=b):Value.bool a=Value.bool b:=by rw[h]
def Q0c (F:GFun):Bool:=decide (16<F.ln)||decide (24<F.bn)||!(Qed F.bn fun b=>decide (F.sn b<=24))
theorem Q3i {x m:Nat} {b:Bool} (h:rCm .gtr (.ofNat x) (.ofNat m)=b):decide (x<=m)= !b:=by
 subst h
 show _= !decide ((m:Int)<(x:Int))
 by_cases h:x<=m<;>simp[h]<;>omega
theorem Q07 (F:GFun) (w:World) (hF:F.At w):
 Calls Try.prog 51 #[F.val] w (Ret w (.bool (Q0c F))):=by
 obtain ⟨_,_,_,_,_,_,_,_,bn,_,_,sn,_,_,_,_,_,_,_,_,_,_,_,_⟩:=F
 obtain ⟨hX,hl,hb,hs,hj⟩:=hF
 simp only at hl hb hs hj
 unfold Q0c
 simp only
 obtain ⟨ga,hga⟩:=x9 (Qed bn fun b=>decide (sn b<=24))
 rw[<-hga]
 refine Qaa (args:=[.pt (.agg (GFun.dat _))]) (c:=(Qwa _)) Try.func51 rfl hX rfl rfl ?_
 obtain ⟨_,hnd,_,hnt,_,har,_,hcm,_,hmx,_,hmn,ar01,ar12,_,hzpl,_,_,_,_,_,_,_,_,hT⟩:=Qca
 repeat' (first
  | refine go1 ?_|refine go3 (fun hlt=>?_) (fun hge=>?_)|refine go2 (fun h=>?_) (fun h=>?_)|refine gof ?_
  | ((with_reducible refine Qgha (σ:={i:Nat // i<=bn/\∀j,j<i->(fun j=>decide (sn j<=24)=true) j}) (zs9 [4,1,19,8]) (fun x=>[zc9 18 x.1]) (fun x=>[]) (fun x=>[]) (fun x=>bn - x.1) ⟨0,by omega,fun j hj=>by omega⟩ ?_ ?_);(·exact pfp Qdb);(rintro ⟨i,hi,hok⟩ mm hmm))
  | ((with_reducible refine Qfha ⟨i+1,by omega,Q3b hok ((Q3i (hcm▸h)))⟩ ?_ ?_);(·exact msr o9 y9);(·exact pfp Qdb))
  | fail)
 all_goals (first|have hgb:=hga.trans (Qfb (p:=fun i=>decide (sn i<=24)) hlt (Q3i (hcm▸h)))|have hgb:=hga.trans ((Qla (p:=fun i=>decide (sn i<=24))).2 (fun j hj=>hok j o9))|skip)
 all_goals (refine Qtb ?_;clear ar01 ar12 hT hX hga;subst hnd hnt hmx hmn har hcm)
 all_goals grind [rCm]
def Qin (F:GFun):Bool:= !(F.ln==0)&&decide (0<=F.pa)&&decide (F.pa<=8)&&decide (F.pa<F.ln)&&(Qed F.ln fun i=>Q4l (F.lk i) (F.lt i))&&F.lt 0==0
theorem Qkaa (F:GFun) (w:World) (hF:F.At w):
 Calls Try.prog 65 #[F.val] w (Ret w (.bool (Qin F))):=by
 obtain ⟨_,_,_,ln,_,lk,lt,_,_,_,_,_,_,_,_,_,_,_,_,_,_,_,_,_⟩:=F
 obtain ⟨hX,hl,hb,hs,hj⟩:=hF
 simp only at hl hb hs hj
 unfold Qin
 simp only
 obtain ⟨ga,hga⟩:=x9 (Qed ln fun i=>Q4l (lk i) (lt i))
 rw[<-hga]
 refine Qaa (args:=[.pt (.agg (GFun.dat _))]) (c:=(Qwa _)) Try.func65 rfl hX rfl rfl ?_
 obtain ⟨_,hnd,_,hnt,_,har,_,hcm,_,hmx,_,hmn,ar01,ar12,_,hzpl,_,_,_,_,_,_,_,_,hT⟩:=Qca
 by_cases h0:ln=0
 · subst h0
   repeat' (first
    | refine goa ?_
    | fail)
   all_goals (first|have hgb:=hga.trans (Qfb (p:=fun i=>Q4l (lk i) (lt i)) hlt (Qxc hz h))|have hgb:=hga.trans ((Qla (p:=fun i=>Q4l (lk i) (lt i))).2 (fun j hj=>hok j o9))|skip)
   all_goals (refine Qtb ?_;clear ar01 ar12 hT hX hga;subst hnd hnt hmx hmn har hcm)
   all_goals grind [rCm,okI]
 have q0:decide (Int.ofNat ln=0)=false:=by simp;omega
 have hp:0<ln:=by omega
 repeat' (first
  | refine goa ?_|refine go3 (fun hlt=>?_) (fun hge=>?_)|refine go2 (fun h=>?_) (fun h=>?_)|refine gof ?_
  | ((with_reducible apply Q1a (hf:=Try.call84));(·(cbv;try rfl));(·intro wc hbc hxc;exact Qc9 _ _ wc);intro z hz)
  | refine Qhha Try.func85 Try.results85 Try.call85 ?_
  | ((with_reducible refine Qgha (σ:={i:Nat // i<=ln/\∀j,j<i->(fun j=>Q4l (lk j) (lt j)=true) j}) (zs9 [4,1,33,7]) (fun x=>[zc9 32 x.1]) (fun x=>[]) (fun x=>[]) (fun x=>ln - x.1) ⟨0,by omega,fun j hj=>by omega⟩ ?_ ?_);(·exact pfp Qdb);(rintro ⟨i,hi,hok⟩ mm hmm))
  | ((with_reducible refine Qfha ⟨i+1,by omega,Q3b hok ((Qwe hz h))⟩ ?_ ?_);(·exact msr o9 y9);(·exact pfp Qdb))
  | fail)
 all_goals (first|have hgb:=hga.trans (Qfb (p:=fun i=>Q4l (lk i) (lt i)) hlt (Qxc hz h))|have hgb:=hga.trans ((Qla (p:=fun i=>Q4l (lk i) (lt i))).2 (fun j hj=>hok j o9))|skip)
 all_goals (refine Qtb ?_;clear ar01 ar12 hT hX hga;subst hnd hnt hmx hmn har hcm)
 all_goals grind [rCm,okI]
end
section
set_option maxRecDepth 100000
theorem Qub:∀l:List SC,Qbc l l
 | []=>trivial
 | c::l=>⟨by cases c<;>simp[Qre],Qub l⟩
theorem Qxd {l l':List SC} (h:l=l'):Qbc l l':=h▸Qub l
structure OnOk (c:R9z) (f:Nat) (σ:Type) (H0 H1:σ->List SC) (E:σ->GPlace->Bool->σ) (D:GPlace->Prop):Prop where
 call:∀(args:Array Value) (w:World),(callFunc f args).run Try.prog w=.ok (.enter f args) w
 re0:∀x,reL [0,1] (H0 x)=H0 x
 re1:∀x,reL [0,1] (H1 x)=H1 x
 bnd0:∀n m x,Qmq n m (H0 x)=true
 bnd1:∀n m x,Qmq n m (H1 x)=true
 eff:∀(x:σ) (p:GPlace) (b:Bool),D p->Q26 Try.prog f c [.pt (.agg p.sc),.pt (.one (.bool b)),.pt (.one (.ptr 0 0)),.pt (.one (.ptr 1 0))] [H0 x,H1 x] [H0 (E x p b),H1 (E x p b)] (.tuple #[])
section
variable {P:Program} {Q:E9z} {c:R9z} {w0:Base} {T:Tb} {f:Nat} {σ:Type} {H0 H1:σ->List SC} {E:σ->GPlace->Bool->σ} {D:GPlace->Prop}
theorem Q44 (O:OnOk c f σ H0 H1 E D) (x:σ) {b d:Bool} {u v:SC} {l n:Int} {h:List (Option (List SC))} {t:List SV} {fr:List (List SV)} {rr:List (Option ORow)} {dst:Option Nat} {k:List Item} (hu:Qre u (.bool b)) (hv:Qre v (.bool d)) (hD:D ⟨l,d,n⟩)
 (hg:Goes Try.prog Q c w0 k (({ t:=t,h:=some (H0 (E x ⟨l,d,n⟩ b))::some (H1 (E x ⟨l,d,n⟩ b))::h,fr:=fr,r:=rr }:St).put dst (.tup []))):
 OutOk Try.prog Q c w0 (.call f [.pt (.agg [.int .i64 l,v,.int .u8 n]),.pt (.one u),.pt (.one (.ptr 0 0)),.pt (.one (.ptr 1 0))] dst k { t:=t,h:=some (H0 x)::some (H1 x)::h,fr:=fr,r:=rr }):=by
 refine Qae [0,1] (O.eff x ⟨l,d,n⟩ b hD) O.call ?_ (hs0:=[H0 x,H1 x]) rfl ?_ rfl ?_ ?_ (by decide) rfl rfl ?_
 · exact ⟨⟨⟨rfl,rfl⟩,hv,⟨rfl,rfl⟩,trivial⟩,hu,rfl,rfl,trivial⟩
 · exact ⟨Qxd (O.re0 x).symm,Qxd (O.re1 x).symm,trivial⟩
 · rfl
 · simp[Q3j,Qzg,O.bnd0,O.bnd1]
 · simp only[Q31,Q0b,Qqm,O.re0,O.re1]
   exact hg
end
def Qee {σ:Type} (E:σ->GPlace->Bool->σ) (may:Bool) (x:σ) (o:GOper):σ:=if o.k=1 then x else E x o.p (may&&decide (o.k=3))
def Qse {σ:Type} (E:σ->GPlace->Bool->σ) (may:Bool) (g:Nat->GOper):Nat->σ->σ
 | 0,x=>x
 | n+1,x=>Qee E may (Qse E may g n x) (g n)
def Qlf {σ:Type} (E:σ->GPlace->Bool->σ) (x:σ) (s:GStmt):σ:=
 if s.k=3 then E x ⟨s.l,false,0⟩ false
 else if s.k=2\/s.k=4 then Qee E false x s.a
 else if s.k=1 then
  if s.r.k=4\/s.r.k=5 then E (E x s.p false) s.r.p false
  else if s.r.k=1 then Qee E true (E x s.p false) s.r.a
  else Qee E false (Qee E false (E x s.p false) s.r.a) s.r.b
 else x
section
variable {c:R9z} {f:Nat} {σ:Type} {H0 H1:σ->List SC} {E:σ->GPlace->Bool->σ} {D:GPlace->Prop}
def Qvr (D:GPlace->Prop) (s:GStmt):Prop:=
 (s.k=3->D ⟨s.l,false,0⟩)/\(s.k=2\/s.k=4->s.a.k≠1->D s.a.p)/\
 (s.k=1->D s.p/\(s.r.k=4\/s.r.k=5->D s.r.p)/\(¬(s.r.k=4\/s.r.k=5)->(s.r.a.k≠1->D s.r.a.p)/\(s.r.k≠1->s.r.b.k≠1->D s.r.b.p)))
def Qfr (D:GPlace->Prop) (k:Int) (a:GOper) (d:GPlace) (n:Nat) (g:Nat->GOper):Prop:=
 (k=2->a.k≠1->D a.p)/\(k=4->D d/\∀i,i<n->(g i).k≠1->D (g i).p)
theorem Q4w (O:OnOk c f σ H0 H1 E D) (x:σ) (s:GStmt) (hD:Qvr D s):
 Q26 Try.prog 68 c [.pt (.agg s.sc),.pt (.one (.fn f [(0,0),(1,0)]))] [H0 x,H1 x] [H0 (Qlf E x s),H1 (Qlf E x s)] (.tuple #[]):=by
 obtain ⟨k,⟨ql,qd,qf⟩,⟨rk,rop,rbo,⟨ak,an,⟨al,ad,af⟩⟩,⟨bk,bn,⟨bl,bd,bf⟩⟩,⟨pl,pd,pf⟩⟩,⟨ck,cn,⟨cl,cd,cf⟩⟩,l⟩:=s
 obtain ⟨y,hy⟩:=x9 (Qlf E x ⟨k,⟨ql,qd,qf⟩,⟨rk,rop,rbo,⟨ak,an,⟨al,ad,af⟩⟩,⟨bk,bn,⟨bl,bd,bf⟩⟩,⟨pl,pd,pf⟩⟩,⟨ck,cn,⟨cl,cd,cf⟩⟩,l⟩)
 rw[<-hy]
 simp only[Qvr] at hD
 refine Qoe Try.func68 rfl rfl (fun w bs hlen=>?_)
 obtain ⟨_,_,_,hnt,_,har,_,hcm,_,_,_,_,ar01,ar12,_,hzpl,_,_,_,_,_,_,_,_,hT⟩:=Qca
 repeat' (first
  | (refine gov ?_;(try simp only[ar01,ar12]))
  | refine goa ?_|refine go2 (fun h=>?_) (fun h=>?_)|refine gof ?_
  | refine Qhha Try.func87 Try.results87 Try.call87 ?_
  | (with_reducible apply Qqa 4)
  | (((with_reducible apply Q44 O);(·rfl);(·rfl);(·simp_all;done)))
  | (((with_reducible apply Qkg hT hlen);(·(cbv;try rfl));(·(cbv;try rfl));(·rfl);(·exact ⟨Qxd (congrArg H0 (by rw[hy];simp_all[Qlf,Qee])),Qxd (congrArg H1 (by rw[hy];simp_all[Qlf,Qee])),trivial⟩);(·simp[Q3j,Qzg,O.bnd0,O.bnd1])))
  | fail)
def Qld {σ:Type} (E:σ->GPlace->Bool->σ) (x:σ) (k:Int) (a:GOper) (d:GPlace) (n:Nat) (g:Nat->GOper):σ:=
 if k=2 then Qee E false x a else if k=4 then Qse E true g n (E x d false) else x
theorem Q3w (F:GFun) (b:Nat) (O:OnOk (Qwa F) f σ H0 H1 E D) (x:σ) (hj:F.jn b<=9223372036854775807) (hD:Qfr D (F.jk b) (F.jo b) (F.jd b) (F.jn b) (F.ja b)):
 Q26 Try.prog 69 (Qwa F) [.pt (.agg [.int .u8 (F.jk b),.int .u8 (F.jo b).k,.int .i64 (F.jo b).n,.int .i64 (F.jo b).p.l,.bool (F.jo b).p.d,.int .u8 (F.jo b).p.f,.int .i64 (F.jf b),.int .i64 (F.jx b),.int .i64 (F.je b),.xs 3 b,.int .i64 (F.jd b).l,.bool (F.jd b).d,.int .u8 (F.jd b).f]),.pt (.one (.fn f [(0,0),(1,0)]))] [H0 x,H1 x]
  [H0 (Qld E x (F.jk b) (F.jo b) (F.jd b) (F.jn b) (F.ja b)),H1 (Qld E x (F.jk b) (F.jo b) (F.jd b) (F.jn b) (F.ja b))] (.tuple #[]):=by
 obtain ⟨_,_,_,_,_,_,_,_,_,_,_,_,_,_,_,jn,_,ja,jk,jo,_,_,_,jd⟩:=F
 simp only[Qfr] at hj hD⊢
 obtain ⟨y,hy⟩:=x9 (Qld E x (jk b) (jo b) (jd b) (jn b) (ja b))
 obtain ⟨acc,ha0,has⟩:∃acc:Nat->σ,acc 0=E x (jd b) false/\∀i,acc (i+1)=Qee E true (acc i) (ja b i):=⟨fun i=>Qse E true (ja b) i (E x (jd b) false),rfl,fun _=>rfl⟩
 have hacc:∀i,acc i=Qse E true (ja b) i (E x (jd b) false):=by
  intro i;induction i with
  | zero=>rw[ha0];rfl
  | succ i ih=>rw[has,ih];rfl
 rw[<-hy]
 refine Qoe Try.func69 rfl rfl (fun w bs hlen=>?_)
 obtain ⟨_,_,_,hnt,_,har,_,hcm,_,_,_,_,ar01,ar12,_,hzpl,_,_,_,_,_,_,_,_,hT⟩:=Qca
 by_cases q:jk b=2
 · have q2:decide (jk b=2)=true:=by simpa using q
   repeat' (first
    | (refine gov ?_;(try simp only[ar01,ar12]))
    | refine goa ?_|refine go2 (fun h=>?_) (fun h=>?_)|refine gof ?_
    | refine Qhha Try.func87 Try.results87 Try.call87 ?_
    | (with_reducible apply Qqa 4)
    | (((with_reducible apply Q44 O);(·rfl);(·rfl);(·first|(exact (hD.1 q (by simp_all)))|(simp_all;done)|(have hi2:i<jn b:=by omega);have h4:jk b=4:=of_decide_eq_true y9;(exact (hD.2 h4).2 i hi2 (by simp_all)))))
    | (((with_reducible apply Qkg hT hlen);(·(cbv;try rfl));(·(cbv;try rfl));(·rfl);(·exact ⟨Qxd (congrArg H0 (by rw[hy];simp_all[Qld,Qee])),Qxd (congrArg H1 (by rw[hy];simp_all[Qld,Qee])),trivial⟩);(·simp[Q3j,Qzg,O.bnd0,O.bnd1])))
    | fail)
 · have q2:decide (jk b=2)=false:=by simpa using q
   repeat' (first
    | refine goa ?_|refine go3 (fun hlt=>?_) (fun hge=>?_)|refine go2 (fun h=>?_) (fun h=>?_)|refine gof ?_
    | refine Qhha Try.func87 Try.results87 Try.call87 ?_
    | (((with_reducible refine Qja (σ:={i:Nat // i<=jn b}) [7,11,12,13,14,15,16,17,18,19,20,21,22,23,24,25,26,27] (fun x=>[(10,.pt (.one (.int .i64 (.ofNat x.1))))]) (fun x=>[(0,H0 (acc x.1)),(1,H1 (acc x.1))]) (fun _=>[]) (fun x=>jn b - x.1) ⟨0,by omega⟩ ?_ ?_ ?_ ?_);(·refine Q8c (by (cbv;(try simp only[true_and,and_true]);(try ((repeat' apply And.intro)<;>(first|trivial|rfl|(rw[Qda har _ o9])))))) ⟨Qxd (congrArg H0 ha0.symm),Qxd (congrArg H1 ha0.symm),(by (cbv;(try simp only[true_and,and_true]);(try ((repeat' apply And.intro)<;>(first|trivial|rfl|(rw[Qda har _ o9]))))))⟩ (by (cbv;(try simp only[true_and,and_true]);(try ((repeat' apply And.intro)<;>(first|trivial|rfl|(rw[Qda har _ o9])))))) (by exact True.intro));(·refine Qf2 (by cbv;try rfl) ?_ (by cbv;try rfl);simp[St.lay,Q5u,Q0b,Qe0,Qzg,O.bnd0,O.bnd1,Qmq,SC.bnd]);(·simp[St.lay,Q5u,Q0b,hlen]);(rintro ⟨i,hi⟩ mm hmm)))
    | (((with_reducible refine Qma ⟨i+1,by omega⟩ ?_ ?_ ?_ ?_);(·subst hmm;show jn b - (i+1)<jn b - i;omega);(·refine Q8c (by (cbv;(try simp only[true_and,and_true]);(try ((repeat' apply And.intro)<;>(first|trivial|rfl|(rw[Qda har _ o9])))))) ⟨Qxd (congrArg H0 (by rw[has];simp_all[Qee])),Qxd (congrArg H1 (by rw[has];simp_all[Qee])),(by (cbv;(try simp only[true_and,and_true]);(try ((repeat' apply And.intro)<;>(first|trivial|rfl|(rw[Qda har _ o9]))))))⟩ (by (cbv;(try simp only[true_and,and_true]);(try ((repeat' apply And.intro)<;>(first|trivial|rfl|(rw[Qda har _ o9])))))) (by exact True.intro));(·refine Qf2 (by cbv;try rfl) ?_ (by cbv;try rfl);simp[St.lay,Q5u,Q0b,Qe0,Qzg,O.bnd0,O.bnd1,Qmq,SC.bnd]);(·simp[St.lay,Q5u,Q0b,hlen])))
    | (((with_reducible apply Q44 O);(·rfl);(·rfl);(·first|(exact (hD.1 q (by simp_all)))|(simp_all;done)|(have hi2:i<jn b:=by omega);have h4:jk b=4:=of_decide_eq_true y9;(exact (hD.2 h4).2 i hi2 (by simp_all)))))
    | (((with_reducible apply Qkg hT hlen);(·(cbv;try rfl));(·(cbv;try rfl));(·rfl);(·exact ⟨Qxd (congrArg H0 (by rw[hy];first|(show acc i=_;rw[hacc,show i=jn b from by omega];have h4:jk b=4:=of_decide_eq_true h;simp[Qld,h4];done)|(simp_all[Qld,Qee];done))),Qxd (congrArg H1 (by rw[hy];first|(show acc i=_;rw[hacc,show i=jn b from by omega];have h4:jk b=4:=of_decide_eq_true h;simp[Qld,h4];done)|(simp_all[Qld,Qee];done))),trivial⟩);(·simp[Q3j,Qzg,O.bnd0,O.bnd1])))
    | fail)
end
end
end Go.Proofs.Ytemnfncbgalljab
