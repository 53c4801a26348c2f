/- Lemmas. No condition. -/
import Derived.Test.YtemnfncbgalljabM6
namespace Go.Proofs.Ytemnfncbgalljab
open Go.RowKit
set_option linter.all false
set_option maxHeartbeats 64000000
section
set_option maxRecDepth 100000
theorem Qtg (l f:Int) (d:Bool) (w:World):
 Calls Try.prog 78 #[.agg #[.int .i64 l,.bool d,.int .u8 f]] w (Ret w (.int .i64 (okI (GPlace.mk l d f).ok))):=by
 refine Qaa (args:=[.pt (.agg [.int .i64 l,.bool d,.int .u8 f])]) (c:=Qra) Try.func78 rfl (Qga _) rfl rfl ?_
 obtain ⟨_,hnd,_,hnt,_,har,_,hcm,_,_,_,_,ar01,ar12,_,hzpl,_,_,_,_,_,_,_,_,hT⟩:=Qca
 repeat' (first
  | refine go1 ?_|refine go2 (fun h=>?_) (fun h=>?_)
  | fail)
 all_goals
  subst hnd hnt hcm
  refine Qyc ?_
  grind [okI,GPlace.ok,rCm]
theorem Qel (k n l f:Int) (d:Bool) (w:World):
 Calls Try.prog 80 #[.agg #[.int .u8 k,.int .i64 n,.int .i64 l,.bool d,.int .u8 f]] w (Ret w (.int .i64 (okI (GOper.mk k n ⟨l,d,f⟩).ok))):=by
 refine Qaa (args:=[.pt (.agg [.int .u8 k,.int .i64 n,.int .i64 l,.bool d,.int .u8 f])]) (c:=Qra) Try.func80 rfl (Qga _) rfl rfl ?_
 obtain ⟨_,hnd,_,hnt,_,har,_,hcm,_,_,_,_,ar01,ar12,_,hzpl,_,_,_,_,_,_,_,_,hT⟩:=Qca
 repeat' (first
  | refine go1 ?_|refine go2 (fun h=>?_) (fun h=>?_)
  | ((with_reducible apply Q1a (hf:=Try.call78));(·(cbv;try rfl));(·intro wc hbc hxc;exact Qtg _ _ _ wc);intro z hz)
  | fail)
 all_goals
  subst hnd hnt hcm
  refine Qyc ?_
  grind [okI,GOper.ok,GPlace.eqB,GPlace.zero]
theorem Qw8 (k n l f:Int) (d:Bool) (w:World):
 Calls Try.prog 104 #[.agg #[.int .u8 k,.int .i64 n,.int .i64 l,.bool d,.int .u8 f]] w (Ret w (.bool ((GOper.mk k n ⟨l,d,f⟩).eqB .zero))):=by
 refine Qaa (args:=[.pt (.agg [.int .u8 k,.int .i64 n,.int .i64 l,.bool d,.int .u8 f])]) (c:=Qra) Try.func104 rfl (Qga _) rfl rfl ?_
 obtain ⟨_,hnd,_,hnt,_,har,_,hcm,_,_,_,_,ar01,ar12,_,hzpl,_,_,_,_,_,_,_,_,hT⟩:=Qca
 repeat' (first
  | refine go1 ?_
  | fail)
 all_goals
  subst hnd hnt hcm
  refine Qtb ?_
  grind [GOper.eqB,GPlace.eqB,GPlace.zero,GOper.zero]
theorem Quaa (k op bo ak an al af bk bn bl bf pl pf:Int) (ad bd pd:Bool) (w:World):
 Calls Try.prog 91 #[.agg #[.int .u8 k,.int .u8 op,.int .u8 bo,.int .u8 ak,.int .i64 an,.int .i64 al,.bool ad,.int .u8 af,.int .u8 bk,.int .i64 bn,.int .i64 bl,.bool bd,.int .u8 bf,.int .i64 pl,.bool pd,.int .u8 pf]] w (Ret w (.bool (GRv.mk k op bo ⟨ak,an,⟨al,ad,af⟩⟩ ⟨bk,bn,⟨bl,bd,bf⟩⟩ ⟨pl,pd,pf⟩).ok)):=by
 refine Qaa (args:=[.pt (.agg [.int .u8 k,.int .u8 op,.int .u8 bo,.int .u8 ak,.int .i64 an,.int .i64 al,.bool ad,.int .u8 af,.int .u8 bk,.int .i64 bn,.int .i64 bl,.bool bd,.int .u8 bf,.int .i64 pl,.bool pd,.int .u8 pf])]) (c:=Qra) Try.func91 rfl (Qga _) rfl rfl ?_
 obtain ⟨_,hnd,_,hnt,_,har,_,hcm,_,hmx,_,hmn,ar01,ar12,_,hzpl,_,_,_,_,_,_,_,_,hT⟩:=Qca
 repeat' (first
  | refine go1 ?_|refine go2 (fun h=>?_) (fun h=>?_)
  | ((with_reducible apply Q1a (hf:=Try.call78));(·(cbv;try rfl));(·intro wc hbc hxc;exact Qtg _ _ _ wc);intro z hz)
  | ((with_reducible apply Q1a (hf:=Try.call80));(·(cbv;try rfl));(·intro wc hbc hxc;exact Qel _ _ _ _ _ wc);intro z hz)
  | ((with_reducible apply Qua (hf:=Try.call104));(·(cbv;try rfl));(·intro wc hbc hxc;exact Qw8 _ _ _ _ _ wc);intro z hz)
  | refine Qhha Try.func105 Try.results105 Try.call105 ?_
  | fail)
 all_goals
  clear ar01 ar12 hT
  subst hnd hnt hmx hmn hcm
  refine Qtb ?_
  subst_vars
  simp only[GRv.ok,GOper.eqB,GPlace.eqB,GPlace.zero,GOper.zero,Q90] at *
  grind [okI,rCm]
theorem Qs1 (k op bo ak an al af bk bn bl bf pl pf:Int) (ad bd pd:Bool) (w:World):
 Calls Try.prog 79 #[.agg #[.int .u8 k,.int .u8 op,.int .u8 bo,.int .u8 ak,.int .i64 an,.int .i64 al,.bool ad,.int .u8 af,.int .u8 bk,.int .i64 bn,.int .i64 bl,.bool bd,.int .u8 bf,.int .i64 pl,.bool pd,.int .u8 pf]] w (Ret w (.int .i64 (okI (GRv.mk k op bo ⟨ak,an,⟨al,ad,af⟩⟩ ⟨bk,bn,⟨bl,bd,bf⟩⟩ ⟨pl,pd,pf⟩).ok))):=by
 obtain ⟨y,hy⟩:=x9 ((GRv.mk k op bo ⟨ak,an,⟨al,ad,af⟩⟩ ⟨bk,bn,⟨bl,bd,bf⟩⟩ ⟨pl,pd,pf⟩).ok)
 rw[<-hy]
 refine Qaa (args:=[.pt (.agg [.int .u8 k,.int .u8 op,.int .u8 bo,.int .u8 ak,.int .i64 an,.int .i64 al,.bool ad,.int .u8 af,.int .u8 bk,.int .i64 bn,.int .i64 bl,.bool bd,.int .u8 bf,.int .i64 pl,.bool pd,.int .u8 pf])]) (c:=Qra) Try.func79 rfl (Qga _) rfl rfl ?_
 obtain ⟨_,hnd,_,hnt,_,har,_,hcm,_,_,_,_,ar01,ar12,_,hzpl,_,_,_,_,_,_,_,_,hT⟩:=Qca
 repeat' (first
  | refine go1 ?_|refine go2 (fun h=>?_) (fun h=>?_)
  | ((with_reducible apply Qua (hf:=Try.call91));(·(cbv;try rfl));(·intro wc hbc hxc;exact hy▸Quaa _ _ _ _ _ _ _ _ _ _ _ _ _ _ _ _ wc);intro z hz)
  | fail)
 all_goals
  subst hnd hnt hcm
  refine Qyc ?_
  grind [okI]
theorem Qx8 (s:GStmt) (w:World):
 Calls Try.prog 57 #[s.val] w (Ret w (.bool s.ok)):=by
 refine Qaa (args:=[.pt (.agg s.sc)]) (c:=Qra) Try.func57 rfl (Qga _) rfl rfl ?_
 obtain ⟨_,hnd,_,hnt,_,har,_,hcm,_,hmx,_,hmn,ar01,ar12,_,hzpl,_,_,_,_,_,_,_,_,hT⟩:=Qca
 repeat' (first
  | refine go1 ?_|refine go2 (fun h=>?_) (fun h=>?_)|refine god ?_
  | ((with_reducible apply Q1a (hf:=Try.call78));(·(cbv;try rfl));(·intro wc hbc hxc;exact Qtg _ _ _ wc);intro z hz)
  | ((with_reducible apply Q1a (hf:=Try.call80));(·(cbv;try rfl));(·intro wc hbc hxc;exact Qel _ _ _ _ _ wc);intro z hz)
  | ((with_reducible apply Q1a (hf:=Try.call79));(·(cbv;try rfl));(·intro wc hbc hxc;exact Qs1 _ _ _ _ _ _ _ _ _ _ _ _ _ _ _ _ wc);intro z hz)
  | fail)
 all_goals
  clear ar01 ar12 hT
  subst hnd hnt hmx hmn hcm
  refine Qtb ?_
 all_goals (obtain ⟨k,⟨ql,qd,qf⟩,⟨rk,rop,rbo,⟨ak,an,⟨al,ad,af⟩⟩,⟨bk,bn,⟨bl,bd,bf⟩⟩,⟨pl,pd,pf⟩⟩,⟨ck,cn,⟨cl,cd,cf⟩⟩,l⟩:=s;subst_vars;simp only[GStmt.ok,GRv.eqB,GRv.zero,GOper.eqB,GPlace.eqB,GPlace.zero,GOper.zero,Q90] at *)
 all_goals grind [okI,rCm,GPlace.ok]
def Qcx (k:Int):Bool:=decide (3<=k)
theorem Qk1 (k t:Int) (w:World):
 Calls Try.prog 40 #[.agg #[.int .u8 k,.int .u8 t]] w (Ret w (.bool (Qcx k))):=by
 refine Qaa (args:=[.pt (.agg [.int .u8 k,.int .u8 t])]) (c:=Qra) Try.func40 rfl (Qga _) rfl rfl ?_
 obtain ⟨_,hnd,_,hnt,_,har,_,hcm,_,_,_,_,ar01,ar12,_,hzpl,_,_,_,_,_,_,_,_,hT⟩:=Qca
 repeat' (first
  | refine go1 ?_
  | fail)
 all_goals
  subst hnd hnt hcm
  refine Qtb ?_
  grind [Qcx,rCm]
end
section
set_option maxRecDepth 100000
theorem Qc3 (F:GFun) (w:World) (hF:F.At w):
 Calls Try.prog 22 #[F.val] w (Ret w (.bool (Q0c F))):=by
 obtain ⟨_,_,_,_,_,_,_,_,bn,_,_,sn,_,_,_,_,_,_,_,_,_,_,_,_⟩:=F
 obtain ⟨hX,hl,hb,hs,hj⟩:=hF
 simp only at hl hb hs hj
 unfold Q0c
 simp only
 obtain ⟨ga,hga⟩:=x9 (Qed bn fun b=>decide (sn b<=24))
 rw[<-hga]
 refine Qaa (args:=[.pt (.agg (GFun.dat _))]) (c:=(Qwa _)) Try.func22 rfl hX rfl rfl ?_
 obtain ⟨_,hnd,_,hnt,_,har,_,hcm,_,hmx,_,hmn,ar01,ar12,_,hzpl,_,_,_,_,_,_,_,_,hT⟩:=Qca
 repeat' (first
  | refine go1 ?_|refine go3 (fun hlt=>?_) (fun hge=>?_)|refine go2 (fun h=>?_) (fun h=>?_)|refine gof ?_
  | ((with_reducible refine Qgha (σ:={i:Nat // i<=bn/\∀j,j<i->(fun j=>decide (sn j<=24)=true) j}) (zs9 [2,1,14,15]) (fun x=>[zc9 3 x.1]) (fun x=>[]) (fun x=>[]) (fun x=>bn - x.1) ⟨0,by omega,fun j hj=>by omega⟩ ?_ ?_);(·exact pfp Qdb);(rintro ⟨i,hi,hok⟩ mm hmm))
  | ((with_reducible refine Qfha ⟨i+1,by omega,Q3b hok ((Q3i (hcm▸h)))⟩ ?_ ?_);(·exact msr o9 y9);(·exact pfp Qdb))
  | fail)
 all_goals (first|have hgb:=hga.trans (Qfb (p:=fun i=>decide (sn i<=24)) hlt (Q3i (hcm▸h)))|have hgb:=hga.trans ((Qla (p:=fun i=>decide (sn i<=24))).2 (fun j hj=>hok j o9))|skip)
 all_goals (refine Qtb ?_;clear ar01 ar12 hT hX hga;subst hnd hnt hmx hmn har hcm)
 all_goals grind [rCm]
theorem Qu8 (k fn nx el ak an al af dl df:Int) (ad dd:Bool) (A:Option Addr) (n cap:Nat) (g:Nat->GOper) (w:World) (hn:n<=maxLen) (hX:XOk ⟨[],Q5r A n cap 5 fun i=>(g i).sc,[]⟩ ⟨w,[]⟩):
 Calls Try.prog 59 #[.agg #[.int .u8 k,.int .u8 ak,.int .i64 an,.int .i64 al,.bool ad,.int .u8 af,.int .i64 fn,.int .i64 nx,.int .i64 el,.slice A n cap,.int .i64 dl,.bool dd,.int .u8 df]] w (Ret w (.bool (GJump.mk k ⟨ak,an,⟨al,ad,af⟩⟩ fn nx el (Q8j n g) ⟨dl,dd,df⟩).ok)):=by
 unfold maxLen at hn
 rw[Qvn]
 obtain ⟨ga,hga⟩:=x9 (Qed n fun i=>(g i).ok)
 rw[<-hga]
 have hg0:n=0->ga=true:=fun h=>by rw[hga,h];rfl
 have hg1:decide (Int.ofNat n=0)=true->ga=true:=fun h=>hg0 (by have:=of_decide_eq_true h;simp only[Int.ofNat_eq_natCast] at this;omega)
 refine Qaa (args:=[.pt (.agg [.int .u8 k,.int .u8 ak,.int .i64 an,.int .i64 al,.bool ad,.int .u8 af,.int .i64 fn,.int .i64 nx,.int .i64 el,.xs 0 0,.int .i64 dl,.bool dd,.int .u8 df])]) (c:=(Q5r A n cap 5 fun i=>(g i).sc)) Try.func59 rfl hX rfl rfl ?_
 obtain ⟨_,hnd,_,hnt,_,har,_,hcm,_,hmx,_,hmn,ar01,ar12,_,hzpl,_,_,_,_,_,_,_,_,hT⟩:=Qca
 repeat' (first
  | refine go1 ?_|refine go3 (fun hlt=>?_) (fun hge=>?_)|refine go2 (fun h=>?_) (fun h=>?_)|refine god ?_|refine gof ?_
  | ((with_reducible apply Q1a (hf:=Try.call78));(·(cbv;try rfl));(·intro wc hbc hxc;exact Qtg _ _ _ wc);intro z hz)
  | ((with_reducible apply Q1a (hf:=Try.call80));(·(cbv;try rfl));(·intro wc hbc hxc;exact Qel _ _ _ _ _ wc);intro z hz)
  | refine Qhha Try.func81 Try.results81 Try.call81 ?_
  | ((with_reducible refine Qgha (σ:={i:Nat // i<=n/\∀j,j<i->(g j).ok=true}) (zs9 [2,1,118,14]) (fun x=>[zc9 6 x.1]) (fun x=>[]) (fun x=>[]) (fun x=>n - x.1) ⟨0,by omega,fun j hj=>by omega⟩ ?_ ?_);(·exact pfp Qdb);(rintro ⟨i,hi,hok⟩ mm hmm))
  | ((with_reducible refine Qfha ⟨i+1,by omega,Q3b hok (Qwe hz h)⟩ ?_ ?_);(·exact msr o9 y9);(·exact pfp Qdb))
  | fail)
 all_goals (first|have hgb:=hga.trans (Qfb (p:=fun i=>(g i).ok) hlt (Qxc hz h))|have hgb:=hga.trans ((Qla (p:=fun i=>(g i).ok)).2 (fun j hj=>hok j o9))|skip)
 all_goals (refine Qtb ?_;clear ar01 ar12 hT hX hga;subst hnd hnt hmx hmn har hcm)
 all_goals try (grind [Qgr,okI,rCm,blk,GOper.eqB,GPlace.eqB,GPlace.zero,GOper.zero])
 all_goals (try clear hn)
 all_goals (simp only[decide_eq_true_eq,decide_eq_false_iff_not,Bool.and_eq_true,rCm,Int.ofNat_eq_natCast,Int.natCast_eq_zero] at *)
 all_goals (try have hgg:=hg0 y9)
 all_goals subst_vars
 all_goals (simp_all[Qgr,blk,GOper.eqB,GPlace.eqB,GPlace.zero,GOper.zero,okI])
 all_goals (try grind)
end
end Go.Proofs.Ytemnfncbgalljab
