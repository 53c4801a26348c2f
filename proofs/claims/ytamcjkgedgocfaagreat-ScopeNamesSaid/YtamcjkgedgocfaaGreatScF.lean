/- Layer 22, the chapter's examples. No condition. -/
import Derived.Test.YtamcjkgedgocfaaGreatC3
import Derived.Test.YtamcjkgedgocfaaGreatCnFa
namespace Go.Proofs.YtamcjkgedgocfaaGreat
open Go.RowKit
set_option linter.all false
set_option maxHeartbeats 64000000
set_option maxRecDepth 100000
theorem Qoba {c:Nat→Nat→Row} {K:Nat} {G:Nat→Nat→Row} (hc:∀q i j,q<K→j<(c q i).n→qbL K ((c q i).el j)=true) (hG:∀p i j,j<(G p i).n→Qob ((G p i).el j)=true):∀q i j,q<K+1→j<(Q3a c K G q i).n→qbL (K+1) ((Q3a c K G q i).el j)=true:=fun q i j hq hj=>by
 by_cases g:q<K
 · rw[Q4a g] at hj⊢
   exact Qvc _ (hc q i j g hj)
 · rw[Q2a (by omega)] at hj⊢
   exact Q9c (hG _ _ _ hj)
theorem Qlda {c:Nat→Nat→Row} {K:Nat} {nn:Nat→Nat} {el:Nat→Nat→List SC} {n:Nat} {A:AdF}:∀q i,K+1≤q→(Q3a c K (nxG nn el n A) q i).n=0:=fun q i h=>by
 rw[Q2a (by omega)]
 simp only[nxG]
 rw[if_neg (by omega)]
theorem Qmda {c:Nat→Nat→Row} {K n N:Nat} {A:AdF} {el:Nat→Nat→List SC} (j:Nat) (hj:j<n) (vs:List Value) (h:isL ⟨[],Q3a c K (nxG (fun _=>N) el n A),[]⟩ [.val (.slice (A j).1 N (A j).2)] vs):isL ⟨[],Q3a c K (nxG (fun _=>N) el n A),[]⟩ [.xs K j] vs:=by
 match vs,h with
 | [v],⟨h,_⟩=>
   refine ⟨?_,trivial⟩
   have h:v=.slice (A j).1 N (A j).2:=h
   show v=.slice (Q3a c K (nxG (fun _=>N) el n A) K j).a (Q3a c K (nxG (fun _=>N) el n A) K j).n (Q3a c K (nxG (fun _=>N) el n A) K j).c
   rw[Q2a (Nat.le_refl _),Nat.sub_self,Qjm hj]
   exact h
section
variable {Q:Exit→Act→World→Prop} {c:Nat→Nat→Row} {w0:Base}
theorem Qvba {f:Nat} (hf:∀(args:Array Value) (w:World),(callFunc f args).run Tryz.prog w=.ok (.enter f args) w) (W:GFun→Nat→Nat→Bool) (X:List (List Bool))
 (hC:∀(F:GFun) (w:World),F.At w→F.Ok→F.Fd→Calls Tryz.prog f #[F.val] w (RetX w (fun _:AdF=>.tup [.one (.rs 0),.one (.int .i64 0)]) (fun A=>[⟨lnC F,1,fun j=>[.val (.slice (A j).1 (stN F.sn F.bn) (A j).2)]⟩]) (fun A=>nxG (fun _=>stN F.sn F.bn) (fun j k=>[.bool (W F j k)]) (lnC F) A)))
 (K:Nat) (n N:Nat) {pa:Int} {un:Bool} {l b:SC} {dst:Option Nat} {k:List Item} {st:St} (hv:∀S B,Qjv S B c [.pt (.agg [.int .i64 pa,.lit un,l,b])]=some [(Qxba st.h B pa un l b).val]) (hok:Qtca st.h l b=true) (hO:∀B,fchkV (Qxba st.h B pa un l b)=0) (hD:∀B,fdB (Qxba st.h B pa un l b)=true)
 (hn:∀B,lnC (Qxba st.h B pa un l b)=n) (hN:∀B,stN (Qxba st.h B pa un l b).sn (Qxba st.h B pa un l b).bn=N) (hW:∀B,GFun.Ok (Qxba st.h B pa un l b)→∀j k,j<lnC (Qxba st.h B pa un l b)→k<stN (Qxba st.h B pa un l b).sn (Qxba st.h B pa un l b).bn→W (Qxba st.h B pa un l b) j k=Q7ba X j k) (hk:noA k=true) (hq:st.qb K=true) (hr:qbR K st.r) (hc:∀q i j,q<K→j<(c q i).n→qbL K ((c q i).el j)=true)
 (h:∀A:AdF,Goes Tryz.prog Q (Q3a c K (nxG (fun _=>N) (fun j k=>[.bool (Q7ba X j k)]) n A)) w0 k (({ st with r:=st.r++Qjq [⟨n,1,fun j=>[.val (.slice (A j).1 N (A j).2)]⟩] }:St).put dst ((SV.tup [.one (.rs 0),.one (.int .i64 0)]).shR (Qyn st.r)))):OutOk Tryz.prog Q c w0 (.call f [.pt (.agg [.int .i64 pa,.lit un,l,b])] dst k st):=
 Qqca (α:=AdF) (x:=fun _=>.tup [.one (.rs 0),.one (.int .i64 0)]) (r:=fun A=>[⟨n,1,fun j=>[.val (.slice (A j).1 N (A j).2)]⟩]) (G:=fun A=>nxG (fun _=>N) (fun j k=>[.bool (Q7ba X j k)]) n A) K (vs:=fun S B=>[(Qxba st.h B pa un l b).val]) hv hf (fun w S B hk hx' hM=>by
  have hOO:GFun.Ok (Qxba st.h B pa un l b):=hO B
  have:=hC _ w (Qfca hM hok) hOO (Qkda (hD B))
  have hW:=hW B hOO
  rw[hn,hN] at this hW
  refine this.mono fun en w' ⟨A,v,g,h1,h2,h3,h4,h5⟩=>⟨A,v,g,h1,h2,h3,h4,⟨fun q i j hj=>?_⟩⟩
  have h5:FamsAt w' w.heap.size g (nxG (fun _=>N) (fun j k=>[.bool (W (Qxba st.h B pa un l b) j k)]) n A):=h5
  have hj:j<(nxG (fun _=>N) (fun j k=>[.bool (Q7ba X j k)]) n A q i).n:=hj
  by_cases hqi:q=0∧i<n
  · obtain ⟨rfl,hi⟩:=hqi
    have hx:=h5.ok 0 i j (by rw[Qjm hi] at hj⊢;exact hj)
    rw[Qjm hi] at hx hj
    simp only at hx
    rw[hW i j hi hj] at hx
    obtain ⟨b',p,f1,f2,f3,f4,vs,f5,f6⟩:=hx
    refine ⟨b',p,?_,f2,f3,f4,vs,?_,?_⟩
    · show (nxG (fun _=>N) (fun j k=>[.bool (Q7ba X j k)]) n A 0 i).a=_
      rw[Qjm hi];exact f1
    · show isL _ ((nxG (fun _=>N) (fun j k=>[.bool (Q7ba X j k)]) n A 0 i).el j) vs
      rw[Qjm hi];exact f5
    · show ∀(t:Nat) (v:Value),vs[t]? =some v→w'.cell? ⟨b',p+(j * (nxG (fun _=>N) (fun j k=>[.bool (Q7ba X j k)]) n A 0 i).size+t),none⟩=some v
      rw[Qjm hi];exact f6
  · simp only[nxG,if_neg hqi] at hj
    exact absurd hj (Nat.not_lt_zero _)) (fun _=>rfl) (fun _=>rfl) hk hq hr hc (fun _=>⟨fun _ _=>rfl,trivial⟩) (fun A p i j hj=>Q1e (fun _ _=>rfl) p i j hj) h
end
theorem Qmba (n:Int) (w:World):Calls Tryz.prog 35 #[.int .i64 n] w (Ret w (.agg #[.int .i64 n,.bool false,.int .u8 0])):=by
 refine Qaa (args:=[.pt (.one (.int .i64 n))]) (c:=Qra) Tryz.func35 rfl (Qga _) rfl rfl ?_
 obtain ⟨nd,hnd,nt,hnt,ar,har,cm,hcm,mx,hmx,mn,hmn,ar01,ar12,zpl,hzpl,zjn,hzjn,zup,hzup,zmi,hzmi,zdp,hzdp,hT⟩:=Qca
 repeat' (first
  | refine go1 ?_|refine Qpb ?_|refine Q7b ?_|refine go3 (fun hlt=>?_) (fun hge=>?_)|refine go2 (fun h=>?_) (fun h=>?_)|exact go0|refine god ?_|refine gof ?_|refine gob ?_|(with_reducible refine Qha ?_ ?_)
  | fail)
 all_goals rfl
theorem Qjba (n:Int) (w:World):Calls Tryz.prog 39 #[.int .i64 n] w (Ret w (.agg #[.int .i64 n,.bool true,.int .u8 0])):=by
 refine Qaa (args:=[.pt (.one (.int .i64 n))]) (c:=Qra) Tryz.func39 rfl (Qga _) rfl rfl ?_
 obtain ⟨nd,hnd,nt,hnt,ar,har,cm,hcm,mx,hmx,mn,hmn,ar01,ar12,zpl,hzpl,zjn,hzjn,zup,hzup,zmi,hzmi,zdp,hzdp,hT⟩:=Qca
 repeat' (first
  | refine go1 ?_|refine Qpb ?_|refine Q7b ?_|refine go3 (fun hlt=>?_) (fun hge=>?_)|refine go2 (fun h=>?_) (fun h=>?_)|exact go0|refine god ?_|refine gof ?_|refine gob ?_|(with_reducible refine Qha ?_ ?_)
  | fail)
 all_goals rfl
theorem Qkba (k l f:Int) (d:Bool) (w:World):Calls Tryz.prog 36 #[.int .u8 k,.agg #[.int .i64 l,.bool d,.int .u8 f]] w (Ret w (GRv.val ⟨4,0,k,.zero,.zero,⟨l,d,f⟩⟩)):=by
 refine Qaa (args:=[.pt (.one (.int .u8 k)),.pt (.agg [.int .i64 l,.bool d,.int .u8 f])]) (c:=Qra) Tryz.func36 rfl (Qga _) rfl rfl ?_
 obtain ⟨nd,hnd,nt,hnt,ar,har,cm,hcm,mx,hmx,mn,hmn,ar01,ar12,zpl,hzpl,zjn,hzjn,zup,hzup,zmi,hzmi,zdp,hzdp,hT⟩:=Qca
 repeat' (first
  | refine go1 ?_|refine Qpb ?_|refine Q7b ?_|refine go3 (fun hlt=>?_) (fun hge=>?_)|refine go2 (fun h=>?_) (fun h=>?_)|exact go0|refine god ?_|refine gof ?_|refine gob ?_|(with_reducible refine Qha ?_ ?_)
  | fail)
 all_goals rfl
theorem Qsba (k l f:Int) (d:Bool) (w:World):Calls Tryz.prog 37 #[.int .u8 k,.agg #[.int .i64 l,.bool d,.int .u8 f]] w (Ret w (GStmt.val ⟨2,.zero,.zero,⟨k,0,⟨l,d,f⟩⟩,0⟩)):=by
 refine Qaa (args:=[.pt (.one (.int .u8 k)),.pt (.agg [.int .i64 l,.bool d,.int .u8 f])]) (c:=Qra) Tryz.func37 rfl (Qga _) rfl rfl ?_
 obtain ⟨nd,hnd,nt,hnt,ar,har,cm,hcm,mx,hmx,mn,hmn,ar01,ar12,zpl,hzpl,zjn,hzjn,zup,hzup,zmi,hzmi,zdp,hzdp,hT⟩:=Qca
 repeat' (first
  | refine go1 ?_|refine Qpb ?_|refine Q7b ?_|refine go3 (fun hlt=>?_) (fun hge=>?_)|refine go2 (fun h=>?_) (fun h=>?_)|exact go0|refine god ?_|refine gof ?_|refine gob ?_|(with_reducible refine Qha ?_ ?_)
  | fail)
 all_goals rfl
theorem Qiba (ql qf rk ro rb ak an al af ek en el ef gl gf:Int) (qd ad ed gd:Bool) (w:World):Calls Tryz.prog 34 #[.agg #[.int .i64 ql,.bool qd,.int .u8 qf],.agg #[.int .u8 rk,.int .u8 ro,.int .u8 rb,.int .u8 ak,.int .i64 an,.int .i64 al,.bool ad,.int .u8 af,.int .u8 ek,.int .i64 en,.int .i64 el,.bool ed,.int .u8 ef,.int .i64 gl,.bool gd,.int .u8 gf]] w (Ret w (GStmt.val ⟨1,⟨ql,qd,qf⟩,⟨rk,ro,rb,⟨ak,an,⟨al,ad,af⟩⟩,⟨ek,en,⟨el,ed,ef⟩⟩,⟨gl,gd,gf⟩⟩,.zero,0⟩)):=by
 refine Qaa (args:=[.pt (.agg [.int .i64 ql,.bool qd,.int .u8 qf]),.pt (.agg (GRv.sc ⟨rk,ro,rb,⟨ak,an,⟨al,ad,af⟩⟩,⟨ek,en,⟨el,ed,ef⟩⟩,⟨gl,gd,gf⟩⟩))]) (c:=Qra) Tryz.func34 rfl (Qga _) rfl rfl ?_
 obtain ⟨nd,hnd,nt,hnt,ar,har,cm,hcm,mx,hmx,mn,hmn,ar01,ar12,zpl,hzpl,zjn,hzjn,zup,hzup,zmi,hzmi,zdp,hzdp,hT⟩:=Qca
 repeat' (first
  | refine go1 ?_|refine Qpb ?_|refine Q7b ?_|refine go3 (fun hlt=>?_) (fun hge=>?_)|refine go2 (fun h=>?_) (fun h=>?_)|exact go0|refine god ?_|refine gof ?_|refine gob ?_|(with_reducible refine Qha ?_ ?_)
  | fail)
 all_goals rfl
theorem Qkca (w:World):
 Calls Tryz.prog 41 #[] w (Ret w (.bool true)):=by
 refine Qaa (args:=[]) (c:=Qra) Tryz.func41 rfl (Qga _) rfl rfl ?_
 obtain ⟨nd,hnd,nt,hnt,ar,har,cm,hcm,mx,hmx,mn,hmn,ar01,ar12,zpl,hzpl,zjn,hzjn,zup,hzup,zmi,hzmi,zdp,hzdp,hT⟩:=Qca
 subst hnd hnt har hcm hmx hmn hzpl hzjn hzup hzmi hzdp
 repeat' (first
  | ((with_reducible apply Q1b hT 400);(·(cbv;try rfl));(fail_if_success with_reducible apply Qya);(try simp only[ar01,ar12]))
  | ((with_reducible apply Q0h 0 hT (g:=35) (hfun:=Tryz.call35));(·rfl);(·kernel_rfl);(·rfl);(·rfl);(·(intro h_;cases h_));(·kernel_rfl);(·kernel_rfl);(·kernel_rfl);(·(cbv;try rfl));(·(cbv;try rfl));(·(cbv;try rfl));(·intro wc;exact Qmba _ wc))
  | ((with_reducible apply Q0h 1 hT (g:=35) (hfun:=Tryz.call35));(·rfl);(·kernel_rfl);(·rfl);(·rfl);(·(intro h_;cases h_));(·kernel_rfl);(·kernel_rfl);(·kernel_rfl);(·(cbv;try rfl));(·(cbv;try rfl));(·(cbv;try rfl));(·intro wc;exact Qmba _ wc))
  | ((with_reducible apply Q0h 2 hT (g:=35) (hfun:=Tryz.call35));(·rfl);(·kernel_rfl);(·rfl);(·rfl);(·(intro h_;cases h_));(·kernel_rfl);(·kernel_rfl);(·kernel_rfl);(·(cbv;try rfl));(·(cbv;try rfl));(·(cbv;try rfl));(·intro wc;exact Qmba _ wc))
  | ((with_reducible apply Q0h 3 hT (g:=35) (hfun:=Tryz.call35));(·rfl);(·kernel_rfl);(·rfl);(·rfl);(·(intro h_;cases h_));(·kernel_rfl);(·kernel_rfl);(·kernel_rfl);(·(cbv;try rfl));(·(cbv;try rfl));(·(cbv;try rfl));(·intro wc;exact Qmba _ wc))
  | ((with_reducible apply Q0h 4 hT (g:=35) (hfun:=Tryz.call35));(·rfl);(·kernel_rfl);(·rfl);(·rfl);(·(intro h_;cases h_));(·kernel_rfl);(·kernel_rfl);(·kernel_rfl);(·(cbv;try rfl));(·(cbv;try rfl));(·(cbv;try rfl));(·intro wc;exact Qmba _ wc))
  | ((with_reducible apply Q0h 0 hT (g:=39) (hfun:=Tryz.call39));(·rfl);(·kernel_rfl);(·rfl);(·rfl);(·(intro h_;cases h_));(·kernel_rfl);(·kernel_rfl);(·kernel_rfl);(·(cbv;try rfl));(·(cbv;try rfl));(·(cbv;try rfl));(·intro wc;exact Qjba _ wc))
  | ((with_reducible apply Q0h 1 hT (g:=39) (hfun:=Tryz.call39));(·rfl);(·kernel_rfl);(·rfl);(·rfl);(·(intro h_;cases h_));(·kernel_rfl);(·kernel_rfl);(·kernel_rfl);(·(cbv;try rfl));(·(cbv;try rfl));(·(cbv;try rfl));(·intro wc;exact Qjba _ wc))
  | ((with_reducible apply Q0h 2 hT (g:=39) (hfun:=Tryz.call39));(·rfl);(·kernel_rfl);(·rfl);(·rfl);(·(intro h_;cases h_));(·kernel_rfl);(·kernel_rfl);(·kernel_rfl);(·(cbv;try rfl));(·(cbv;try rfl));(·(cbv;try rfl));(·intro wc;exact Qjba _ wc))
  | ((with_reducible apply Q0h 3 hT (g:=39) (hfun:=Tryz.call39));(·rfl);(·kernel_rfl);(·rfl);(·rfl);(·(intro h_;cases h_));(·kernel_rfl);(·kernel_rfl);(·kernel_rfl);(·(cbv;try rfl));(·(cbv;try rfl));(·(cbv;try rfl));(·intro wc;exact Qjba _ wc))
  | ((with_reducible apply Q0h 4 hT (g:=39) (hfun:=Tryz.call39));(·rfl);(·kernel_rfl);(·rfl);(·rfl);(·(intro h_;cases h_));(·kernel_rfl);(·kernel_rfl);(·kernel_rfl);(·(cbv;try rfl));(·(cbv;try rfl));(·(cbv;try rfl));(·intro wc;exact Qjba _ wc))
  | ((with_reducible apply Q0h 0 hT (g:=36) (hfun:=Tryz.call36));(·rfl);(·kernel_rfl);(·rfl);(·rfl);(·(intro h_;cases h_));(·kernel_rfl);(·kernel_rfl);(·kernel_rfl);(·(cbv;try rfl));(·(cbv;try rfl));(·(cbv;try rfl));(·intro wc;exact Qkba _ _ _ _ wc))
  | ((with_reducible apply Q0h 1 hT (g:=36) (hfun:=Tryz.call36));(·rfl);(·kernel_rfl);(·rfl);(·rfl);(·(intro h_;cases h_));(·kernel_rfl);(·kernel_rfl);(·kernel_rfl);(·(cbv;try rfl));(·(cbv;try rfl));(·(cbv;try rfl));(·intro wc;exact Qkba _ _ _ _ wc))
  | ((with_reducible apply Q0h 2 hT (g:=36) (hfun:=Tryz.call36));(·rfl);(·kernel_rfl);(·rfl);(·rfl);(·(intro h_;cases h_));(·kernel_rfl);(·kernel_rfl);(·kernel_rfl);(·(cbv;try rfl));(·(cbv;try rfl));(·(cbv;try rfl));(·intro wc;exact Qkba _ _ _ _ wc))
  | ((with_reducible apply Q0h 3 hT (g:=36) (hfun:=Tryz.call36));(·rfl);(·kernel_rfl);(·rfl);(·rfl);(·(intro h_;cases h_));(·kernel_rfl);(·kernel_rfl);(·kernel_rfl);(·(cbv;try rfl));(·(cbv;try rfl));(·(cbv;try rfl));(·intro wc;exact Qkba _ _ _ _ wc))
  | ((with_reducible apply Q0h 4 hT (g:=36) (hfun:=Tryz.call36));(·rfl);(·kernel_rfl);(·rfl);(·rfl);(·(intro h_;cases h_));(·kernel_rfl);(·kernel_rfl);(·kernel_rfl);(·(cbv;try rfl));(·(cbv;try rfl));(·(cbv;try rfl));(·intro wc;exact Qkba _ _ _ _ wc))
  | ((with_reducible apply Q0h 0 hT (g:=34) (hfun:=Tryz.call34));(·rfl);(·kernel_rfl);(·rfl);(·rfl);(·(intro h_;cases h_));(·kernel_rfl);(·kernel_rfl);(·kernel_rfl);(·(cbv;try rfl));(·(cbv;try rfl));(·(cbv;try rfl));(·intro wc;exact Qiba _ _ _ _ _ _ _ _ _ _ _ _ _ _ _ _ _ _ _ wc))
  | ((with_reducible apply Q0h 1 hT (g:=34) (hfun:=Tryz.call34));(·rfl);(·kernel_rfl);(·rfl);(·rfl);(·(intro h_;cases h_));(·kernel_rfl);(·kernel_rfl);(·kernel_rfl);(·(cbv;try rfl));(·(cbv;try rfl));(·(cbv;try rfl));(·intro wc;exact Qiba _ _ _ _ _ _ _ _ _ _ _ _ _ _ _ _ _ _ _ wc))
  | ((with_reducible apply Q0h 2 hT (g:=34) (hfun:=Tryz.call34));(·rfl);(·kernel_rfl);(·rfl);(·rfl);(·(intro h_;cases h_));(·kernel_rfl);(·kernel_rfl);(·kernel_rfl);(·(cbv;try rfl));(·(cbv;try rfl));(·(cbv;try rfl));(·intro wc;exact Qiba _ _ _ _ _ _ _ _ _ _ _ _ _ _ _ _ _ _ _ wc))
  | ((with_reducible apply Q0h 3 hT (g:=34) (hfun:=Tryz.call34));(·rfl);(·kernel_rfl);(·rfl);(·rfl);(·(intro h_;cases h_));(·kernel_rfl);(·kernel_rfl);(·kernel_rfl);(·(cbv;try rfl));(·(cbv;try rfl));(·(cbv;try rfl));(·intro wc;exact Qiba _ _ _ _ _ _ _ _ _ _ _ _ _ _ _ _ _ _ _ wc))
  | ((with_reducible apply Q0h 4 hT (g:=34) (hfun:=Tryz.call34));(·rfl);(·kernel_rfl);(·rfl);(·rfl);(·(intro h_;cases h_));(·kernel_rfl);(·kernel_rfl);(·kernel_rfl);(·(cbv;try rfl));(·(cbv;try rfl));(·(cbv;try rfl));(·intro wc;exact Qiba _ _ _ _ _ _ _ _ _ _ _ _ _ _ _ _ _ _ _ wc))
  | ((with_reducible apply Q0h 0 hT (g:=37) (hfun:=Tryz.call37));(·rfl);(·kernel_rfl);(·rfl);(·rfl);(·(intro h_;cases h_));(·kernel_rfl);(·kernel_rfl);(·kernel_rfl);(·(cbv;try rfl));(·(cbv;try rfl));(·(cbv;try rfl));(·intro wc;exact Qsba _ _ _ _ wc))
  | ((with_reducible apply Q0h 1 hT (g:=37) (hfun:=Tryz.call37));(·rfl);(·kernel_rfl);(·rfl);(·rfl);(·(intro h_;cases h_));(·kernel_rfl);(·kernel_rfl);(·kernel_rfl);(·(cbv;try rfl));(·(cbv;try rfl));(·(cbv;try rfl));(·intro wc;exact Qsba _ _ _ _ wc))
  | ((with_reducible apply Q0h 2 hT (g:=37) (hfun:=Tryz.call37));(·rfl);(·kernel_rfl);(·rfl);(·rfl);(·(intro h_;cases h_));(·kernel_rfl);(·kernel_rfl);(·kernel_rfl);(·(cbv;try rfl));(·(cbv;try rfl));(·(cbv;try rfl));(·intro wc;exact Qsba _ _ _ _ wc))
  | ((with_reducible apply Q0h 3 hT (g:=37) (hfun:=Tryz.call37));(·rfl);(·kernel_rfl);(·rfl);(·rfl);(·(intro h_;cases h_));(·kernel_rfl);(·kernel_rfl);(·kernel_rfl);(·(cbv;try rfl));(·(cbv;try rfl));(·(cbv;try rfl));(·intro wc;exact Qsba _ _ _ _ wc))
  | ((with_reducible apply Q0h 4 hT (g:=37) (hfun:=Tryz.call37));(·rfl);(·kernel_rfl);(·rfl);(·rfl);(·(intro h_;cases h_));(·kernel_rfl);(·kernel_rfl);(·kernel_rfl);(·(cbv;try rfl));(·(cbv;try rfl));(·(cbv;try rfl));(·intro wc;exact Qsba _ _ _ _ wc))
  | refine go1 ?_|refine Qpb ?_|refine Q7b ?_|refine go3 (fun hlt=>?_) (fun hge=>?_)|refine go2 (fun h=>?_) (fun h=>?_)|exact go0|refine gof ?_|refine gob ?_|(with_reducible refine Qha ?_ ?_)
  | ((with_reducible apply Qfa (f:=35) (hf:=Tryz.call35));(·(cbv;try rfl));(·intro wc hbc hxc;exact Qmba _ wc))
  | ((with_reducible apply Qta (f:=35) (hf:=Tryz.call35));(·(cbv;try rfl));(·intro wc hbc hxc;exact Qmba _ wc))
  | ((with_reducible apply Qfa (f:=39) (hf:=Tryz.call39));(·(cbv;try rfl));(·intro wc hbc hxc;exact Qjba _ wc))
  | ((with_reducible apply Qta (f:=39) (hf:=Tryz.call39));(·(cbv;try rfl));(·intro wc hbc hxc;exact Qjba _ wc))
  | ((with_reducible apply Qfa (f:=36) (hf:=Tryz.call36));(·(cbv;try rfl));(·intro wc hbc hxc;exact Qkba _ _ _ _ wc))
  | ((with_reducible apply Qta (f:=36) (hf:=Tryz.call36));(·(cbv;try rfl));(·intro wc hbc hxc;exact Qkba _ _ _ _ wc))
  | ((with_reducible apply Qfa (f:=34) (hf:=Tryz.call34));(·(cbv;try rfl));(·intro wc hbc hxc;exact Qiba _ _ _ _ _ _ _ _ _ _ _ _ _ _ _ _ _ _ _ wc))
  | ((with_reducible apply Qta (f:=34) (hf:=Tryz.call34));(·(cbv;try rfl));(·intro wc hbc hxc;exact Qiba _ _ _ _ _ _ _ _ _ _ _ _ _ _ _ _ _ _ _ wc))
  | ((with_reducible apply Qfa (f:=37) (hf:=Tryz.call37));(·(cbv;try rfl));(·intro wc hbc hxc;exact Qsba _ _ _ _ wc))
  | ((with_reducible apply Qta (f:=37) (hf:=Tryz.call37));(·(cbv;try rfl));(·intro wc hbc hxc;exact Qsba _ _ _ _ wc))
  | ((with_reducible apply Qba (f:=89) (hf:=Tryz.func89) (hr:=Tryz.results89) (hcall:=Tryz.call89));(·rfl);(·(cbv;try rfl)))
  | ((with_reducible apply Qba (f:=33) (hf:=Tryz.func33) (hr:=Tryz.results33) (hcall:=Tryz.call33));(·rfl);(·(cbv;try rfl)))
  | (((with_reducible refine Q4d (by kernel_rfl) ?_);(refine Q9d 1 0 rfl rfl rfl rfl rfl trivial rfl (Qlba 0) (Qlca 0) (fun a1 _=>?_));(refine Q9d 3 1 rfl rfl rfl rfl rfl trivial rfl (Qyf (Qlba 0) rfl Qvc) Qku (fun a2 _=>?_))))
  | (((apply Qvba Tryz.call28 scI [[false,true,true,false,false]] Q18 2 1 5 (dst:=some 10));(·(intro S B;cbv;try rfl));(·kernel_rfl);(·(intro B;kernel_rfl));(·(intro B;kernel_rfl));(·(intro B;kernel_rfl));(·(intro B;kernel_rfl));(·exact fun B hO j k hj hk=>(Q1ba (K:=8) (M:=[3,7,7,3,1]) (r:=2) (s:=6) (T:=[[false,true,true,false,false]]) (U:=[]) hO (by kernel_rfl) hj hk).1);(·rfl);(·rfl);(·exact trivial);(·exact Qyf (Qyf (Qlba 0) rfl Qvc) rfl Qvc);(intro A1;refine Qsca 0 (fun j=>[.xs 2 j]) rfl Qmda ?_)))
  | (((apply Qvba Tryz.call28 scI [[false,true,true,false,false],[false,false,false,false,false]] Q18 5 2 5 (dst:=some 19));(·(intro S B;cbv;try rfl));(·kernel_rfl);(·(intro B;kernel_rfl));(·(intro B;kernel_rfl));(·(intro B;kernel_rfl));(·(intro B;kernel_rfl));(·exact fun B hO j k hj hk=>(Q1ba (K:=8) (M:=[3,7,7,3,1]) (r:=2) (s:=6) (T:=[[false,true,true,false,false],[false,false,false,false,false]]) (U:=[]) hO (by kernel_rfl) hj hk).1);(·rfl);(·rfl);(·exact ⟨fun _ _=>rfl,trivial⟩);(·exact Qyf (Qyf (Qoba (Qyf (Qyf (Qlba 0) rfl Qvc) rfl Qvc) (fun p i j h=>Q1e (fun _ _=>rfl) p i j h)) rfl Qvc) rfl Qvc);(intro A2;refine Qsca 1 (fun j=>[.xs 5 j]) rfl Qmda ?_)))
  | (((with_reducible refine Q4d (by kernel_rfl) ?_);(refine Q9d 1 3 rfl rfl rfl rfl rfl ⟨fun _ _=>rfl,trivial⟩ rfl (Qoba (Qyf (Qyf (Qlba 0) rfl Qvc) rfl Qvc) (fun p i j h=>Q1e (fun _ _=>rfl) p i j h)) Qlda (fun a3 _=>?_));(refine Q9d 3 4 rfl rfl rfl rfl rfl ⟨fun _ _=>rfl,trivial⟩ rfl (Qyf (Qoba (Qyf (Qyf (Qlba 0) rfl Qvc) rfl Qvc) (fun p i j h=>Q1e (fun _ _=>rfl) p i j h)) rfl Qvc) Qku (fun a4 _=>?_))))
  | ((with_reducible apply Qba (f:=84) (hf:=Tryz.func84) (hr:=Tryz.results84) (hcall:=Tryz.call84));(·rfl);(·(cbv;try rfl)))
  | ((with_reducible apply Qba (f:=32) (hf:=Tryz.func32) (hr:=Tryz.results32) (hcall:=Tryz.call32));(·rfl);(·(cbv;try rfl)))
  | (with_reducible apply Qqa 6)
  | ((with_reducible refine Q4d (by kernel_rfl) ?_))
  | (fail)
  | fail)
 all_goals (first|rfl|trace_state)
end Go.Proofs.YtamcjkgedgocfaaGreat
