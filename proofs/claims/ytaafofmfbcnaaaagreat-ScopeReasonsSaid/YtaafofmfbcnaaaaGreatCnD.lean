/- Layer 19 of the reference: the constraint of each kind that a point has, all constraints of a function. No condition. -/
import Derived.Test.YtaafofmfbcnaaaaGreatN6
import Derived.Test.YtaafofmfbcnaaaaGreatPtA
namespace Go.Proofs.YtaafofmfbcnaaaaGreat
open Go.RowKit
set_option linter.unusedVariables false
set_option linter.unusedSimpArgs false
section
variable {P:Program} {Q:Exit→Act→World→Prop} {c:Nat→Nat→Row} {w0:Base}
theorem out_eq {o o':Out} (h:o=o') (g:OutOk P Q c w0 o'):OutOk P Q c w0 o:=by rw[h];exact g
end
theorem loanPts_ix {F:GFun} {n:Nat}:∀N i,i<(loanPts F N).length→(loanPts F N).getD i 0=n→(isAt F n=true∧(stAt F n).k=1∧(stAt F n).r.k=4)∧i=(loanPts F n).length
 | 0,i,h,_=>by simp[loanPts] at h
 | N+1,i,h,e=>by
   simp only[loanPts] at h e
   by_cases g:i<(loanPts F N).length
   · rw[getD_app _ _ _ g] at e
     exact loanPts_ix N i g e
   · rw[List.length_append] at h
     split at h
     · rename_i hl
       simp only[List.length_cons,List.length_nil] at h
       have hi:i=(loanPts F N).length+0:=by omega
       rw[hi,getD_app2,if_pos hl] at e
       have e:N=n:=by simpa using e
       subst e
       exact ⟨hl,by omega⟩
     · simp only[List.length_nil] at h;omega
set_option maxRecDepth 100000 in
theorem rRef19C (F:GFun) (l:Int) (w:World) (hF:F.At w) (h0:0≤l) (h1:l<F.ln):
 Calls Tryz.prog 59 #[F.val,.int .i64 l] w (Ret w (.bool (isRef (F.lk l.toNat)))):=by
 obtain ⟨n,rfl⟩:∃n:Nat,l=.ofNat n:=⟨l.toNat,by simp only[Int.ofNat_eq_natCast];omega⟩
 have h1:n<F.ln:=by simp only[Int.ofNat_eq_natCast] at h1;omega
 show Calls Tryz.prog 59 #[F.val,.int .i64 (.ofNat n)] w (Ret w (.bool (isRef (F.lk n))))
 clear h0
 have h2 (wc:World):Calls Tryz.prog 96 #[.agg #[.int .u8 (F.lk n),.int .u8 (F.lt n)]] wc (Ret wc (.bool (isRef (F.lk n)))):=rReference (F.lk n) (F.lt n) wc
 obtain ⟨pa,un,lA,ln,lc,lk,lt,bA,bn,bc,sA,sn,sc,s,jA,jn,jc,ja,jk,jo,jf,jx,je,jd⟩:=F
 obtain ⟨hX,hl,hb,hs,hj⟩:=hF
 simp only at hl hb hs hj
 simp only at h1 h2
 generalize isRef (lk n)=b at h2⊢
 refine go_start (args:=[.pt (.agg (GFun.dat _)),.pt (.one (.int .i64 (.ofNat n)))]) (c:=(funX _)) Tryz.func59 rfl hX rfl rfl ?_
 obtain ⟨nd,hnd,nt,hnt,ar,har,cm,hcm,mx,hmx,mn,hmn,ar01,ar12,zpl,hzpl,zjn,hzjn,zup,hzup,zmi,hzmi,zdp,hzdp,hT⟩:=t0_all
 repeat' (first
  | refine go1 ?_|refine gobt ?_|refine gobn ?_|refine go3 (fun hlt=>?_) (fun hge=>?_)|refine go2 (fun h=>?_) (fun h=>?_)|exact go0|refine god ?_|refine gof ?_|refine gob ?_|(with_reducible refine fork_cons ?_ ?_)
  | ((with_reducible apply go_call (f:=96) (hf:=Tryz.call96));(·(cbv;try rfl));(·intro wc hbc hxc;exact h2 wc))
  | ((with_reducible apply go_callq (f:=96) (hf:=Tryz.call96));(·(cbv;try rfl));(·intro wc hbc hxc;exact h2 wc))
  | fail)
 all_goals rfl
end Go.Proofs.YtaafofmfbcnaaaaGreat

