/- Layer 11: lists of points: whether one is in it, whether two are the same. No condition. -/
import Derived.Test.YtaafofmfbcnaaaaGreatGrB
namespace Go.Proofs.YtaafofmfbcnaaaaGreat
open Go.RowKit
set_option linter.unusedVariables false
set_option linter.unusedSimpArgs false
theorem RowIs.one {c:Nat→Nat→Row} {w:World} {R:ORow} {v:Value} (h:RowIs c w R v) (hp:∀j,j<R.n→plainL (R.el j)=true):∃a cap,v=.slice a R.n cap∧XOk ⟨[],OneR a R.n cap R.es R.el,[]⟩ ⟨w,[]⟩:=by
 obtain ⟨a,cap,rfl⟩:=h.form
 refine ⟨a,cap,rfl,fun q i j hj=>?_⟩
 obtain ⟨b,p,h1,h2,vs,h3,h4⟩:=h.row (c':=OneR a R.n cap R.es R.el) hp (j:=j) hj
 exact ⟨b,p,h1,h2,by simp,vs,h3,h4⟩
theorem mem_of_getD {L:List (Nat×Nat)} {p:Nat×Nat} {j:Nat} (hj:j<L.length) (h:L.getD j (0,0)=p):p∈L:=by
 rw[←h];simp only[List.getD,List.getElem?_eq_getElem hj,Option.getD_some];exact List.getElem_mem hj
theorem not_mem_getD {L:List (Nat×Nat)} {p:Nat×Nat} (h:∀j,j<L.length→L.getD j (0,0)≠p):p ∉ L:=fun hm=>by
 obtain ⟨j,hj,e⟩:=List.getElem_of_mem hm
 exact h j hj (by simp only[List.getD,List.getElem?_eq_getElem hj,Option.getD_some,e])
set_option maxRecDepth 100000 in
set_option maxHeartbeats 4000000 in
theorem containsC (L:List (Nat×Nat)) (x y:Nat) (hL:L.length≤1000000) (c:Nat→Nat→Row) (w:World) (v:Value) (hR:RowIs c w (ptR L) v):
 Calls Tryz.prog 73 #[v,.agg #[.int .i64 (.ofNat x),.int .i64 (.ofNat y)]] w (Ret w (.bool (decide ((x,y)∈L)))):=by
 obtain ⟨a,cap,rfl,hX⟩:=hR.one (fun j _=>rfl)
 have hin:∀j,j<L.length→L.getD j (0,0)=(x,y)→decide ((x,y)∈L)=true:=fun j hj h=>decide_eq_true (mem_of_getD hj h)
 have hno:(∀j,j<L.length→L.getD j (0,0)≠(x,y))→decide ((x,y)∈L)=false:=fun h=>decide_eq_false (not_mem_getD h)
 obtain ⟨n,hn⟩:∃n,n=L.length:=⟨_,rfl⟩
 obtain ⟨p1,hp1⟩:∃f:Nat→Nat,f=fun j=>(L.getD j (0,0)).1:=⟨_,rfl⟩
 obtain ⟨p2,hp2⟩:∃f:Nat→Nat,f=fun j=>(L.getD j (0,0)).2:=⟨_,rfl⟩
 obtain ⟨z,hz⟩:∃z,z=decide ((x,y)∈L):=⟨_,rfl⟩
 have hpt:ptR L=⟨n,2,fun j=>[.int .i64 (.ofNat (p1 j)),.int .i64 (.ofNat (p2 j))]⟩:=by rw[ptR,hn,hp1,hp2]
 have hin:∀j,j<n→p1 j=x→p2 j=y→z=true:=fun j hj h1 h2=>by rw[hz];exact hin j (hn▸hj) (by rw[hp1] at h1;rw[hp2] at h2;exact Prod.ext h1 h2)
 have hno:(∀j,j<n→¬(p1 j=x∧p2 j=y))→z=false:=fun h=>by
  rw[hz];refine hno fun j hj e=>h j (hn▸hj) ?_
  rw[hp1,hp2];simp only[e];exact ⟨trivial,trivial⟩
 have hn9:n≤1000000:=by rw[hn];exact hL
 rw[hpt] at hX⊢
 rw[←hz]
 clear hpt hp1 hp2 hz hn hL hR
 refine go_start (args:=[.pt (.one (.xs 0 0)),.pt (.agg [.int .i64 (.ofNat x),.int .i64 (.ofNat y)])]) (c:=(OneR a n cap 2 fun j=>[.int .i64 (.ofNat (p1 j)),.int .i64 (.ofNat (p2 j))])) Tryz.func73 rfl hX rfl rfl ?_
 obtain ⟨nd,hnd,nt,hnt,ar,har,cm,hcm,mx,hmx,mn,hmn,ar01,ar12,zpl,hzpl,zjn,hzjn,zup,hzup,zmi,hzmi,zdp,hzdp,hT⟩:=t0_all
 have hne:∀i,nd (decide (Int.ofNat x=Int.ofNat (p1 i))) (decide (Int.ofNat y=Int.ofNat (p2 i)))=false→¬(p1 i=x∧p2 i=y):=fun i h g=>by
  rw[hnd,g.1,g.2] at h;simp at h
 have heq:∀i,nd (decide (Int.ofNat x=Int.ofNat (p1 i))) (decide (Int.ofNat y=Int.ofNat (p2 i)))=true→p1 i=x∧p2 i=y:=fun i h=>by
  rw[hnd,Bool.and_eq_true] at h
  exact ⟨(Int.ofNat.inj (of_decide_eq_true h.1)).symm,(Int.ofNat.inj (of_decide_eq_true h.2)).symm⟩
 repeat' (first
  | refine go1 ?_|refine gobt ?_|refine gobn ?_|refine go3 (fun hlt=>?_) (fun hge=>?_)|refine go2 (fun h=>?_) (fun h=>?_)|exact go0|refine god ?_|refine gof ?_|refine gob ?_|(with_reducible refine fork_cons ?_ ?_)
  | ((with_reducible apply go_inline (f:=104) (hf:=Tryz.func104) (hr:=Tryz.results104) (hcall:=Tryz.call104));(·rfl);(·(cbv;try rfl)))
  | ((with_reducible refine go_loopk (σ:={i:Nat // i≤n∧∀j,j<i→¬(p1 j=x∧p2 j=y)}) [4,5,9,10,11,12,13,14,15,16,17,18] (fun x=>[(8,.pt (.one (.int .i64 (.ofNat x.1))))]) (fun x=>[]) (fun x=>[]) (fun x=>n - x.1) ⟨0,by omega,fun j hj=>by omega⟩ ?_ ?_ ?_ ?_);(·exact le_mkP gole gole gole gole);(·(cbv;try rfl));(·simp);(rintro ⟨i,hi,hok⟩ mm hmm))
  | ((with_reducible refine go_stop ⟨i+1,by omega,all_succ hok (hne i ‹_›)⟩ ?_ ?_ ?_ ?_);(·exact Nat.lt_of_lt_of_eq (show n - (i+1)<n - i from by omega) (Eq.symm ‹_›));(·exact le_mkP gole gole gole gole);(·(cbv;try rfl));(·simp))
  | fail)
 all_goals (refine bool_eq ?_)
 · have q:=heq i ‹_›
   rw[hin i hlt q.1 q.2,hcm]
   exact decide_eq_true (Int.natCast_nonneg i)
 · rw[hno (fun j hj=>hok j (by omega)),hcm];rfl
end Go.Proofs.YtaafofmfbcnaaaaGreat
