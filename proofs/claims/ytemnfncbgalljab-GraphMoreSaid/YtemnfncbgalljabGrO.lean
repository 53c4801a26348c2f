/- Lemmas. No condition. -/
import Derived.Test.YtemnfncbgalljabG2
import Derived.Test.YtemnfncbgalljabX1
namespace Go.Proofs.Ytemnfncbgalljab
open Go.RowKit
set_option linter.all false
set_option maxHeartbeats 64000000
set_option maxRecDepth 100000
def Qwoa (a:Option Addr) (n c size:Nat) (el:Nat->List SC) (a':Option Addr) (n' c' size':Nat) (el':Nat->List SC):Nat->Nat->Row:=fun q _=>match q with
 | 0=>⟨a,n,c,size,el⟩
 | _+1=>⟨a',n',c',size',el'⟩
theorem RowIs.two {c:R9z} {w:World} {R R':ORow} {v v':Value} (h:RowIs c w R v) (h':RowIs c w R' v') (hp:∀j,j<R.n->Qob (R.el j)=true) (hp':∀j,j<R'.n->Qob (R'.el j)=true):∃a cap a' cap',v=.slice a R.n cap/\v'=.slice a' R'.n cap'/\XOk ⟨[],Qwoa a R.n cap R.es R.el a' R'.n cap' R'.es R'.el,[]⟩ ⟨w,[]⟩:=by
 obtain ⟨a,cap,rfl⟩:=h.form
 obtain ⟨a',cap',rfl⟩:=h'.form
 refine ⟨a,cap,a',cap',rfl,rfl,fun q i j hj=>?_⟩
 match q,hj with
 | 0,hj=>
   obtain ⟨b,p,h1,h2,vs,h3,h4⟩:=h.row (c':=Qwoa a R.n cap R.es R.el a' R'.n cap' R'.es R'.el) hp (j:=j) hj
   exact ⟨b,p,h1,h2,by simp,vs,h3,h4⟩
 | q+1,hj=>
   obtain ⟨b,p,h1,h2,vs,h3,h4⟩:=h'.row (c':=Qwoa a R.n cap R.es R.el a' R'.n cap' R'.es R'.el) hp' (j:=j) hj
   exact ⟨b,p,h1,h2,by simp,vs,h3,h4⟩
theorem Q4ka (n:Nat) (f g:B9z) (hfg:∀j,j<n->f j=g j) (hn:n<=1000000) (c:R9z) (w:World) (v v':Value) (hR:RowIs c w ⟨n,1,fun j=>[.bool (f j)]⟩ v) (hR':RowIs c w ⟨n,1,fun j=>[.bool (g j)]⟩ v'):
 Calls Try.prog 11 #[v,v'] w (Ret w (.bool true)):=by
 obtain ⟨a,cap,a',cap',rfl,rfl,hX⟩:=hR.two hR' (fun j _=>rfl) (fun j _=>rfl)
 clear hR hR'
 refine Qaa (args:=[.pt (.one (.xs 0 0)),.pt (.one (.xs 1 0))]) (c:=(Qwoa a n cap 1 (fun j=>[.bool (f j)]) a' n cap' 1 (fun j=>[.bool (g j)]))) Try.func11 rfl hX rfl rfl ?_
 obtain ⟨_,_,_,hnt,_,har,_,hcm,_,_,_,_,ar01,ar12,_,hzpl,_,_,_,_,_,_,_,_,hT⟩:=Qca
 repeat' (first
  | refine goa ?_|refine go3 (fun hlt=>?_) (fun hge=>?_)|refine go2 (fun h=>?_) (fun h=>?_)|exact go0|refine goz ?_|refine Qvha ?_ ?_
  | ((with_reducible refine Qgha (σ:={i:Nat // i<=n}) (zs9 [4,1,11,15]) (fun x=>[zc9 5 x.1]) (fun x=>[]) (fun x=>[]) (fun x=>n - x.1) ⟨0,by omega⟩ ?_ ?_);(·exact pfp Qdb);(rintro ⟨i,hi⟩ mm hmm))
  | ((with_reducible refine Qfha ⟨i+1,by omega⟩ ?_ ?_);(·exact msr o9 y9);(·exact pfp Qdb))
  | fail)
 all_goals (try rfl)
 all_goals (exfalso;rw[hfg i hlt] at h;simp at h)
end Go.Proofs.Ytemnfncbgalljab
