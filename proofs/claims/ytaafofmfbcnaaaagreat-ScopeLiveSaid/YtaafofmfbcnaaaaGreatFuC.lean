/- A function and a row of ints behind its four families, as arguments. No condition. -/
import Derived.Test.YtaafofmfbcnaaaaGreatN7
import Derived.Test.YtaafofmfbcnaaaaGreatX1
import Derived.Test.YtaafofmfbcnaaaaGreatPtA
namespace Go.Proofs.YtaafofmfbcnaaaaGreat
open Go.RowKit
set_option linter.unusedVariables false
set_option linter.unusedSimpArgs false
def funC (F:GFun) (a:Option Addr) (n cap:Nat) (f:Nat→Int):Nat→Nat→Row
 | 0,i=>funX F 0 i
 | 1,i=>funX F 1 i
 | 2,i=>funX F 2 i
 | 3,i=>funX F 3 i
 | _,_=>⟨a,n,cap,1,fun i=>[.int .i64 (f i)]⟩
theorem funC_lt {F:GFun} {a:Option Addr} {n cap:Nat} {f:Nat→Int}:∀q i,q<4→funX F q i=funC F a n cap f q i
 | 0,_,_=>rfl
 | 1,_,_=>rfl
 | 2,_,_=>rfl
 | 3,_,_=>rfl
theorem funC_ok {F:GFun} {w:World} (hF:F.At w) {a:Option Addr} {n cap:Nat} {f:Nat→Int} (h:RowAt w a n 1 (fun i=>[.int .i64 (f i)])):XOk ⟨[],funC F a n cap f,[]⟩ ⟨w,[]⟩:=fun q i j hj=>by
 by_cases hq:q<4
 · have e:=funC_lt (F:=F) (a:=a) (n:=n) (cap:=cap) (f:=f) q i hq
   have hj':j<(funX F q i).n:=by rw[e];exact hj
   obtain ⟨b,p,g1,g2,g3,vs,g4,g5⟩:=hF.ok q i j hj'
   refine ⟨b,p,(congrArg Row.a e).symm.trans g1,g2,g3,vs,?_,?_⟩
   · show isL ⟨[],funC F a n cap f,[]⟩ ((funC F a n cap f q i).el j) vs
     rw[←e]
     exact isL_chi (K:=4) funC_lt (funX_qb F q i j hq hj') g4
   · show ∀(t:Nat) (v:Value),vs[t]? =some v→w.cell? ⟨b,p+(j * (funC F a n cap f q i).size+t),none⟩=some v
     rw[←e]
     exact g5
 · obtain ⟨q,rfl⟩:∃m,q=m+4:=⟨q - 4,by omega⟩
   obtain ⟨b,o,h1,h2,h3⟩:=h j hj
   exact ⟨b,o,h1,h2,by simp,[.int .i64 (f j)],⟨rfl,trivial⟩,fun t v ht=>h3 t v ht⟩
theorem funC_qb (F:GFun) (a:Option Addr) (n cap:Nat) (f:Nat→Int):∀q i j,q<5→j<(funC F a n cap f q i).n→qbL 5 ((funC F a n cap f q i).el j)=true:=fun q i j hq hj=>by
 by_cases h:q<4
 · rw[←funC_lt q i h] at hj⊢
   exact qbL_up _ (funX_qb F q i j h hj)
 · obtain rfl:q=4:=by omega
   rfl
end Go.Proofs.YtaafofmfbcnaaaaGreat
