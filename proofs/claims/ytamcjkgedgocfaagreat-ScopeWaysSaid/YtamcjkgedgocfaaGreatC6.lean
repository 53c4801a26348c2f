/- Texts joined: FuC ScX. No condition. -/
import Derived.Test.YtamcjkgedgocfaaGreatN7
import Derived.Test.YtamcjkgedgocfaaGreatX1
import Derived.Test.YtamcjkgedgocfaaGreatPtA
import Derived.Test.YtamcjkgedgocfaaGreatScQ
namespace Go.Proofs.YtamcjkgedgocfaaGreat
open Go.RowKit
set_option linter.unusedVariables false
set_option linter.unusedSimpArgs false
section
def funC (F:GFun) (a:Option Addr) (n cap:Nat) (f:Nat→Int):Nat→Nat→Row
 | 0,i=>funX F 0 i
 | 1,i=>funX F 1 i
 | 2,i=>funX F 2 i
 | 3,i=>funX F 3 i
 | _,_=>⟨a,n,cap,1,fun i=>[.int .i64 (f i)]⟩
theorem funC_lt {F:GFun} {a:Option Addr} {n cap:Nat} {f:Nat→Int}:∀q i,q<4→funX F q i=funC F a n cap f q i
 | 0,_,_=>rfl
 | 1,_,_=>rfl
 | 2,_,_=>rfl
 | 3,_,_=>rfl
theorem funC_ok {F:GFun} {w:World} (hF:F.At w) {a:Option Addr} {n cap:Nat} {f:Nat→Int} (h:RowAt w a n 1 (fun i=>[.int .i64 (f i)])):XOk ⟨[],funC F a n cap f,[]⟩ ⟨w,[]⟩:=fun q i j hj=>by
 by_cases hq:q<4
 · have e:=funC_lt (F:=F) (a:=a) (n:=n) (cap:=cap) (f:=f) q i hq
   have hj':j<(funX F q i).n:=by rw[e];exact hj
   obtain ⟨b,p,g1,g2,g3,vs,g4,g5⟩:=hF.ok q i j hj'
   refine ⟨b,p,(congrArg Row.a e).symm.trans g1,g2,g3,vs,?_,?_⟩
   · show isL ⟨[],funC F a n cap f,[]⟩ ((funC F a n cap f q i).el j) vs
     rw[←e]
     exact isL_chi (K:=4) funC_lt (funX_qb F q i j hq hj') g4
   · show ∀(t:Nat) (v:Value),vs[t]? =some v→w.cell? ⟨b,p+(j * (funC F a n cap f q i).size+t),none⟩=some v
     rw[←e]
     exact g5
 · obtain ⟨q,rfl⟩:∃m,q=m+4:=⟨q - 4,by omega⟩
   obtain ⟨b,o,h1,h2,h3⟩:=h j hj
   exact ⟨b,o,h1,h2,by simp,[.int .i64 (f j)],⟨rfl,trivial⟩,fun t v ht=>h3 t v ht⟩
theorem funC_qb (F:GFun) (a:Option Addr) (n cap:Nat) (f:Nat→Int):∀q i j,q<5→j<(funC F a n cap f q i).n→qbL 5 ((funC F a n cap f q i).el j)=true:=fun q i j hq hj=>by
 by_cases h:q<4
 · rw[←funC_lt q i h] at hj⊢
   exact qbL_up _ (funX_qb F q i j h hj)
 · obtain rfl:q=4:=by omega
   rfl
end
section
theorem nm_succ {F:GFun} {x m:Nat} (hm:m<(nextP F (pbN F x) (piN F x)).length):nmN F x m∈succN F x:=by
 rw[←succN_at hm]
 have hk':m<(succN F x).length:=by rw[succN_len];exact hm
 simp only[List.getD,List.getElem?_eq_getElem hk',Option.getD_some]
 exact List.getElem_mem hk'
theorem ways_on {F:GFun} {k x m:Nat} (hm:m<(nextP F (pbN F x) (piN F x)).length) (h:x=lpN F k∨scI F k x=true) (hk:killB F k x=false) (hr:regF F (k+F.ln) (nmN F x m)=true):scI F k (nmN F x m)=true:=by
 have hR:(wyF F k).R x (nmN F x m):=⟨hk,nm_succ hm,hr⟩
 rcases h with rfl|h
 · exact WyG.in0 (G:=wyF F k) hR
 · exact WyG.in1 (G:=wyF F k) h hR
theorem ways_with {F:GFun} {k x m:Nat} (hm:m<(nextP F (pbN F x) (piN F x)).length) (h:scU F k x=true∨(scI F k x=true∧(wyF F k).tw x=true)) (hk:killB F k x=false) (hr:regF F (k+F.ln) (nmN F x m)=true):scU F k (nmN F x m)=true:=by
 have hR:(wyF F k).R x (nmN F x m):=⟨hk,nm_succ hm,hr⟩
 rcases h with h|⟨h,t⟩
 · exact WyG.us1 (G:=wyF F k) h hR
 · exact WyG.us0 (G:=wyF F k) h t hR
def WysI (F:GFun) (x m k:Nat) (on wi:Nat→Bool):Prop:=∀j,j<lnC F→(on j=true→scI F j (if j<k then nmN F x m else x)=true)∧(wi j=true→scU F j (if j<k then nmN F x m else x)=true)
theorem WysI.step {F:GFun} {x m k:Nat} {on wi on' wi':Nat→Bool} (hm:m<(nextP F (pbN F x) (piN F x)).length) (hk:k<lnC F) (h:WysI F x m k on wi) (h1:∀j,j≠k→on' j=on j∧wi' j=wi j)
 (h2:on' k=((on k||decide (lpN F k=x))&&!killB F k x&&regF F (k+F.ln) (nmN F x m))) (h3:wi' k=((on k&&(wi k||(wyF F k).tw x))&&on' k)):WysI F x m (k+1) on' wi':=fun j hj=>by
 by_cases e:j=k
 · subst e
   rw[if_pos (by omega)]
   obtain ⟨g1,g2⟩:=h j hj
   rw[if_neg (by omega)] at g1 g2
   have key:on' j=true→(on j=true∨lpN F j=x)∧killB F j x=false∧regF F (j+F.ln) (nmN F x m)=true:=fun g=>by
    rw[h2] at g
    simp only[Bool.and_eq_true,Bool.or_eq_true,decide_eq_true_eq,Bool.not_eq_true'] at g
    exact ⟨g.1.1,g.1.2,g.2⟩
   refine ⟨fun g=>?_,fun g=>?_⟩
   · obtain ⟨a,b,c⟩:=key g
     exact ways_on hm (a.elim (fun a=>.inr (g1 a)) (fun a=>.inl a.symm)) b c
   · rw[h3] at g
     simp only[Bool.and_eq_true,Bool.or_eq_true] at g
     obtain ⟨_,b,c⟩:=key g.2
     exact ways_with hm (g.1.2.elim (fun a=>.inl (g2 a)) (fun a=>.inr ⟨g1 g.1.1,a⟩)) b c
 · obtain ⟨e1,e2⟩:=h1 j e
   rw[e1,e2]
   have:=h j hj
   by_cases g:j<k
   · rw[if_pos g] at this;rw[if_pos (by omega)];exact this
   · rw[if_neg g] at this;rw[if_neg (by omega)];exact this
theorem WysI.first {F:GFun} {x m:Nat} {on wi:Nat→Bool} (h:∀j,j<lnC F→(on j=true→scI F j x=true)∧(wi j=true→scU F j x=true)):WysI F x m 0 on wi:=fun j hj=>by
 rw[if_neg (Nat.not_lt_zero _)];exact h j hj
theorem WysI.last {F:GFun} {x m k:Nat} {on wi:Nat→Bool} (hk:lnC F≤k) (h:WysI F x m k on wi) (j:Nat) (hj:j<lnC F):(on j=true→scI F j (nmN F x m)=true)∧(wi j=true→scU F j (nmN F x m)=true):=by
 have:=h j hj
 rw[if_pos (by omega)] at this;exact this
end
end Go.Proofs.YtamcjkgedgocfaaGreat
