/- Literal lists of sets. No condition. -/
import Derived.Test.YtamcjkgedgocfaaGreatCnFa
import Derived.Test.YtamcjkgedgocfaaGreatS6
import Derived.Test.YtamcjkgedgocfaaGreatS1
import Derived.Test.YtamcjkgedgocfaaGreatW1
import Derived.Test.YtamcjkgedgocfaaGreatC3
namespace Go.Proofs.YtamcjkgedgocfaaGreat
open Go.RowKit
set_option linter.all false
theorem Q1ca {c:Nat→Nat→Row} {w:World} {S:Nat→Value} {B:Nat→Nat} {st:St} (hM:MemIs c w S B st) {k:Nat} (L:List Bool) (hk:nth st.h k=some (some (L.map .lit))):Bits w (some ⟨B k,0,none⟩) L.length (fun j=>L.getD j false):=by
 have hu:∀l:List Bool,Qiv S B c (l.map .lit)=some (l.map .bool):=fun l=>by
  induction l with
  | nil=>rfl
  | cons b l ih=>simp only[List.map_cons,Qiv,ih];rfl
 obtain ⟨hlt,t,hw⟩:=hM.blk k _ _ hk (hu L)
 refine fun hn=>⟨B k,0,rfl,hlt,fun j hj=>?_⟩
 rw[cell_of_row w (B k) (0+j) _ t (0,0) hw]
 simp[List.getElem?_map,List.getElem?_eq_getElem hj,List.getD]
theorem Q6ca {c:Nat→Nat→Row} {w:World} {S:Nat→Value} {B:Nat→Nat} {st:St} (hM:MemIs c w S B st) {k:Nat} {cs:List SC} {us:List Value} (hk:nth st.h k=some (some cs)) (hu:Qiv S B c cs=some us) {N:Nat} {T:List (List Bool)} (hN:N≤maxLen) (h:∀i u,us[i]? =some u→∃R C,u=.slice R N C∧Bits w R N (Q7ca T i)):Sets w (some ⟨B k,0,none⟩) us.length (fun _=>N) (Q7ca T):=fun hn=>by
 obtain ⟨hlt,t,hw⟩:=hM.blk k _ _ hk hu
 refine ⟨B k,0,rfl,hlt,fun i hi=>?_⟩
 obtain ⟨R,C,h1,h2⟩:=h i _ (List.getElem?_eq_getElem hi)
 refine ⟨R,C,?_,hN,h2⟩
 rw[cell_of_row w (B k) (0+i) _ t (0,0) hw]
 simp only[Nat.zero_add,List.getElem?_toArray,List.getElem?_eq_getElem hi,h1]
theorem Q5ca {c:Nat→Nat→Row} {w:World} (hx:XOk ⟨[],c,[]⟩ ⟨w,[]⟩) {n N:Nat} {A:Nat→Option Addr×Nat} {T:List (List Bool)} {v:Value} {a':Option Addr} {cap':Nat} (hR:RowIs c w ⟨n,1,fun j=>[.val (.slice (A j).1 N (A j).2)]⟩ v) (hA:∀j,j<n→∃q i,c q i=⟨(A j).1,N,(A j).2,1,fun k=>[.bool (Q7ca T j k)]⟩) {T':List (List Bool)} (hY:Sets w a' n (fun _=>N) (Q7ca T')) (e:∀i,i<n→∀j,j<N→Q7ca T i j=Q7ca T' i j) (hn:n≤maxLen) (hN:N≤maxLen):
 Calls Tryz.prog 32 #[v,.slice a' n cap'] w (Ret w (.bool true)):=by
 obtain ⟨a,cap,rfl,hX⟩:=Q7t hx hR hA hN
 have:=Qica a a' n n cap cap' _ _ _ _ w hn hn hX hY
 rw[Qhca rfl (fun _ _=>rfl) e] at this
 exact this
theorem Qwba {c:Nat→Nat→Row} {w:World} {S:Nat→Value} {B:Nat→Nat} {st:St} (hM:MemIs c w S B st) (hx:XOk ⟨[],c,[]⟩ ⟨w,[]⟩) (p k':Nat) {N:Nat} {A:Nat→Option Addr×Nat} (X:List (Nat×List Bool)) {T:List (List Bool)} (h4:nth st.r p=some (some ⟨X.length,1,fun j=>[.val (.slice (A j).1 N (A j).2)]⟩)) (hk':nth st.h k'=some (some (X.map fun x=>.sl x.1 0 N N))) (hX:∀x∈X,nth st.h x.1=some (some (x.2.map .lit))∧x.2.length=N)
 (hA:∀j,j<X.length→∃q i,c q i=⟨(A j).1,N,(A j).2,1,fun x=>[.bool (Q7ba T j x)]⟩) (e:∀i,i<X.length→∀j,j<N→Q7ba T i j=Q7ca (X.map (·.2)) i j) (hn:X.length≤maxLen) (hN:N≤maxLen):
 Calls Tryz.prog 32 #[S p,.slice (some ⟨B k',0,none⟩) X.length X.length] w (Ret w (.bool true)):=by
 have hu:∀X:List (Nat×List Bool),Qiv S B c (X.map fun x=>.sl x.1 0 N N)=some (X.map fun x=>.slice (some ⟨B x.1,0,none⟩) N N):=fun X=>by
  induction X with
  | nil=>rfl
  | cons x X ih=>simp only[List.map_cons,Qiv,ih];rfl
 have hY:Sets w (some ⟨B k',0,none⟩) X.length (fun _=>N) (Q7ca (X.map (·.2))):=by
  have:=Q6ca hM (us:=X.map fun x=>.slice (some ⟨B x.1,0,none⟩) N N) hk' (hu X) (N:=N) (T:=X.map (·.2)) hN fun i u hu=>by
   rw[List.getElem?_map] at hu
   obtain ⟨x,hx,rfl⟩:=Option.map_eq_some_iff.1 hu
   obtain ⟨h1,h2⟩:=hX x (List.mem_of_getElem? hx)
   have:=Q1ca hM x.2 h1
   rw[h2] at this
   refine ⟨_,_,rfl,?_⟩
   have e:Q7ca (X.map (·.2)) i=fun j=>x.2.getD j false:=by
    funext j
    show ((X.map (·.2)).getD i []).getD j false=_
    rw[show (X.map (·.2)).getD i []=x.2 from by rw[List.getD_eq_getElem?_getD (l:=X.map (·.2)),List.getElem?_map,hx];rfl]
   rw[e];exact this
  rw[List.length_map] at this
  exact this
 exact Q5ca hx (hM.row p _ h4) hA hY e hn hN
end Go.Proofs.YtamcjkgedgocfaaGreat
