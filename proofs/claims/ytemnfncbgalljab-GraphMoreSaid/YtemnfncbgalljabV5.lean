/- Lemmas. No condition. -/
import Derived.Test.YtemnfncbgalljabV4
namespace Go.Proofs.Ytemnfncbgalljab
open Go.RowKit Go.Shelf Go.Sort
set_option linter.all false
section
open Go.RowKit Go.Maps
def ntR (L:List Nat):List Value:=L.map fun x=>Value.int .i64 (.ofNat x)
structure LSt (E:O9z) (m:Nat) (es:Array MapEntry) (clock:Nat) (W:B9z) (N:Nat) (V:Nat->Value) (B:Nat->List Nat):Prop where
 em:E m=some (.map es clock)
 mw:MapW es clock W
 row:∀j,j<N->ExRow E 1 (V j) (B j).length (ntR (B j))
 ne:∀i j b,i<N->j<N->i≠j->(V i).ownBlock=some b->(V j).ownBlock≠some b
namespace LSt
variable {E:O9z} {m:Nat} {es:Array MapEntry} {clock:Nat} {W:B9z} {N:Nat} {V:Nat->Value} {B:Nat->List Nat}
theorem nm (h:LSt E m es clock W N V B) {j:Nat} (hj:j<N):(V j).ownBlock≠some m:=fun hb=>by
 obtain ⟨cur,ty,g⟩:=(h.row j hj).some hb
 rw[h.em] at g;cases g
theorem first (E:O9z) (m N:Nat):LSt (Qola E m (.map #[] 0)) m #[] 0 (fun _=>false) N (fun _=>.slice none 0 0) (fun _=>[]):=
 ⟨Qle _ _ _,Q2x,fun j _=>.nil _ _,fun i j b _ _ _ h=>by cases h⟩
theorem put (h:LSt E m es clock W N V B) {es':Array MapEntry} {clock':Nat} {W':B9z} (hM:MapW es' clock' W'):LSt (Qola E m (.map es' clock')) m es' clock' W' N V B:=
 ⟨Qle _ _ _,hM,fun j hj=>(h.row j hj).to fun b hb=>Q8e fun e=>h.nm hj (by rw[hb,e]),h.ne⟩
theorem turn (h:LSt E m es clock W N V B) {n:Nat} (hn:n<N) {E1 E2:O9z} {v:Value} {L:List Nat}
 (t1:∀b,(V n).ownBlock≠some b->E1 b=E b) (t2:∀b,(V n).ownBlock=some b->E1 b=none)
 (g1:∀b,v.ownBlock≠some b->E2 b=E1 b) (g2:∀b,v.ownBlock=some b->E1 b=none) (hr:ExRow E2 1 v L.length (ntR L)):
 LSt E2 m es clock W N (fun j=>if j=n then v else V j) (fun j=>if j=n then L else B j):=by
 have key:∀b o,E b=some o->(V n).ownBlock≠some b->E2 b=some o:=fun b o hb hv=>by
  have e1:=(t1 b hv).trans hb
  rw[g1 b (fun hv2=>by rw[g2 b hv2] at e1;cases e1),e1]
 refine ⟨key m _ h.em (h.nm hn),h.mw,fun j hj=>?_,fun i j b hi hj hij hb=>?_⟩
 · by_cases g:j=n
   · subst g;simp only[if_true];exact hr
   · simp only[if_neg g]
     refine (h.row j hj).to fun b hb=>?_
     obtain ⟨cur,ty,e⟩:=(h.row j hj).some hb
     rw[e]
     exact key b _ e fun hv=>h.ne n j b hn hj (fun e=>g e.symm) hv hb
 · have hx:∀j,j<N->j≠n->∀b,(V j).ownBlock=some b->v.ownBlock≠some b:=fun j hj g b hb hv=>by
    obtain ⟨cur,ty,e⟩:=(h.row j hj).some hb
    have e1:=(t1 b (fun hv=>h.ne n j b hn hj (fun e=>g e.symm) hv hb)).trans e
    rw[g2 b hv] at e1;cases e1
   by_cases gi:i=n
   · subst gi
     simp only[if_true] at hb
     simp only[if_neg (fun e=>hij (Eq.symm e))]
     exact fun hc=>hx j hj (fun e=>hij e.symm) b hc hb
   · simp only[if_neg gi] at hb
     by_cases gj:j=n
     · subst gj;simp only[if_true];exact hx i hi gi b hb
     · simp only[if_neg gj];exact h.ne i j b hi hj hij hb
end LSt
end
end Go.Proofs.Ytemnfncbgalljab
