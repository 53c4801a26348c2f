/- A work list over any graph of numbers; the points reached, point by point. No condition. -/
import Derived.Test.YtaafofmfbcnaaaaGreatGrK
namespace Go.Proofs.YtaafofmfbcnaaaaGreat
open Go.RowKit
set_option linter.unusedVariables false
set_option linter.unusedSimpArgs false
inductive ReachG (sc:Nat→List Nat):Nat→Prop where
 | zero:ReachG sc 0
 | step {b n:Nat}:ReachG sc b→n∈sc b→ReachG sc n
structure GInv (sc:Nat→List Nat) (M:Nat) (S:Nat→Bool) (T:List Nat):Prop where
 z:S 0=true
 r:∀b,S b=true→ReachG sc b∧b<M
 t:∀b∈T,S b=true
 c:∀b,S b=true→b∈T∨∀n∈sc b,S n=true
 m:unmet S M+T.length≤M
theorem ginv_first (sc:Nat→List Nat) {M:Nat} (h:0<M):GInv sc M (fun j=>decide (j=0)) [0]:=by
 refine ⟨by simp,fun b hb=>?_,fun b hb=>by simpa using hb,fun b hb=>?_,?_⟩
 · have:b=0:=of_decide_eq_true hb
   subst this;exact ⟨.zero,h⟩
 · have:b=0:=of_decide_eq_true hb
   subst this;exact .inl (by simp)
 · have:=unmet_up (S:=fun _=>false) (n:=0) rfl M
   rw[if_pos h] at this
   have e:unmet (fun j=>decide (j=0)) M=unmet (fun j=>if j=0 then true else false) M:=by
    congr 1
   have h2:=unmet_le (fun _=>false) M
   rw[e]
   simp only[List.length_cons,List.length_nil]
   omega
theorem ginv_step {sc:Nat→List Nat} {M:Nat} {S:Nat→Bool} {b:Nat} {T:List Nat} (h:GInv sc M S (b::T)) (hl:∀n∈sc b,n<M):GInv sc M ((sc b).foldl visit (S,T)).1 ((sc b).foldl visit (S,T)).2:=by
 have hv:=visit_all (sc b) (S,T)
 have hs:=visit_size M (sc b) (S,T) hl
 refine ⟨hv.up 0 h.z,fun n hn=>?_,fun n hn=>?_,fun n hn=>?_,?_⟩
 · rcases hv.old n hn with g|⟨g,_⟩
   · exact h.r n g
   · exact ⟨.step (h.r b (h.t b List.mem_cons_self)).1 g,hl n g⟩
 · rcases hv.new n hn with g|g
   · exact hv.up n (h.t n (List.mem_cons_of_mem _ g))
   · exact hv.all n g
 · rcases hv.old n hn with g|⟨_,g⟩
   · rcases h.c n g with g|g
     · rcases List.mem_cons.1 g with rfl|g
       · exact .inr hv.all
       · exact .inl (hv.sub n g)
     · exact .inr fun k hk=>hv.up k (g k hk)
   · exact .inl g
 · have:=h.m
   simp only[List.length_cons] at this
   simp only at hs
   omega
theorem ginv_end {sc : Nat → List Nat} {M : Nat} {S : Nat → Bool} (h : GInv sc M S []) (b : Nat) : S b = true ↔ ReachG sc b := by
  refine ⟨fun hb => (h.r b hb).1, fun hb => ?_⟩
  induction hb with
  | zero => exact h.z
  | step _ hn ih => rcases h.c _ ih with g | g
                    · simp at g
                    · exact g _ hn
def succN (F:GFun) (a:Nat):List Nat:=(nextP F (pbN F a) (piN F a)).map fun p=>stN F.sn p.1+p.2
theorem succN_len (F:GFun) (a:Nat):(succN F a).length=(nextP F (pbN F a) (piN F a)).length:=by simp[succN]
theorem succN_at {F:GFun} {a k:Nat} (hk:k<(nextP F (pbN F a) (piN F a)).length):(succN F a).getD k 0=nmN F a k:=by
 simp[succN,nmN,List.getD,List.getElem?_eq_getElem hk]
theorem succN_lt {F:GFun} (hO:F.Ok) {a:Nat} (ha:a<stN F.sn F.bn):∀n∈succN F a,n<stN F.sn F.bn:=fun n hn=>by
 obtain ⟨p,hp,rfl⟩:=List.mem_map.1 hn
 have q:=next_mem hO (num_pt ha).1 hp
 exact stN_lt q.1 q.2.1
theorem reachG_pt {F:GFun} (hO:F.Ok) {j:Nat} (hj:j<stN F.sn F.bn):ReachG (succN F) j↔reachB F (pbN F j)=true:=by
 have key:∀j,ReachG (succN F) j→j<stN F.sn F.bn∧Reach F (pbN F j):=fun j h=>by
  induction h with
  | zero=>exact ⟨pts_pos hO,by rw[(pt_zero (pts_pos hO)).1];exact .zero⟩
  | @step b n _ hn ih=>
    refine ⟨succN_lt hO ih.1 n hn,?_⟩
    obtain ⟨p,hp,rfl⟩:=List.mem_map.1 hn
    have q:=next_mem hO (num_pt ih.1).1 hp
    rw[(at_num q.1 q.2.1).1]
    exact q.2.2 ih.2
 have up:∀b,b<F.bn→ReachG (succN F) (stN F.sn b)→∀i,i≤F.sn b→ReachG (succN F) (stN F.sn b+i):=fun b hb h i=>by
  induction i with
  | zero=>exact fun _=>h
  | succ i ih=>
    intro hi
    refine .step (ih (by omega)) ?_
    have e:=at_num (F:=F) hb (i:=i) (by omega)
    refine List.mem_map.2 ⟨(b,i+1),?_,rfl⟩
    rw[e.1,e.2]
    unfold nextP
    rw[if_pos (by omega)]
    exact List.mem_singleton_self _
 have blk:∀b,Reach F b→ReachG (succN F) (stN F.sn b):=fun b h=>by
  induction h with
  | zero=>exact .zero
  | @step b n hb hn ih=>
    have hb2:=Reach.lt hO hO.bpos hb
    refine .step (up b hb2 ih (F.sn b) (Nat.le_refl _)) ?_
    have e:=at_num (F:=F) hb2 (i:=F.sn b) (Nat.le_refl _)
    obtain ⟨m,hm,rfl⟩:=List.mem_map.1 hn
    refine List.mem_map.2 ⟨(m.toNat,0),?_,rfl⟩
    rw[e.1,e.2]
    unfold nextP
    rw[if_neg (by omega)]
    exact List.mem_map.2 ⟨m,mem_sort2.2 hm,rfl⟩
 refine ⟨fun h=>reachB_iff.2 (key j h).2,fun h=>?_⟩
 obtain ⟨h1,h2,h3⟩:=num_pt hj
 have:=up (pbN F j) h1 (blk _ (reachB_iff.1 h)) (piN F j) h2
 rw[←h3] at this;exact this
theorem ginv_pt {F:GFun} (hO:F.Ok) {S:Nat→Bool} (h:GInv (succN F) (stN F.sn F.bn) S []) {j:Nat} (hj:j<stN F.sn F.bn):S j=reachB F (pbN F j):=by
 have h1:=ginv_end h j
 have h2:=reachG_pt hO hj
 cases hs:S j<;>cases hr:reachB F (pbN F j)<;>simp_all
def visG (sc:Nat→List Nat) (S:Nat→Bool) (T:List Nat) (k:Nat):(Nat→Bool)×List Nat:=((sc (T.getD 0 0)).take k).foldl visit (S,T.tail)
theorem visG_zero (sc:Nat→List Nat) (S:Nat→Bool) (T:List Nat):visG sc S T 0=(S,T.tail):=by simp[visG]
theorem visG_succ {sc:Nat→List Nat} {S:Nat→Bool} {T:List Nat} {k:Nat} (hk:k<(sc (T.getD 0 0)).length):visG sc S T (k+1)=visit (visG sc S T k) ((sc (T.getD 0 0)).getD k 0):=by
 have key:∀(L:List Nat) (x:(Nat→Bool)×List Nat),k<L.length→(L.take (k+1)).foldl visit x=visit ((L.take k).foldl visit x) (L.getD k 0):=fun L x hk=>by
  rw[List.take_add_one,List.foldl_append]
  simp only[List.getElem?_eq_getElem hk,Option.toList_some,List.foldl_cons,List.foldl_nil,List.getD,Option.getD_some]
 exact key _ _ hk
theorem visG_end (sc:Nat→List Nat) (S:Nat→Bool) (b:Nat) (T:List Nat):visG sc S (b::T) (sc b).length=(sc b).foldl visit (S,T):=by
 simp[visG]
theorem visG_size {sc:Nat→List Nat} {M:Nat} {S:Nat→Bool} {b:Nat} {T:List Nat} (k:Nat) (hl:∀n∈sc b,n<M):unmet (visG sc S (b::T) k).1 M+(visG sc S (b::T) k).2.length=unmet S M+T.length:=by
 have:=visit_size M ((sc b).take k) (S,T) (fun n hn=>hl n (List.mem_of_mem_take hn))
 simpa [visG] using this
end Go.Proofs.YtaafofmfbcnaaaaGreat
