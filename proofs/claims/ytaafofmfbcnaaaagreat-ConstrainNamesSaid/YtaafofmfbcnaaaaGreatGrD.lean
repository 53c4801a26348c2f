/- Which blocks are reached: a work list finds them. No condition. -/
import Derived.Test.YtaafofmfbcnaaaaGreatGrA
namespace Go.Proofs.YtaafofmfbcnaaaaGreat
open Go.RowKit
set_option linter.unusedVariables false
set_option linter.unusedSimpArgs false
def leadsN (F:GFun) (b:Nat):List Nat:=(F.jump b).leads.map Int.toNat
inductive Reach (F:GFun):Nat→Prop where
 | zero:Reach F 0
 | step {b n:Nat}:Reach F b→n∈leadsN F b→Reach F n
def visit (x:(Nat→Bool)×List Nat) (n:Nat):(Nat→Bool)×List Nat:=if x.1 n=true then x else (fun j=>if j=n then true else x.1 j,x.2++[n])
def unmet (S:Nat→Bool):Nat→Nat
 | 0=>0
 | m+1=>unmet S m+if S m=true then 0 else 1
theorem unmet_le (S:Nat→Bool):∀m,unmet S m≤m
 | 0=>Nat.le_refl _
 | m+1=>by have:=unmet_le S m;simp only[unmet];split<;>omega
theorem unmet_up {S:Nat→Bool} {n:Nat} (h:S n=false):∀m,unmet (fun j=>if j=n then true else S j) m+(if n<m then 1 else 0)=unmet S m
 | 0=>by simp[unmet]
 | m+1=>by
   have ih:=unmet_up h m
   simp only[unmet]
   by_cases g:m=n
   · subst g
     rw[if_neg (Nat.lt_irrefl _)] at ih
     simp only[if_true,h,Bool.false_eq_true,if_false]
     rw[if_pos (show m<m+1 by omega)];omega
   · simp only[if_neg g]
     by_cases g2:n<m
     · rw[if_pos g2] at ih;rw[if_pos (show n<m+1 by omega)];omega
     · rw[if_neg g2] at ih;rw[if_neg (show ¬n<m+1 by omega)];omega
structure VisitOk (l:List Nat) (x y:(Nat→Bool)×List Nat):Prop where
 up:∀b,x.1 b=true→y.1 b=true
 all:∀n∈l,y.1 n=true
 old:∀b,y.1 b=true→x.1 b=true∨(b∈l∧b∈y.2)
 sub:∀b∈x.2,b∈y.2
 new:∀b∈y.2,b∈x.2∨b∈l
theorem visit_all:∀(l:List Nat) (x:(Nat→Bool)×List Nat),VisitOk l x (l.foldl visit x)
 | [],x=>⟨fun _ h=>h,fun n h=>by simp at h,fun _ h=>.inl h,fun _ h=>h,fun _ h=>.inl h⟩
 | n::l,x=>by
   have ih:=visit_all l (visit x n)
   rw[List.foldl_cons]
   by_cases h:x.1 n=true
   · have e:visit x n=x:=by unfold visit;rw[if_pos h]
     rw[e] at ih⊢
     refine ⟨ih.up,fun m hm=>?_,fun b hb=>?_,ih.sub,fun b hb=>(ih.new b hb).imp id (List.mem_cons_of_mem _)⟩
     · rcases List.mem_cons.1 hm with rfl|hm
       · exact ih.up _ h
       · exact ih.all m hm
     · rcases ih.old b hb with h|⟨h1,h2⟩
       · exact .inl h
       · exact .inr ⟨List.mem_cons_of_mem _ h1,h2⟩
   · have e:visit x n=(fun j=>if j=n then true else x.1 j,x.2++[n]):=by unfold visit;rw[if_neg h]
     rw[e] at ih⊢
     refine ⟨fun b hb=>ih.up b ?_,fun m hm=>?_,fun b hb=>?_,fun b hb=>ih.sub b (by simp[hb]),fun b hb=>?_⟩
     · show (if b=n then true else x.1 b)=true
       split
       · rfl
       · exact hb
     · rcases List.mem_cons.1 hm with rfl|hm
       · exact ih.up m (by simp)
       · exact ih.all m hm
     · rcases ih.old b hb with g|⟨h1,h2⟩
       · simp only at g
         split at g
         · rename_i e;subst e;exact .inr ⟨by simp,ih.sub _ (by simp)⟩
         · exact .inl g
       · exact .inr ⟨List.mem_cons_of_mem _ h1,h2⟩
     · rcases ih.new b hb with g|g
       · simp only[List.mem_append,List.mem_singleton] at g
         rcases g with g|rfl
         · exact .inl g
         · exact .inr (by simp)
       · exact .inr (List.mem_cons_of_mem _ g)
theorem visit_size (m:Nat):∀(l:List Nat) (x:(Nat→Bool)×List Nat),(∀n∈l,n<m)→unmet (l.foldl visit x).1 m+(l.foldl visit x).2.length=unmet x.1 m+x.2.length
 | [],x,_=>rfl
 | n::l,x,h=>by
   rw[List.foldl_cons,visit_size m l _ (fun k hk=>h k (List.mem_cons_of_mem _ hk))]
   unfold visit
   split
   · rfl
   · rename_i g
     have hn:=h n List.mem_cons_self
     have:=unmet_up (S:=x.1) (n:=n) (by simpa using g) m
     rw[if_pos hn] at this
     simp only[List.length_append,List.length_cons,List.length_nil]
     omega
structure RInv (F:GFun) (S:Nat→Bool) (T:List Nat):Prop where
 z:S 0=true
 r:∀b,S b=true→Reach F b∧b<F.bn
 t:∀b∈T,S b=true
 c:∀b,S b=true→b∈T∨∀n∈leadsN F b,S n=true
 m:unmet S F.bn+T.length≤F.bn
theorem rinv_first (F:GFun) (h:0<F.bn):RInv F (fun j=>decide (j=0)) [0]:=by
 refine ⟨by simp,fun b hb=>?_,fun b hb=>by simpa using hb,fun b hb=>?_,?_⟩
 · have:b=0:=of_decide_eq_true hb
   subst this;exact ⟨.zero,h⟩
 · have:b=0:=of_decide_eq_true hb
   subst this;exact .inl (by simp)
 · have:=unmet_up (S:=fun _=>false) (n:=0) rfl F.bn
   rw[if_pos h] at this
   have e:unmet (fun j=>decide (j=0)) F.bn=unmet (fun j=>if j=0 then true else false) F.bn:=by
    congr 1
   have h2:=unmet_le (fun _=>false) F.bn
   rw[e]
   simp only[List.length_cons,List.length_nil]
   omega
theorem rinv_step {F:GFun} {S:Nat→Bool} {b:Nat} {T:List Nat} (h:RInv F S (b::T)) (hl:∀n∈leadsN F b,n<F.bn):RInv F ((leadsN F b).foldl visit (S,T)).1 ((leadsN F b).foldl visit (S,T)).2:=by
 have hv:=visit_all (leadsN F b) (S,T)
 have hs:=visit_size F.bn (leadsN F b) (S,T) hl
 refine ⟨hv.up 0 h.z,fun n hn=>?_,fun n hn=>?_,fun n hn=>?_,?_⟩
 · rcases hv.old n hn with g|⟨g,_⟩
   · exact h.r n g
   · exact ⟨.step (h.r b (h.t b List.mem_cons_self)).1 g,hl n g⟩
 · rcases hv.new n hn with g|g
   · exact hv.up n (h.t n (List.mem_cons_of_mem _ g))
   · exact hv.all n g
 · rcases hv.old n hn with g|⟨_,g⟩
   · rcases h.c n g with g|g
     · rcases List.mem_cons.1 g with rfl|g
       · exact .inr hv.all
       · exact .inl (hv.sub n g)
     · exact .inr fun k hk=>hv.up k (g k hk)
   · exact .inl g
 · have:=h.m
   simp only[List.length_cons] at this
   simp only at hs
   omega
theorem rinv_end {F : GFun} {S : Nat → Bool} (h : RInv F S []) (b : Nat) : S b = true ↔ Reach F b := by
  refine ⟨fun hb => (h.r b hb).1, fun hb => ?_⟩
  induction hb with
  | zero => exact h.z
  | step _ hn ih => rcases h.c _ ih with g | g
                    · simp at g
                    · exact g _ hn
open Classical in
noncomputable def reachB (F:GFun) (b:Nat):Bool:=decide (Reach F b)
theorem reachB_iff {F:GFun} {b:Nat}:reachB F b=true↔Reach F b:=by unfold reachB;simp
theorem rinv_eq {F:GFun} {S:Nat→Bool} (h:RInv F S []) (b:Nat):S b=reachB F b:=by
 have h1:=rinv_end h b
 have h2:=reachB_iff (F:=F) (b:=b)
 cases hs:S b<;>cases hr:reachB F b<;>simp_all
theorem Reach.lt {F:GFun} (hO:F.Ok) (hp:0<F.bn) {b:Nat} (h:Reach F b):b<F.bn:=by
 induction h with
 | zero=>exact hp
 | @step b n _ hn ih=>
   obtain ⟨m,hm,rfl⟩:=List.mem_map.1 hn
   have:=hO.lead ih m hm
   omega
end Go.Proofs.YtaafofmfbcnaaaaGreat
