/- Lemmas. No condition. -/
import Derived.Test.YtemnfncbgalljabM2
import Derived.Laws.OwnMore
import Derived.Laws.MakeOwn
import Derived.OrdersHeld
namespace Go.Proofs.Ytemnfncbgalljab
open Go.RowKit
set_option linter.all false
section
variable {P:Program} {w:World}
theorem OwnR.len {w:World} {es n:Nat} {v:Value} {xs:List Value} (h:OwnR w es v n xs):∃a c,v=.slice a n c:=h.form
theorem OwnR.cell {es n:Nat} {g o cap:Nat} {xs:List Value} (h:OwnR w es (.slice (some ⟨g,o,none⟩) n cap) n xs) {j:Nat} {u:Value} (hj:xs[j]? =some u):w.cell? ⟨g,o+j,none⟩=some u:=by
 rcases h.2.2 with ⟨hn,_⟩|⟨g',o',cap',cur,ty,hv,hg,hnc,hcm,hcs,ht⟩
 · cases hn
 · cases hv
   rw[cell_of_row w g (o+j) cur ty (0,0) hg]
   rw[<-ht] at hj
   simp only[List.getElem?_take,List.getElem?_drop] at hj
   split at hj
   · simpa using hj
   · cases hj
theorem OwnR.new (w:World) (es n c:Nat) (xs:List Value) (cur:Array Value) (ty:TypeId) (hl:xs.length=n * es) (h1:∀u∈xs,u.oneCell'=true) (hn:n<=c) (hc:c<=maxLen) (hs:c * es<=cur.size) (ht:cur.toList.take (n * es)=xs):
 OwnR (w.alloc (.cells cur ty)) es (.slice (some ⟨w.heap.size,0,none⟩) n c) n xs:=
 ⟨hl,h1,.inr ⟨w.heap.size,0,c,cur,ty,rfl,heap_alloc_new w _,hn,hc,by omega,by simpa using ht⟩⟩
def Qb0 (w:World) (es:Nat) (u:Value) (m:Nat) (news:List Value):Prop:=
 news.length=m * es/\(∀x∈news,x.oneCell'=true)/\(((∃c,u=.slice none 0 c)/\m=0)\/∃a c,u=.slice (some a) m c/\∀j x,news[j]? =some x->w.cell? (a.add j)=some x)
theorem OwnR.src {es n:Nat} {v:Value} {xs:List Value} (h:OwnR w es v n xs):Qb0 w es v n xs:=by
 refine ⟨h.1,h.2.1,?_⟩
 rcases h.2.2 with ⟨rfl,rfl⟩|⟨g,o,cap,cur,ty,rfl,_⟩
 · exact .inl ⟨⟨_,rfl⟩,rfl⟩
 · exact .inr ⟨_,_,rfl,fun j x hj=>by rw[Addr.add_mid];exact h.cell hj⟩
theorem Qqr (t ty e:TypeId) (i:TypeInfo) (z:Value) (es:Nat) (ht:P.underlying t=some (.slice e)) (hi:P.info? e=some i) (hz:i.zero=some z) (hsize:i.size=es) (hzs:z.cells.size=es) (hes:0<es) (hby:i.bytes<=65536)
 (v u:Value) (n m:Nat) (xs news:List Value) (h:OwnR w es v n xs) (hs:Qb0 w es u m news) (hb:n+m<=1073741824):
 ∃v' w',(Builtin.append_ #[t,t] ty #[v,u]).run P w=.ok v' w'/\OwnR w' es v' (n+m) (xs++news)/\w.grownBy w' v.ownBlock/\(∀g,v'.ownBlock=some g->g<w'.heap.size/\(w.heap.size<=g\/v.ownBlock=some g)):=by
 subst hsize
 obtain ⟨hl,h1,hs⟩:=hs
 have hlen:(xs++news).length=(n+m) * i.size:=by rw[List.length_append,h.1,hl,Nat.add_mul]
 have hone:∀x∈xs++news,x.oneCell'=true:=fun x hx=>by
  rcases List.mem_append.1 hx with hx|hx
  · exact h.2.1 x hx
  · exact h1 x hx
 have hsmall:n+m<=maxLen:=by simp only[maxLen];omega
 have hbytes:(n+m) * i.bytes<=140737488355328:=by
  have:(n+m) * i.bytes<=1073741824 * 65536:=Nat.mul_le_mul hb hby
  omega
 have grown:∀(old:Nat) (cur:List Value),cur.length=n * i.size->cur=xs->∀(row:Option Nat),
  OwnR (w.drew.alloc (.cells (cur.toArray++news.toArray++Builtin.zeroCells z.cells (grownCap w (n+m) old e - (n+m))) e)) i.size (.slice (some ⟨w.heap.size,0,none⟩) (n+m) (grownCap w (n+m) old e)) (n+m) (xs++news)/\
  w.grownBy (w.drew.alloc (.cells (cur.toArray++news.toArray++Builtin.zeroCells z.cells (grownCap w (n+m) old e - (n+m))) e)) row:=by
  intro old cur hcl hcx row
  subst hcx
  have hge:=grownCap_ge w (n+m) old e
  have hcm:grownCap w (n+m) old e<=maxLen:=grownCap_le_maxLen w (n+m) old e hsmall
  refine ⟨OwnR.new w.drew i.size (n+m) _ _ _ e hlen hone hge hcm ?_ ?_,⟨rfl,rfl,rfl,by simp,fun k hk _=>heap_alloc_old w.drew _ hk⟩⟩
  · simp only[Array.size_append,List.size_toArray,size_zeroCells,hzs,h.1,hl,<-Nat.add_mul]
    refine Nat.mul_le_mul_right _ ?_
    omega
  · simp only[Array.toList_append,List.append_assoc]
    rw[<-List.append_assoc,<-hlen]
    exact List.take_left
 have gsz:∀o:Obj,(w.drew.alloc o).heap.size=w.heap.size+1:=fun o=>by simp
 rcases hs with ⟨⟨cu,rfl⟩,rfl⟩|⟨a,c,rfl,hcell⟩
 · obtain rfl:news=[]:=List.eq_nil_of_length_eq_zero (by simpa using hl)
   refine ⟨v,w,?_,by simpa using h,⟨rfl,rfl,rfl,Nat.le_refl _,fun _ _ _=>rfl⟩,fun g hg=>?_⟩
   · rcases h.2.2 with ⟨rfl,rfl⟩|⟨g,o,cap,cur,ty',rfl,_,hnc,_⟩
     · simp[Builtin.append_,run_underlying ht,sizeOf,typeInfo,hi,Builtin.lenOf,Builtin.firstCells]
     · simp[Builtin.append_,run_underlying ht,sizeOf,typeInfo,hi,Builtin.lenOf,Builtin.firstCells,hnc,storeCells]
   · rcases h.2.2 with ⟨rfl,rfl⟩|⟨g',o,cap,cur,ty',rfl,hg',_⟩
     · simp[Value.ownBlock] at hg
     · simp only[Value.ownBlock,Option.some.injEq] at hg
       subst hg
       exact ⟨(Array.getElem?_eq_some_iff.1 hg').1,.inr rfl⟩
 · rcases h.2.2 with ⟨rfl,rfl⟩|⟨g,o,cap,cur,ty',rfl,hg,hnc,hcm,hcs,htk⟩
   · have hx:xs=[]:=List.eq_nil_of_length_eq_zero (by simpa using h.1)
     subst hx
     by_cases hm:m=0
     · subst hm
       have hn:news=[]:=List.eq_nil_of_length_eq_zero (by simpa using hl)
       subst hn
       refine ⟨.slice none 0 0,w,?_,⟨by simp,by simp,.inl ⟨rfl,rfl⟩⟩,⟨rfl,rfl,rfl,Nat.le_refl _,fun _ _ _=>rfl⟩,fun g hg=>by simp[Value.ownBlock] at hg⟩
       simp[Builtin.append_,run_underlying ht,sizeOf,typeInfo,hi,Builtin.lenOf,Builtin.firstCells,loadCells,loadCellsFrom]
     · have hr:=run_append_nil (P:=P) w t ty e i z ht hi hz a m c news hl hcell o9 o9 (by have hb:=hbytes;simp only[Nat.zero_add] at hb;omega)
       have hgr:=grown 0 [] (by simp) rfl (Value.ownBlock (.slice none 0 0))
       simp only[Nat.zero_add,List.nil_append,Array.empty_append] at hgr⊢
       exact ⟨_,_,hr,hgr.1,hgr.2,fun g hg=>by
        simp only[Value.ownBlock,Option.some.injEq] at hg
        rw[gsz]
        exact ⟨by omega,.inl o9⟩⟩
   · by_cases hroom:n+m<=cap
     · have hfc:=run_firstCells_some (P:=P) w i.size m a m c news hl hcell
       have hfit:o+n * i.size+news.length<=cur.size:=by
        have:(n+m) * i.size<=cap * i.size:=Nat.mul_le_mul_right _ hroom
        rw[Nat.add_mul] at this
        omega
       obtain ⟨w',e1,e2,e3,e4,e5,e6,e7⟩:=Qvb (P:=P) news 0 w g (o+n * i.size) cur ty' hg (by simpa using hfit) h1
       refine ⟨.slice (some ⟨g,o,none⟩) (n+m) cap,w',?_,⟨hlen,hone,.inr ⟨g,o,cap,_,ty',rfl,e2,hroom,hcm,by simp[Qjb];omega,?_⟩⟩,⟨e5,e6,e7,by omega,fun k _ hk=>e3 k (fun hh=>hk (by simp[Value.ownBlock,hh]))⟩,fun g' hg'=>?_⟩
       · simp[Builtin.append_,run_underlying ht,sizeOf,typeInfo,hi,Builtin.lenOf,hroom,hfc,Q5c,e1]
       · apply List.ext_getElem?
         intro j
         simp only[List.getElem?_take,List.getElem?_drop]
         have hx:∀j,j<n * i.size->cur.toList[o+j]? =xs[j]? :=fun j hj=>by
          rw[<-htk]
          simp only[List.getElem?_take,List.getElem?_drop,if_pos hj]
         have hxl:=h.1
         split
         · rename_i hj
           rw[Q9a _ _ _ _ (by simpa using hfit)]
           by_cases g1:j<n * i.size
           · rw[if_pos o9,hx j g1,List.getElem?_append_left o9]
           · rw[if_neg o9,if_pos (by rw[hl];rw[Nat.add_mul] at hj;omega),List.getElem?_append_right o9]
             congr 1
             omega
         · rename_i hj
           rw[List.getElem?_eq_none o9]
       · simp only[Value.ownBlock,Option.some.injEq] at hg'
         subst hg'
         rw[e4]
         exact ⟨(Array.getElem?_eq_some_iff.1 hg).1,.inr rfl⟩
     · have holds:∀j u,xs[j]? =some u->w.cell? ((⟨g,o,none⟩:Addr).add j)=some u:=fun j u hj=>by rw[Addr.add_mid];exact h.cell hj
       have hr:=run_append_grow (P:=P) w t ty e i z ht hi hz ⟨g,o,none⟩ n cap xs h.1 holds a m c news hl hcell o9 (by simp only[maxLen] at hsmall;omega) (growslice_fits o9 hbytes)
       have hgr:=grown cap xs h.1 rfl (Value.ownBlock (.slice (some ⟨g,o,none⟩) n cap))
       exact ⟨_,_,hr,hgr.1,hgr.2,fun g' hg'=>by
        simp only[Value.ownBlock,Option.some.injEq] at hg'
        rw[gsz]
        exact ⟨by omega,.inl o9⟩⟩
theorem Q3y {e:Env} {z:List SC} {zs:List Value} (h:isL e z zs):∀n,isL e (Qpo n z) (Qpo n zs)
 | 0=>trivial
 | n+1=>Qdm h (Q3y h n)
theorem Qfe {α:Type} (l:List α):∀n,(Qpo n l).length=n * l.length
 | 0=>by simp[Qpo]
 | n+1=>by simp[Qpo,Qfe l n,Nat.succ_mul,Nat.add_comm]
theorem Qfk {α:Type} (l:List α) (hl:0<l.length):∀(n j:Nat),j<n * l.length->(Qpo n l)[j]? =l[j % l.length]?
 | 0,j,h=>by simp at h
 | n+1,j,h=>by
   rw[Nat.succ_mul] at h
   simp only[Qpo]
   by_cases g:j<l.length
   · rw[List.getElem?_append_left g,Nat.mod_eq_of_lt g]
   · have:j % l.length=(j - l.length) % l.length:=Nat.mod_eq_sub_mod o9
     rw[List.getElem?_append_right o9,Qfk l hl n (j - l.length) o9,this]
theorem Q4j (z:Array Value) (es:Nat) (hz:z.size=es) (hes:0<es) (n:Nat):(madeCells z (n * es)).toList=Qpo n z.toList:=by
 apply List.ext_getElem?
 intro q
 by_cases g:q<n * es
 · rw[Qfk _ (by simp;omega) _ _ (by simpa [hz] using g)]
   have hm:q % z.size<z.size:=Nat.mod_lt _ o9
   simp[madeCells,g,hm]
 · rw[List.getElem?_eq_none (by simp[madeCells];omega),List.getElem?_eq_none (by simp[Qfe,hz];omega)]
theorem Qv1 {α:Type} (l:List α) {es:Nat} (hl:l.length=es) (hes:0<es) {n j:Nat} (hj:j<n):((Qpo n l).drop (j * es)).take es=l:=by
 apply List.ext_getElem?
 intro q
 simp only[List.getElem?_take,List.getElem?_drop]
 split
 · rename_i hq
   have:j * es+q<n * l.length:=by
    have:(j+1) * es<=n * es:=Nat.mul_le_mul_right _ hj
    rw[hl];rw[Nat.succ_mul] at this;omega
   rw[Qfk l o9 n _ this,hl]
   congr 1
   rw[Nat.mul_comm,Nat.mul_add_mod]
   exact Nat.mod_eq_of_lt hq
 · rename_i hq
   rw[List.getElem?_eq_none o9]
theorem Qpy (t e:TypeId) (i:TypeInfo) (z:Value) (es:Nat) (ht:P.underlying t=some (.slice e)) (hi:P.info? e=some i) (hz:i.zero=some z) (hsize:i.size=es) (hzs:z.cells.size=es) (hes:0<es) (hby:i.bytes<=65536) (h1:∀u∈z.cells.toList,u.oneCell'=true)
 (kl kc:IntKind) (x:Int) (h0:0<=x) (hb:x<=1073741824):
 ∃w',(Instr.makeSlice t (.int kl x) (.int kc x)).run P w=.ok (.slice (some ⟨w.heap.size,0,none⟩) x.toNat x.toNat) w'/\OwnR w' es (.slice (some ⟨w.heap.size,0,none⟩) x.toNat x.toNat) x.toNat (Qpo x.toNat z.cells.toList)/\w.grownBy w' none/\w'.heap.size=w.heap.size+1:=by
 subst hsize
 have hbytes:(i.bytes:Int) * x<=281474976710656:=by
  have:(i.bytes:Int) * x<=65536 * 1073741824:=by
   have h2:(i.bytes:Int)<=65536:=by omega
   calc (i.bytes:Int) * x<=65536 * x:=Int.mul_le_mul_of_nonneg_right h2 h0
    _<=65536 * 1073741824:=Int.mul_le_mul_of_nonneg_left hb o9
  omega
 have hr:=run_make (P:=P) (w:=w) t e i z ht hi hz kl kc x x h0 (Int.le_refl _) hbytes o9
 have hm:=Q4j z.cells i.size hzs hes x.toNat
 refine ⟨_,hr,OwnR.new w i.size x.toNat x.toNat _ _ e (by simp[Qfe,hzs]) ?_ (Nat.le_refl _) (by simp only[maxLen];omega) ?_ ?_,World.grownBy_alloc w _ none,by simp⟩
 · intro u hu
   have:∀n,u∈Qpo n z.cells.toList->u∈z.cells.toList:=by
    intro n
    induction n with
    | zero=>intro h;simp[Qpo] at h
    | succ n ih=>
      intro h
      simp only[Qpo,List.mem_append] at h
      rcases h with h|h
      · exact h
      · exact ih h
   exact h1 u (this _ hu)
 · simp[madeCells]
 · rw[hm]
   have:(Qpo x.toNat z.cells.toList).length=x.toNat * i.size:=by simp[Qfe,hzs]
   rw[<-this]
   exact List.take_length
theorem OwnR.cut {es n:Nat} {a:Option Addr} {c:Nat} {xs:List Value} (h:OwnR w es (.slice a n c) n xs) {l:Nat} (hl:l<=n):OwnR w es (.slice (if c=l then a else a.map (·.add (l * es))) (n - l) (c - l)) (n - l) (xs.drop (l * es)):=by
 refine ⟨by rw[List.length_drop,h.1,Nat.sub_mul],fun u hu=>h.2.1 u (List.mem_of_mem_drop hu),?_⟩
 rcases h.2.2 with ⟨hv,rfl⟩|⟨g,o,cap,cur,ty,hv,hg,hnc,hcm,hcs,ht⟩
 · cases hv
   refine .inl ⟨?_,by omega⟩
   simp
 · cases hv
   by_cases hcl:c=l
   · have hnl:n=l:=by omega
     refine .inr ⟨g,o,0,cur,ty,?_,hg,by omega,by simp[maxLen],by simp at hcs⊢;omega,?_⟩
     · rw[if_pos hcl];simp[hcl]
     · subst hnl
       have:=h.1
       have hd:xs.drop (n * es)=[]:=List.drop_of_length_le o9
       rw[hd]
       simp
   · have hle:l * es+(c - l) * es=c * es:=by rw[<-Nat.add_mul];congr 1;omega
     refine .inr ⟨g,o+l * es,c - l,cur,ty,?_,hg,by omega,by omega,by omega,?_⟩
     · rw[if_neg hcl];simp[Q5c]
     · rw[<-ht,List.drop_take,List.drop_drop,Nat.sub_mul]
theorem Q2u {es n:Nat} {g o c:Nat} {xs:List Value} (h:OwnR w es (.slice (some ⟨g,o,none⟩) n c) n xs) {j p:Nat} {vs:List Value} (hj:j<n) (hp:p+vs.length<=es) (h1:∀u∈vs,u.oneCell'=true):
 ∃w',(storeCells ⟨g,o+(j * es+p),none⟩ vs 0).run P w=.ok () w'/\OwnR w' es (.slice (some ⟨g,o,none⟩) n c) n (Qka xs (j * es+p) vs)/\w.grownBy w' (some g)/\w'.heap.size=w.heap.size:=by
 rcases h.2.2 with ⟨hn,_⟩|⟨g',o',cap',cur,ty,hv,hg,hnc,hcm,hcs,ht⟩
 · cases hn
 · cases hv
   have hje:(j+1) * es<=n * es:=Nat.mul_le_mul_right _ hj
   have hne:n * es<=c * es:=Nat.mul_le_mul_right _ hnc
   rw[Nat.succ_mul] at hje
   have hxl:=h.1
   obtain ⟨w',e1,e2,e3,e4,e5,e6,e7⟩:=Qvb (P:=P) vs 0 w g (o+(j * es+p)) cur ty hg o9 h1
   refine ⟨w',e1,⟨by rw[Qjb,hxl],?_,.inr ⟨g,o,c,_,ty,rfl,e2,hnc,hcm,by simp[Qjb];omega,?_⟩⟩,⟨e5,e6,e7,by omega,fun k _ hk=>e3 k (fun hh=>hk (by rw[hh]))⟩,e4⟩
   · intro u hu
     obtain ⟨q,hq⟩:=List.mem_iff_getElem?.1 hu
     rw[Q9a _ _ _ _ o9] at hq
     split at hq
     · exact h.2.1 u (List.mem_iff_getElem?.2 ⟨_,hq⟩)
     · split at hq
       · exact h1 u (List.mem_iff_getElem?.2 ⟨_,hq⟩)
       · exact h.2.1 u (List.mem_iff_getElem?.2 ⟨_,hq⟩)
   · have hx:∀q,q<n * es->cur.toList[o+q]? =xs[q]? :=fun q hq=>by
      rw[<-ht]
      simp only[List.getElem?_take,List.getElem?_drop,if_pos hq]
     apply List.ext_getElem?
     intro q
     simp only[List.getElem?_take,List.getElem?_drop]
     split
     · rename_i hq
       rw[Q9a _ _ _ _ (by simp;omega),Q9a _ _ _ _ o9]
       by_cases g1:q<j * es+p
       · rw[if_pos o9,if_pos g1,hx q hq]
       · rw[if_neg o9,if_neg g1]
         by_cases g2:q<j * es+p+vs.length
         · rw[if_pos o9,if_pos g2]
           congr 1
           omega
         · rw[if_neg o9,if_neg g2,hx q hq]
     · rename_i hq
       rw[List.getElem?_eq_none (by rw[Qjb];omega)]
end
section
variable {P:Program} {w:World} {w0:Base} {T:Tb} {e:Env} {st:St} {a:Act} {s:List Act}
def Qqv (e:Env) (st:St) (w:World) (q:Nat) (R:ORow) (x:SV) (lost:Option Nat) (v:Value) (w':World):Prop:=
 ∃(sv:Value) (xs:List Value) (B:Option Nat),x.is (if q<st.r.length then e.putS q sv else e.addS sv) v/\OwnR w' R.es sv R.n xs/\Q3c e.chi R xs/\w.grownBy w' B/\
  (∀g,B=some g->Qdd e st q g\/∃k,lost=some k/\Qhd e st k g)/\(∀g,sv.ownBlock=some g->g<w'.heap.size/\(w.heap.size<=g\/Qdd e st q g\/∃k,lost=some k/\Qhd e st k g))/\q<=st.r.length/\(q<st.r.length->lost=none)
def Qkk (P:Program) (e:Env) (st:St) (w:World):OpR->Result Next->Prop
 | .v x,res=>∃v,x.is e v/\res=.ok (.value v) w
 | .nb cs x,res=>∃vs t v,isL e cs (Array.toList vs)/\res=.ok (.value v) (w.alloc (.cells vs t))/\x.is (e.more w.heap.size) v
 | .st k p cs,res=>∃b w' vs old t,e.rho[k]? =some b/\res=.ok .skip w'/\isL e cs vs/\w.heap[b]? =some (.cells old t (0,0))/\w'.heap[b]? =some (.cells (Qka (Array.toList old) p vs).toArray t (0,0))/\
    (∀j,j≠b->w'.heap[j]? =w.heap[j]?)/\w'.heap.size=w.heap.size/\w'.os=w.os/\w'.tape=w.tape/\w'.output=w.output
 | .call f args,res=>∃vs:List Value,isV e args vs/\res=(callFunc f vs.toArray).run P w
 | .need i n x,res=>0<=i->i<n->∃v,x.is e v/\res=.ok (.value v) w
 | .ask k o cs,res=>∀c:SC,cs[o]? =some c->∃v,c.is e v/\res=.ok (.value v) w
 | .askS k o cs x,res=>o<cs.length->∃b w' vs old t,e.rho[k]? =some b/\res=.ok .skip w'/\isL e [x] vs/\w.heap[b]? =some (.cells old t (0,0))/\w'.heap[b]? =some (.cells (Qka (Array.toList old) o vs).toArray t (0,0))/\
    (∀j,j≠b->w'.heap[j]? =w.heap[j]?)/\w'.heap.size=w.heap.size/\w'.os=w.os/\w'.tape=w.tape/\w'.output=w.output
 | .row q R x lost ob,res=>ob->∃v w',res=.ok (.value v) w'/\Qqv e st w q R x lost v w'
 | .rst q R,res=>∃w' sv xs g,res=.ok .skip w'/\e.sg[q]? =some sv/\sv.ownBlock=some g/\Qdd e st q g/\OwnR w' R.es sv R.n xs/\Q3c e.chi R xs/\w.grownBy w' (some g)/\w'.heap.size=w.heap.size
 | .no,_=>True
theorem Qgc {k:IntKind} {x:Int} {v:Value} (h:(SV.pt (.one (.int k x))).is e v):v=.int k x:=h
theorem Q2n {b:Bool} {v:Value} (h:(SV.pt (.one (.bool b))).is e v):v=.bool b:=h
theorem Qbl {b:Bool} {v:Value} (h:(SV.pt (.one (.lit b))).is e v):v=.bool b:=h
theorem Qls {e:Env} {c:SC} {v:Value} (hf:c.free=true) (h:c.is e v):c.is ⟨[],e.chi,[]⟩ v:=by
 cases c<;>first|exact h|(simp[SC.free] at hf)
theorem Qxe {e:Env}:∀{l:List SC} {vs:List Value},Qsk l=true->isL e l vs->isL ⟨[],e.chi,[]⟩ l vs
 | [],[],_,_=>trivial
 | c::l,v::vs,hf,h=>by
   simp only[Qsk,Bool.and_eq_true] at hf
   exact ⟨Qls hf.1 h.1,Qxe hf.2 h.2⟩
 | [],_::_,_,h=>h.elim
 | _::_,[],_,h=>h.elim
theorem Qky {c x y:Operand} (tm:isV e st.t a.tmps.toList) (o:Oper) (ho:o.op=.pick c x y):Qkk P e st w (opE T e.chi st o.op) ((execOp a.eval o).run P w):=by
 rw[ho]
 simp only[opE]
 split
 · rename_i d hd
   have hc:=Qab tm c
   rw[hd] at hc
   unfold Qh1
   split
   · refine ⟨_,Qab tm x,?_⟩
     have:=Qbl hc
     simp[execOp,ho,this,asBool]
   · refine ⟨_,Qab tm y,?_⟩
     have:=Qbl hc
     simp[execOp,ho,this,asBool]
   · trivial
 · trivial
theorem Qa1 {t:Nat} (hT:TOk P T) (F:Fit e w0 st a s w) (o:Oper) (ho:o.op=.alloc t):Qkk P e st w (opE T e.chi st o.op) ((execOp a.eval o).run P w):=by
 rw[ho]
 simp only[opE]
 split
 · rename_i y hy
   obtain ⟨z,hz,hl⟩:=Q01 (Q8a (hT.ty t y hy)) e
   refine ⟨z.cells,t,.pointer (some ⟨w.heap.size,0,none⟩),hl,?_,?_⟩
   · simp[execOp,ho,Instr.alloc,hz,newVar,newRow]
   · exact ⟨w.heap.size,by simp[Env.more,<-F.len],rfl⟩
 · trivial
theorem Qk8 {t:Nat} {x:Operand} (F:Fit e w0 st a s w) (o:Oper) (ho:o.op=.box t x):Qkk P e st w (opE T e.chi st o.op) ((execOp a.eval o).run P w):=by
 rw[ho]
 simp only[opE]
 split
 · rename_i cs hc
   obtain ⟨hl,_⟩:=SV.cells_is (Qab F.tm x) hc
   refine ⟨(a.eval x).cells,t,.pointer (some ⟨w.heap.size,0,none⟩),hl,?_,?_⟩
   · simp[execOp,ho,Instr.box,newVar,newRow]
   · exact ⟨w.heap.size,by simp[Env.more,<-F.len],rfl⟩
 · trivial
theorem Qrk:∀{fs:List Field} {l:List (Nat×Nat×Bool)},Qwd P fs l=true->fs.mapM (fun f=>(P.info? f.type).map fun i=>(f.offset,i.size))=some (l.map fun p=>(p.1,p.2.1))
 | [],[],_=>rfl
 | f::fs,(o,n,g)::l,h=>by
   simp only[Qwd,Bool.and_eq_true,beq_iff_eq] at h
   obtain ⟨i,d,h1,_,h3,_⟩:=Qac h.1.2
   rw[List.mapM_cons,Qrk h.2]
   simp[h1,h3,h.1.1]
 | [],_::_,h=>by simp[Qwd] at h
 | _::_,[],h=>by simp[Qwd] at h
theorem Qhl {es:Nat} {ea:Bool}:∀(n o j:Nat) (p:Nat×Nat×Bool),(Qco es ea n o)[j]? =some p->p=(o+j * es,es,ea)
 | 0,o,j,p,h=>by simp[Qco] at h
 | n+1,o,0,p,h=>by simp[Qco] at h;simp[<-h]
 | n+1,o,j+1,p,h=>by
   simp[Qco] at h
   have:=Qhl n (o+es) j p h
   rw[this,Nat.succ_mul]
   simp;omega
theorem Qit {t:Nat} {ps:Array (Nat×Operand)} (hT:TOk P T) (tm:isV e st.t a.tmps.toList) (o:Oper) (ho:o.op=.build t ps):Qkk P e st w (opE T e.chi st o.op) ((execOp a.eval o).run P w):=by
 rw[ho]
 simp only[opE]
 split
 · rename_i s z fs cmp hy
   split
   · rename_i cs hc
     obtain ⟨i,d,zv,h1,h2,h3,h4,h5,h6,h7,fl,rfl,h8⟩:=(Q8a (hT.ty t _ hy)).ex
     obtain ⟨vs,hv,hl⟩:=Q8m tm (fs:=fs) (place:=fun j=>(fs.map fun p=>(p.1,p.2.1)).toArray[j]?) (fun j o n g hj=>by simp[hj]) ps.toList z cs zv.cells (Qdg e h7) hc
     refine ⟨.agg vs,⟨vs,rfl,hl⟩,?_⟩
     have hb:P.built t (ps.toList.map fun p=>(p.1,a.eval p.2))=some vs:=by
      simp only[Program.built,h1,h2,h6,Qrk h8]
      exact hv
     have:=run_build (P:=P) w t (ps.map fun (p:Nat×Operand)=>(p.1,a.eval p.2)) vs (by simpa using hb)
     simp[execOp,ho,this]
   · trivial
 · rename_i n es ea z hy
   split
   · rename_i cs hc
     obtain ⟨i,d,zv,h1,h2,h3,h4,h5,h6,h7,el,rfl,h8⟩:=(Q8a (hT.ty t _ hy)).ex
     obtain ⟨i',d',k1,k2,k3,k4,k5,k6⟩:=Qac h8
     obtain ⟨vs,hv,hl⟩:=Q8m tm (fs:=Qco es ea n 0) (place:=fun q=>some (q * es,es)) (fun q o m g hq=>by
      have:=Qhl n 0 q _ hq
      simp only[Prod.mk.injEq,Nat.zero_add] at this
      rw[this.1,this.2.1]) ps.toList z cs zv.cells (Qdg e h7) hc
     refine ⟨.agg vs,⟨vs,rfl,hl⟩,?_⟩
     have hb:P.built t (ps.toList.map fun p=>(p.1,a.eval p.2))=some vs:=by
      simp only[Program.built,h1,h2,h6,k1,k3]
      exact hv
     have:=run_build (P:=P) w t (ps.map fun (p:Nat×Operand)=>(p.1,a.eval p.2)) vs (by simpa using hb)
     simp[execOp,ho,this]
   · trivial
 · trivial
theorem Q1n {t n:Nat} {ps:Array (Nat×Operand)} (hT:TOk P T) (F:Fit e w0 st a s w) (o:Oper) (ho:o.op=.buildSlice t n ps):Qkk P e st w (opE T e.chi st o.op) ((execOp a.eval o).run P w):=by
 rw[ho]
 simp only[opE]
 split
 · rename_i es ea z hy
   split
   · rename_i hbig
     split
     · rename_i cs hc
       obtain ⟨i,d,zv,h1,h2,h3,h4,h5,h6,h7,el,j,u,rfl,h8,h9,h10,h11,h12,_⟩:=(Q8a (hT.ty t _ hy)).ex
       obtain ⟨i',d',k1,k2,k3,k4,k5,k6⟩:=Qac h8
       rw[h9] at k1
       cases k1
       have hz:=Qdg e h11
       have hzl:=Qza hz
       simp only[Array.length_toList] at hzl
       have hus:u.cells.size=es:=by omega
       have hrow:isL e (Qpo n z) ((Array.range (n * es)).map fun q=>u.cells[q % u.cells.size]!).toList:=by
        have h0:=Q3y hz n
        have:((Array.range (n * es)).map fun q=>u.cells[q % u.cells.size]!).toList=Qpo n u.cells.toList:=by
         apply List.ext_getElem?
         intro q
         by_cases g:q<n * es
         · rw[Qfk _ (by simp;omega) _ _ (by simp[hus];exact g)]
           simp only[Array.toList_map,Array.toList_range,List.getElem?_map,List.getElem?_range g,Option.map_some,Array.length_toList]
           have hm:q % u.cells.size<u.cells.size:=Nat.mod_lt _ o9
           simp[hm]
         · rw[List.getElem?_eq_none (by simp;omega),List.getElem?_eq_none (by simp[Qfe,hus];omega)]
        rw[this];exact h0
       obtain ⟨vs,hv,hl⟩:=Q8m F.tm (fs:=Qco es ea n 0) (place:=fun q=>some (q * es,es)) (fun q o m g hq=>by
        have:=Qhl n 0 q _ hq
        simp only[Prod.mk.injEq,Nat.zero_add] at this
        rw[this.1,this.2.1]) ps.toList _ cs _ hrow hc
       refine ⟨vs,el,.slice (some ⟨w.heap.size,0,none⟩) n n,hl,?_,?_⟩
       · have hrun:(Instr.buildSlice t n (ps.map fun (p:Nat×Operand)=>(p.1,a.eval p.2))).run P w=.ok (.slice (some ⟨w.heap.size,0,none⟩) n n) (w.alloc (.cells vs el)):=by
          unfold Instr.buildSlice
          simp only[Sem.run_bind,run_underlying h2,Result.andThen_ok,Qnb h9,k3]
          rw[if_neg o9]
          have hfill:Instr.fill (fun q=>some (q * es,es)) ((Array.range (n * es)).map fun q=>u.cells[q % u.cells.size]!) (ps.map fun (p:Nat×Operand)=>(p.1,a.eval p.2)).toList=some vs:=by simpa using hv
          by_cases g:n * es=0
          · rw[if_pos g]
            have e0:((Array.range (n * es)).map fun q=>(#[]:Array Value)[q % (#[]:Array Value).size]!)=((Array.range (n * es)).map fun q=>u.cells[q % u.cells.size]!):=by simp[g]
            simp only[Sem.run_bind,Sem.run_pure,Result.andThen_ok,e0]
            rw[hfill]
            simp[newRow]
          · rw[if_neg g]
            have hzr:(zeroValue el).run P w=.ok u w:=by simp[zeroValue,typeInfo,h9,h10]
            simp only[Sem.run_bind,hzr,Sem.run_pure,Result.andThen_ok]
            rw[hfill]
            simp[newRow]
         simp[execOp,ho,hrun]
       · exact ⟨w.heap.size,by simp[Env.more,<-F.len],rfl⟩
     · trivial
   · trivial
 · trivial
end
section
variable {P:Program} {w:World} {w0:Base} {T:Tb} {e:Env} {st:St} {a:Act} {s:List Act}
theorem Q8p {b:Nat} {vs:Array Value} {t:TypeId} (hb:w.heap[b]? =some (.cells vs t (0,0))) (o n:Nat) (hn:o+n<=vs.size):∀(j:Nat) (v:Value),((vs.toList.drop o).take n)[j]? =some v->w.cell? ⟨b,o+j,none⟩=some v:=by
 intro j v h
 rw[cell_of_row w b (o+j) vs t (0,0) hb]
 simp only[List.getElem?_take,List.getElem?_drop] at h
 split at h
 · simpa using h
 · cases h
theorem Q7e {α:Type} (l:List α) (o n:Nat) (h:o+n<=l.length):(Qte l o n).length=n:=by
 rw[Qqk];simp;omega
theorem Fit.row_at (F:Fit e w0 st a s w) {q:Nat} {R:ORow} {v:Value} (hq:st.r[q]? =some (some R)) (hs:e.sg[q]? =some v):∃xs,OwnR w R.es v R.n xs/\Q3c e.chi R xs:=by
 obtain ⟨v',xs,h1,h2,h3⟩:=F.rows.row q R hq
 rw[hs] at h1;cases h1
 exact ⟨xs,h2,h3⟩
theorem OwnR.at {es n n':Nat} {g o cap:Nat} {xs:List Value} (h:OwnR w es (.slice (some ⟨g,o,none⟩) n' cap) n xs):n'=n:=by
 rcases h.2.2 with ⟨hn,_⟩|⟨_,_,_,_,_,hv,_⟩
 · cases hn
 · cases hv;rfl
theorem Qjy {t:Nat} {x:Operand} (hT:TOk P T) (F:Fit e w0 st a s w) (o:Oper) (ho:o.op=.load t x):Qkk P e st w (opE T e.chi st o.op) ((execOp a.eval o).run P w):=by
 rw[ho]
 simp only[opE]
 have hx:=Qab F.tm x
 generalize evO st x=X at hx
 unfold Qqp
 split
 · rename_i k q
   obtain ⟨b,hb,hv⟩:=hx
   split
   · rename_i y cs hy hk
     split
     · rename_i hle
       split
       · rename_i r hr
         rw[Qva] at hk
         obtain ⟨vs,u,hw,hl⟩:=F.cells k b cs hb hk
         have hlen:=Qza hl
         simp only[Array.length_toList] at hlen
         obtain ⟨v,h1,h2⟩:=Qrc (w:=w) (Q8a (hT.ty t y hy)) (Qve hl q y.size) (Q7e _ _ _ hle) hr (Q8p hw q y.size o9)
         exact ⟨v,h1,by simp[execOp,ho,hv,h2]⟩
       · trivial
     · trivial
   · trivial
 · rename_i k q
   obtain ⟨b,hb,hv⟩:=hx
   split
   · rename_i _ _ zz cs hy hk
     intro c hc
     rw[Qva] at hk
     obtain ⟨vs,u,hw,hl⟩:=F.cells k b cs hb hk
     obtain ⟨v,hvv,hcv⟩:=Qnn hl hc
     obtain ⟨i,d,zv,h1,h2,h3,h4,h5,_⟩:=(Q8a (hT.ty t _ hy)).ex
     have hcell:w.cell? ⟨b,q,none⟩=some v:=by rw[cell_of_row w b q vs u (0,0) hw];simpa using hvv
     refine ⟨v,hcv,?_⟩
     have hrow:d.isRow=false:=h5
     simp[execOp,ho,hv,Instr.loadAt,Instr.sureAddr,loadVar,Qai h2,hrow,hcell]
   · trivial
 · rename_i q i j p
   obtain ⟨hj,b,r,ha,hv⟩:=hx
   split
   · rename_i y hy
     split
     · rename_i hle
       split
       · rename_i z hz
         obtain ⟨b',r',ha',hlt,hnm,_,_,vs,hl,hc⟩:=F.ext.ok q i j hj
         rw[ha] at ha'
         cases ha'
         have hlen:=Qza hl
         obtain ⟨v,h1,h2⟩:=Qrc (w:=w) (Q8a (hT.ty t y hy)) (Qve (Qpn (r:=e.rho) hl) p y.size) (Q7e _ _ _ hle) hz (b:=b) (o:=r+(j * (e.chi q i).size+p)) (fun s v hs=>by
          simp only[List.getElem?_take,List.getElem?_drop] at hs
          split at hs
          · have:=hc (p+s) v hs
            rw[show r+(j * (e.chi q i).size+p)+s=r+(j * (e.chi q i).size+(p+s)) from by omega]
            exact this
          · cases hs)
         exact ⟨v,h1,by simp[execOp,ho,hv,h2]⟩
       · trivial
     · trivial
   · trivial
 · rename_i q es j p
   obtain ⟨b,r,n,c,hsg,hj,hv⟩:=hx
   split
   · rename_i y R hy hq
     split
     · rename_i hes
       split
       · rename_i hle
         split
         · rename_i z hz
           rw[Qva] at hq
           obtain ⟨xs,hO,hE⟩:=F.row_at hq hsg
           have hn:n=R.n:=hO.at
           subst hes
           rw[hn] at hj hO
           have hl:=hE j hj
           have hlen:=Qza hl
           obtain ⟨v,h1,h2⟩:=Qrc (w:=w) (Q8a (hT.ty t y hy)) (Qve (Qpn (r:=e.rho) (g:=e.sg) hl) p y.size) (Q7e _ _ _ hle) hz (b:=b) (o:=r+(j * R.es+p)) (fun s v hs=>by
            simp only[List.getElem?_take,List.getElem?_drop] at hs
            split at hs
            · split at hs
              · have:=hO.cell hs
                rw[show r+(j * R.es+p)+s=r+(j * R.es+(p+s)) from by omega]
                exact this
              · cases hs
            · cases hs)
           exact ⟨v,h1,by simp[execOp,ho,hv,h2]⟩
         · trivial
       · trivial
     · trivial
   · trivial
 · trivial
theorem Qd1 {t:Nat} {x y:Operand} (hT:TOk P T) (F:Fit e w0 st a s w) (o:Oper) (ho:o.op=.store t x y):Qkk P e st w (opE T e.chi st o.op) ((execOp a.eval o).run P w):=by
 rw[ho]
 simp only[opE]
 have hx:=Qab F.tm x
 have hy:=Qab F.tm y
 generalize evO st x=X at hx
 generalize evO st y=Y at hy
 unfold Qum
 split
 · rename_i _ k q
   obtain ⟨b,hb,hv⟩:=hx
   split
   · rename_i z cs l hz hk hl
     split
     · rename_i hn
       split
       · rename_i hle
         rw[Qva] at hk
         obtain ⟨old,u,hw,hcs⟩:=F.cells k b cs hb hk
         obtain ⟨hly,h1⟩:=SV.cells_is hy hl
         have n1:=Qza hly
         have n2:=Qza hcs
         simp only[Array.length_toList] at n1 n2
         obtain ⟨i,d,zv,g1,g2,g3,_⟩:=(Q8a (hT.ty t z hz)).ex
         obtain ⟨w',e1,e2,e3,e4,e5,e6,e7⟩:=Qvb (P:=P) (a.eval y).cells.toList 0 w b q old u hw (by simp;omega) h1
         refine ⟨b,w',(a.eval y).cells.toList,old,u,hb,?_,hly,hw,by simpa using e2,e3,e4,e5,e6,e7⟩
         have hst:(Instr.storeAt t (a.eval x) (a.eval y)).run P w=.ok () w':=by
          simp only[hv,Instr.storeAt,Instr.sureAddr,Sem.run_bind,Sem.run_pure,Result.andThen_ok,storeVar,Qnb g1]
          rw[if_neg o9]
          exact e1
         simp[execOp,ho,hst]
       · trivial
     · trivial
   · trivial
 · rename_i k q c
   obtain ⟨b,hb,hv⟩:=hx
   split
   · rename_i _ _ zz cs hz hk
     split
     · rename_i hs
       intro hlt
       rw[Qva] at hk
       obtain ⟨old,u,hw,hcs⟩:=F.cells k b cs hb hk
       have hy:c.is e (a.eval y):=hy
       have h1:=Qjl hy hs
       have n2:=Qza hcs
       simp only[Array.length_toList] at n2
       obtain ⟨i,d,zv,g1,g2,g3,_⟩:=(Q8a (hT.ty t _ hz)).ex
       obtain ⟨w',e1,e2,e3,e4,e5,e6,e7⟩:=Qvb (P:=P) [a.eval y] 0 w b q old u hw (by simp;omega) (by simpa using h1)
       refine ⟨b,w',[a.eval y],old,u,hb,?_,⟨hy,trivial⟩,hw,by simpa using e2,e3,e4,e5,e6,e7⟩
       have hst:(Instr.storeAt t (a.eval x) (a.eval y)).run P w=.ok () w':=by
        have g3':i.size=1:=g3
        simp only[hv,Instr.storeAt,Instr.sureAddr,Sem.run_bind,Sem.run_pure,Result.andThen_ok,storeVar,Qnb g1,Qzf h1,g3']
        simpa using e1
       simp[execOp,ho,hst]
     · trivial
   · trivial
 · rename_i _ q es j p
   obtain ⟨b,r,n,c,hsg,hj,hv⟩:=hx
   split
   · rename_i z R l hz hq hl
     split
     · rename_i hes
       split
       · rename_i hn
         split
         · rename_i hle
           split
           · rename_i hfr
             rw[Qva] at hq
             obtain ⟨xs,hO,hE⟩:=F.row_at hq hsg
             have hnn:n=R.n:=hO.at
             subst hes
             rw[hnn] at hj hO hsg
             obtain ⟨hly,h1⟩:=SV.cells_is hy hl
             have n1:=Qza hly
             simp only[Array.length_toList] at n1
             obtain ⟨i,d,zv,g1,g2,g3,_⟩:=(Q8a (hT.ty t z hz)).ex
             obtain ⟨w',e1,e2,e3,e4⟩:=Q2u (P:=P) hO (p:=p) (vs:=(a.eval y).cells.toList) hj (by simp;omega) h1
             refine ⟨w',_,_,b,?_,hsg,rfl,⟨R,_,hq,hsg,rfl⟩,e2,?_,e3,e4⟩
             · have hst:(Instr.storeAt t (a.eval x) (a.eval y)).run P w=.ok () w':=by
                simp only[hv,Instr.storeAt,Instr.sureAddr,Sem.run_bind,Sem.run_pure,Result.andThen_ok,storeVar,Qnb g1]
                rw[if_neg o9]
                exact e1
               simp[execOp,ho,hst]
             · intro i hi
               have hxl:=hO.1
               have hies:(i+1) * R.es<=R.n * R.es:=Nat.mul_le_mul_right _ hi
               have hjes:(j+1) * R.es<=R.n * R.es:=Nat.mul_le_mul_right _ hj
               rw[Nat.succ_mul] at hies hjes
               simp only[hT.up,rUp]
               have hol:=hE i hi
               split
               · rename_i hij
                 subst hij
                 have hp:=Qxk hol (Qxe hfr hly) p (by have:=Qza hol;simp at this;omega)
                 refine Eq.mp ?_ hp
                 congr 1
                 apply List.ext_getElem?
                 intro q
                 simp only[List.getElem?_take,List.getElem?_drop]
                 rw[Q9a _ _ _ _ (by simp;omega),Q9a _ _ _ _ (by simp;omega)]
                 simp only[List.getElem?_take,List.getElem?_drop,Array.length_toList]
                 by_cases c1:q<p
                 · rw[if_pos c1]
                   split
                   · rw[if_pos o9]
                   · rfl
                 · rw[if_neg c1]
                   by_cases c2:q<p+(a.eval y).cells.size
                   · have c3:q<R.es:=by omega
                     rw[if_pos c2,if_pos c3,if_neg o9,if_pos o9]
                     congr 1;omega
                   · rw[if_neg c2]
                     split
                     · rw[if_neg o9,if_neg o9]
                     · rfl
               · rename_i hij
                 refine Eq.mp ?_ hol
                 congr 1
                 apply List.ext_getElem?
                 intro q
                 simp only[List.getElem?_take,List.getElem?_drop]
                 split
                 · rw[Q9a _ _ _ _ (by simp;omega)]
                   simp only[Array.length_toList]
                   rcases Nat.lt_or_gt_of_ne hij with hlt|hgt
                   · have:(i+1) * R.es<=j * R.es:=Nat.mul_le_mul_right _ hlt
                     rw[Nat.succ_mul] at this
                     rw[if_pos o9]
                   · have:(j+1) * R.es<=i * R.es:=Nat.mul_le_mul_right _ hgt
                     rw[Nat.succ_mul] at this
                     rw[if_neg o9,if_neg o9]
                 · rfl
           · trivial
         · trivial
       · trivial
     · trivial
   · trivial
 · trivial
theorem Qg2 {c:SC} {b:Bool} {v:Value} (h:(SV.pt (.one c)).is e v) (hb:boC c=some b):v=.bool b:=by
 cases c with
 | bool x=>cases hb;exact Q2n h
 | lit x=>cases hb;exact Qbl h
 | _=>cases hb
theorem Qjj {op:BinOp} {t:TypeId} {x y:Operand} (m n:Bool):eqGuard op t x y (.bool m) (.bool n)=pure ():=by cases op<;>rfl
theorem Q52 {op:BinOp} {t u:Nat} {x y:Operand} (hT:TOk P T) (tm:isV e st.t a.tmps.toList) (o:Oper) (ho:o.op=.binOp op t x y u):Qkk P e st w (opE T e.chi st o.op) ((execOp a.eval o).run P w):=by
 rw[ho]
 simp only[opE]
 have hx:=Qab tm x
 have hy:=Qab tm y
 generalize evO st x=X at hx
 generalize evO st y=Y at hy
 unfold Qp9
 have hnd:=hT.nd
 have hnt:=hT.nt
 split
 · rename_i k m k' n
   have hx:=Qgc hx
   have hy:=Qgc hy
   split
   · intro h0 _
     exact ⟨_,rfl,by simp[execOp,ho,hx,hy,eqGuard_at_int,binOp,Op.shift,hT.ar,rAr,Int.not_lt.2 h0]⟩
   · intro h0 _
     exact ⟨_,rfl,by simp[execOp,ho,hx,hy,eqGuard_at_int,binOp,Op.shift,hT.ar,rAr,Int.not_lt.2 h0]⟩
   · split
     · rename_i hk
       subst hk
       cases op<;>first
        | trivial
        | exact ⟨_,rfl,by simp[execOp,ho,hx,hy,eqGuard_at_int,binOp,Op.intArith,Op.intBits,Op.intCmp,hT.ar,hT.cm,hT.nt,rAr,rCm,bne]⟩
     · trivial
 · rename_i l l'
   obtain ⟨vs,hvs,hl⟩:=hx
   obtain ⟨vs',hvs',hl'⟩:=hy
   split
   · rename_i s z fs hz
     split
     · rename_i hlike
       simp only[Bool.and_eq_true] at hlike
       have hcmp:=hT.cmp t s z fs hz
       have hgt:P.eqGuardType P.depth t=false/\∃us,P.underlying t=some (.struct us):=by
        obtain ⟨i,d,zv,g1,g2,g3,g4,g5,g6,g7,fl,rfl,g8⟩:=(Q8a (hT.ty t _ hz)).ex
        unfold Qm2 at hcmp
        rw[g2] at hcmp
        simp only[Bool.and_eq_true,Bool.not_eq_true'] at hcmp
        exact ⟨hcmp.1.2,_,g2⟩
       obtain ⟨hg,us,hus⟩:=hgt
       split
       · rename_i b heq
         rw[hnd] at heq
         have:=Qsq (w:=w) e 5 t z hcmp 10000 o9 _ hus l l' vs.toList vs'.toList b hlike.1 hlike.2 hl hl' heq
         simp only[Qsf,if_true] at this
         refine ⟨.bool b,rfl,?_⟩
         have hbo:(binOp .eql t (.agg vs) (.agg vs')).run P w=.ok (.bool b) w:=by rw[run_eql_struct,this];rfl
         simp[execOp,ho,hvs,hvs',run_eqGuard_agg _ _ _ _ _ _ _ hg,hbo]
       · rename_i b heq
         rw[hnd] at heq
         have:=Qsq (w:=w) e 5 t z hcmp 10000 o9 _ hus l l' vs.toList vs'.toList b hlike.1 hlike.2 hl hl' heq
         simp only[Qsf,if_true] at this
         refine ⟨.bool (!b),by rw[hnt];rfl,?_⟩
         have hbo:(binOp .neq t (.agg vs) (.agg vs')).run P w=.ok (.bool (!b)) w:=by rw[run_neq_struct,this];rfl
         simp[execOp,ho,hvs,hvs',run_eqGuard_agg _ _ _ _ _ _ _ hg,hbo]
       · trivial
     · trivial
   · trivial
 · rename_i c c' _ _
   split
   · rename_i b0 hz
     have hu:=Qt6 (hT.ty t _ hz)
     split
     · rename_i m n hm hn
       have hx:=Qg2 hx hm
       have hy:=Qg2 hy hn
       cases op<;>first
        | trivial
        | exact ⟨.bool (m==n),rfl,by simp[execOp,ho,hx,hy,Qjj,run_eql_bool _ _ _ _ hu]⟩
        | exact ⟨.bool (!(m==n)),by rw[hnt];rfl,by simp[execOp,ho,hx,hy,Qjj,run_neq_bool _ _ _ _ hu]⟩
     · trivial
   · trivial
 · trivial
theorem Q62 {t:Nat} {x:Operand} (hT:TOk P T) (tm:isV e st.t a.tmps.toList) (o:Oper) (ho:o.op=.unOp .not t x):Qkk P e st w (opE T e.chi st o.op) ((execOp a.eval o).run P w):=by
 rw[ho]
 simp only[opE]
 have hx:=Qab tm x
 generalize evO st x=X at hx
 split
 · have:=Q2n hx
   exact ⟨_,rfl,by simp[execOp,ho,this,Op.unary,hT.nt]⟩
 · have:=Qbl hx
   exact ⟨_,rfl,by simp[execOp,ho,this,Op.unary]⟩
 · trivial
theorem Qgh {s f:Nat} {sz:Nat} {z:List SC} {fs:List (Nat×Nat×Bool)} {cmp:Bool} (hT:TOk P T) (hs:T.ty s=some (.struct sz z fs cmp)) {d n:Nat} {g:Bool} (hf:nth fs f=some (d,n,g)) (b o:Nat):
 (Instr.fieldAt s (.pointer (some ⟨b,o,none⟩)) f).run P w=.ok (.pointer (some ⟨b,o+d,none⟩)) w:=by
 obtain ⟨i,dd,zv,g1,g2,g3,g4,g5,g6,g7,fl,rfl,g8⟩:=(Q8a (hT.ty s _ hs)).ex
 rw[Qva] at hf
 obtain ⟨fd,k1,k2,k3⟩:=Qhh g8 hf
 obtain ⟨i',d',l1,l2,l3,l4,l5,l6⟩:=Qac k3
 have k1':fl[f]? =some fd:=by simpa using k1
 simp only at k2 l3
 have l5':0<n:=l5
 have hne:¬i'.size=0:=by rw[l3];omega
 simp only[Instr.fieldAt,Sem.run_bind,run_underlying g2,Result.andThen_ok,k1',Instr.sureAddr,Sem.run_pure,fieldPlace,Qnb l1,hne,if_false,Q5c,k2]
theorem Qnj {r f:Nat} {x:Operand} (hT:TOk P T) (tm:isV e st.t a.tmps.toList) (o:Oper) (ho:o.op=.fieldAddr r x f):Qkk P e st w (opE T e.chi st o.op) ((execOp a.eval o).run P w):=by
 rw[ho]
 simp only[opE]
 have hx:=Qab tm x
 generalize evO st x=X at hx
 unfold Qjs
 split
 · obtain ⟨b,hb,hv⟩:=hx
   split
   · rename_i hs
     split
     · rename_i hf
       exact ⟨_,⟨b,hb,rfl⟩,by simp[execOp,ho,hv,Qgh hT hs hf]⟩
     · trivial
   · trivial
 · obtain ⟨hj,b,r,ha,hv⟩:=hx
   split
   · rename_i hs
     split
     · rename_i hf
       refine ⟨_,⟨hj,b,r,ha,rfl⟩,?_⟩
       simp[execOp,ho,hv,Qgh hT hs hf,Nat.add_assoc]
     · trivial
   · trivial
 · obtain ⟨b,r,n,c,hsg,hj,hv⟩:=hx
   split
   · rename_i hs
     split
     · rename_i hf
       refine ⟨_,⟨b,r,n,c,hsg,hj,rfl⟩,?_⟩
       simp[execOp,ho,hv,Qgh hT hs hf,Nat.add_assoc]
     · trivial
   · trivial
 · trivial
theorem Qjt {r f:Nat} {x:Operand} (hT:TOk P T) (tm:isV e st.t a.tmps.toList) (o:Oper) (ho:o.op=.field r x f):Qkk P e st w (opE T e.chi st o.op) ((execOp a.eval o).run P w):=by
 rw[ho]
 simp only[opE]
 have hx:=Qab tm x
 generalize evO st x=X at hx
 unfold Qg1
 split
 · rename_i l
   obtain ⟨vs,hv,hl⟩:=hx
   split
   · rename_i hs
     split
     · rename_i d n g hf
       split
       · rename_i hle
         split
         · rename_i rr hr
           obtain ⟨i,dd,zv,g1,g2,g3,g4,g5,g6,g7,fl,rfl,g8⟩:=(Q8a (hT.ty r _ hs)).ex
           rw[Qva] at hf
           obtain ⟨fd,k1,k2,k3⟩:=Qhh g8 hf
           obtain ⟨i',d',l1,l2,l3,l4,l5,l6⟩:=Qac k3
           simp only at k2 l3 l4 l6
           have k1':fl[f]? =some fd:=by simpa using k1
           have hlen:=Qza hl
           simp only[Array.length_toList] at hlen
           have hp:=Qbi (w:=w) l1 l2 l3 (by rw[l4];cases g;exact .inr (l6 rfl);exact .inl rfl) vs (o:=d) o9
           have hrun:(Instr.field r (.agg vs) f).run P w=.ok (Qsf d'.isRow ((vs.toList.drop d).take n)) w:=by
            simp only[Instr.field,Sem.run_bind,run_underlying g2,Result.andThen_ok,k1',asAgg,Sem.run_pure,k2,hp]
           refine ⟨Qsf d'.isRow ((vs.toList.drop d).take n),?_,by simp[execOp,ho,hv,hrun]⟩
           have hc:=Qve hl d n
           rw[l4]
           unfold Qef at hr
           cases g with
           | true=>
             simp only[if_true] at hr
             cases hr
             exact ⟨_,rfl,by simpa using hc⟩
           | false=>
             simp only[Bool.false_eq_true,if_false] at hr
             split at hr
             · rename_i c hcc
               cases hr
               rw[hcc] at hc
               generalize (vs.toList.drop d).take n=us at hc
               match us,hc with
               | [u],hc=>exact hc.1
             · cases hr
         · trivial
       · trivial
     · trivial
   · trivial
 · trivial
theorem Qb1 {t:Nat} {x y:Operand} (hT:TOk P T) (tm:isV e st.t a.tmps.toList) (o:Oper) (ho:o.op=.index t x y):Qkk P e st w (opE T e.chi st o.op) ((execOp a.eval o).run P w):=by
 rw[ho]
 simp only[opE]
 have hx:=Qab tm x
 have hy:=Qab tm y
 generalize evO st x=X at hx
 generalize evO st y=Y at hy
 unfold Qh0
 split
 · rename_i l k n0
   obtain ⟨vs,hv,hl⟩:=hx
   have hy':a.eval y=.int k (.ofNat n0):=hy
   split
   · rename_i n z hs
     split
     · rename_i hln
       intro c hc
       obtain ⟨i,d,zv,g1,g2,g3,g4,g5,g6,g7,el,rfl,g8⟩:=(Q8a (hT.ty t _ hs)).ex
       obtain ⟨i',d',l1,l2,l3,l4,l5,l6⟩:=Qac g8
       have hlen:=Qza hl
       simp only[Array.length_toList] at hlen
       obtain ⟨v,hv1,hv2⟩:=Qnn hl hc
       have hlt:n0<n:=by rw[<-hln];exact (List.getElem?_eq_some_iff.1 hc).1
       have hp:=Qbi (w:=w) l1 l2 l3 (.inr rfl) vs (o:=n0 * 1) o9
       have hrun:(Instr.index t (.agg vs) (.int k (.ofNat n0))).run P w=.ok (Qsf d'.isRow ((vs.toList.drop (n0 * 1)).take 1)) w:=by
        simp[Instr.index,asIntOf,run_underlying g2,hlt,Qnb l1,l3]
        simpa using hp
       refine ⟨v,hv2,?_⟩
       have hpk:Qsf d'.isRow ((vs.toList.drop (n0 * 1)).take 1)=v:=by
        rw[l4,Nat.mul_one]
        obtain ⟨hb,hb'⟩:=List.getElem?_eq_some_iff.1 hv1
        rw[List.drop_eq_getElem_cons hb,hb']
        simp[Qsf]
       rw[hpk] at hrun
       simp[execOp,ho,hv,hy',hrun,-Int.ofNat_eq_natCast]
     · trivial
   · rename_i n es ea z _ hs
     split
     · rename_i hlt
       split
       · rename_i hle
         split
         · rename_i rr hr
           obtain ⟨i,d,zv,g1,g2,g3,g4,g5,g6,g7,el,rfl,g8⟩:=(Q8a (hT.ty t _ hs)).ex
           obtain ⟨i',d',l1,l2,l3,l4,l5,l6⟩:=Qac g8
           have hlen:=Qza hl
           simp only[Array.length_toList] at hlen
           have hp:=Qbi (w:=w) l1 l2 l3 (by rw[l4];cases ea;exact .inr (l6 rfl);exact .inl rfl) vs (o:=n0 * es) o9
           have hrun:(Instr.index t (.agg vs) (.int k (.ofNat n0))).run P w=.ok (Qsf d'.isRow ((vs.toList.drop (n0 * es)).take es)) w:=by
            have h0:(0:Int)<=Int.ofNat n0:=Int.natCast_nonneg n0
            have h1:Int.ofNat n0<(n:Int):=by simpa using hlt
            simp[Instr.index,asIntOf,run_underlying g2,hlt,Qnb l1,l3,hp]
           refine ⟨Qsf d'.isRow ((vs.toList.drop (n0 * es)).take es),?_,by simp[execOp,ho,hv,hy',hrun,-Int.ofNat_eq_natCast]⟩
           have hc:=Qve hl (n0 * es) es
           rw[l4]
           unfold Qef at hr
           cases ea with
           | true=>
             simp only[if_true] at hr
             cases hr
             exact ⟨_,rfl,by simpa using hc⟩
           | false=>
             simp only[Bool.false_eq_true,if_false] at hr
             split at hr
             · rename_i c hcc
               cases hr
               rw[hcc] at hc
               generalize (vs.toList.drop (n0 * es)).take es=us at hc
               match us,hc with
               | [u],hc=>exact hc.1
             · cases hr
         · trivial
       · trivial
     · trivial
   · trivial
 · trivial
theorem Q6c {t:Nat} {es:Nat} {ea:Bool} {z:List SC} (hT:TOk P T) (ht:T.ty t=some (.slice es ea z)) (b o n c:Nat) (k:IntKind) (x:Int) (h0:0<=x) (h1:x<n):
 (Instr.indexAt t (.slice (some ⟨b,o,none⟩) n c) (.int k x)).run P w=.ok (.pointer (some ⟨b,o+x.toNat * es,none⟩)) w:=by
 obtain ⟨i,d,zv,g1,g2,g3,g4,g5,g6,g7,el,j,u,rfl,g8,g9,_⟩:=(Q8a (hT.ty t _ ht)).ex
 obtain ⟨i',d',l1,l2,l3,_⟩:=Qac g8
 simp[Instr.indexAt,asIntOf,run_underlying g2,h0,h1,Qnb l1,l3,Q5c]
theorem Qbr {t:Nat} {n es:Nat} {ea:Bool} {z:List SC} (hT:TOk P T) (ht:T.ty t=some (.arr n es ea z)) (b o:Nat) (k:IntKind) (x:Int) (h0:0<=x) (h1:x<n):
 (Instr.indexAt t (.pointer (some ⟨b,o,none⟩)) (.int k x)).run P w=.ok (.pointer (some ⟨b,o+x.toNat * es,none⟩)) w:=by
 obtain ⟨i,d,zv,g1,g2,g3,g4,g5,g6,g7,el,rfl,g8⟩:=(Q8a (hT.ty t _ ht)).ex
 obtain ⟨i',d',l1,l2,l3,_⟩:=Qac g8
 simp[Instr.indexAt,asIntOf,run_underlying g2,h0,h1,Qnb l1,l3,Q5c,Instr.sureAddr]
theorem Q8f {t:Nat} {x y:Operand} (hT:TOk P T) {w':World} (F:Fit e w0 st a s w') (o:Oper) (ho:o.op=.indexAddr t x y):Qkk P e st w (opE T e.chi st o.op) ((execOp a.eval o).run P w):=by
 rw[ho]
 simp only[opE]
 have hx:=Qab F.tm x
 have hy:=Qab F.tm y
 generalize evO st x=X at hx
 generalize evO st y=Y at hy
 unfold Qgp
 split
 · rename_i q i k v
   have hy:=Qgc hy
   have hx:a.eval x=.slice (e.chi q i).a (e.chi q i).n (e.chi q i).c:=hx
   split
   · rename_i es ea z hz
     split
     · rename_i hes
       intro h0 h1
       obtain ⟨b,p,ha,_⟩:=F.ext.ok q i v.toNat o9
       refine ⟨_,⟨by omega,b,p,ha,rfl⟩,?_⟩
       rw[ha] at hx
       simp[execOp,ho,hx,hy,Q6c hT hz _ _ _ _ _ _ h0 h1,hes]
     · trivial
   · trivial
 · rename_i k' p n c k v
   have hy:=Qgc hy
   obtain ⟨b,hb,hx⟩:=hx
   split
   · rename_i es ea z hz
     intro h0 h1
     exact ⟨_,⟨b,hb,rfl⟩,by simp[execOp,ho,hx,hy,Q6c hT hz _ _ _ _ _ _ h0 h1]⟩
   · trivial
 · rename_i k' p k v
   have hy:=Qgc hy
   obtain ⟨b,hb,hx⟩:=hx
   split
   · rename_i n es ea z hz
     intro h0 h1
     exact ⟨_,⟨b,hb,rfl⟩,by simp[execOp,ho,hx,hy,Qbr hT hz _ _ _ _ h0 h1]⟩
   · trivial
 · rename_i q k v
   have hy:=Qgc hy
   obtain ⟨hsg,_⟩:=hx
   split
   · rename_i es ea z R hz hq
     split
     · rename_i hes
       intro h0 h1
       rw[Qva] at hq
       obtain ⟨xs,hO,_⟩:=F.row_at hq hsg
       subst hes
       rcases hO.2.2 with ⟨_,hn⟩|⟨g,o',cap,cur,ty,hv,_⟩
       · omega
       · rw[hv] at hsg
         exact ⟨_,⟨g,o',R.n,cap,hsg,by omega,rfl⟩,by simp[execOp,ho,hv,hy,Q6c hT hz _ _ _ _ _ _ h0 h1]⟩
     · trivial
   · trivial
 · trivial
theorem Qlm {sr ds:Nat} {x:Operand} (hT:TOk P T) (tm:isV e st.t a.tmps.toList) (o:Oper) (ho:o.op=.convert sr ds x):Qkk P e st w (opE T e.chi st o.op) ((execOp a.eval o).run P w):=by
 rw[ho]
 simp only[opE]
 have hx:=Qab tm x
 generalize evO st x=X at hx
 split
 · rename_i y k z k' n h1 h2
   have hx:=Qgc hx
   obtain ⟨i,d,zv,g1,g2,_⟩:=(Q8a (hT.ty sr _ h1)).ex
   obtain ⟨i',d',zv',l1,l2,l3,l4,l5,l6,l7,l8⟩:=(Q8a (hT.ty ds _ h2)).ex
   simp only at l8
   subst l8
   exact ⟨_,rfl,by simp[execOp,ho,hx,convert,run_underlying g2,run_underlying l2,Conv.intToInt,hT.ar,rAr]⟩
 · trivial
theorem Qmm {x:Operand} {i:Nat} (tm:isV e st.t a.tmps.toList) (o:Oper) (ho:o.op=.extract x i):Qkk P e st w (opE T e.chi st o.op) ((execOp a.eval o).run P w):=by
 rw[ho]
 simp only[opE]
 have hx:=Qab tm x
 generalize evO st x=X at hx
 split
 · obtain ⟨vs,hv,hl⟩:=hx
   split
   · rename_i r hr
     rw[Qva] at hr
     obtain ⟨v,h1,h2⟩:=Q8w hl hr
     have h1':vs[i]? =some v:=by simpa using h1
     exact ⟨v,h2,by simp[execOp,ho,hv,Instr.extract,h1']⟩
   · trivial
 · trivial
theorem Qxv:∀{l:List SV} {vs:List Value} {r:List (Nat×Nat)},isV e l vs->Qe7 l=some r->Qfd e r vs
 | [],[],r,_,h=>by simp[Qe7] at h;subst h;trivial
 | [],_::_,_,h,_=>h.elim
 | _::_,[],_,h,_=>h.elim
 | x::l,v::vs,r,hi,h=>by
   unfold Qe7 at h
   split at h
   · rename_i h0;cases h0
   · rename_i k o l' h0
     cases h0
     split at h
     · rename_i r' hr
       cases h
       exact ⟨hi.1,Qxv hi.2 hr⟩
     · cases h
   · cases h
theorem Qzv:∀{r:List (Nat×Nat)} {vs:List Value},Qfd e r vs->isV e (Qbaa r) vs
 | [],[],_=>trivial
 | (k,o)::r,v::vs,h=>⟨h.1,Qzv h.2⟩
 | [],_::_,h=>h.elim
 | _::_,[],h=>h.elim
theorem Qal {fn:Fn} {fi ca:Array Operand} (tm:isV e st.t a.tmps.toList) (o:Oper) (ho:o.op=.makeFunc fn fi ca):Qkk P e st w (opE T e.chi st o.op) ((execOp a.eval o).run P w):=by
 rw[ho]
 unfold opE
 split<;>try trivial
 all_goals first|(rename_i h;cases h;done)|skip
 rename_i f first cap h
 cases h
 split
 · rename_i l hf hc
   have:=Qxv (Qxq tm ca.toList) hc
   refine ⟨.func (.func f) #[] (ca.map a.eval),⟨_,rfl,by simpa using this⟩,?_⟩
   have:fi=#[]:=by simpa using hf
   simp[execOp,ho,Instr.makeFunc,this]
 · trivial
theorem Qkh (tm:isV e st.t a.tmps.toList) {x:Operand} {n:Nat} (h:Qy6 st x=some n):∃k,a.eval x=.int k (.ofNat n):=by
 have hx:=Qab tm x
 unfold Qy6 at h
 split at h
 · rename_i k m hm
   cases h
   rw[hm] at hx
   exact ⟨k,Qgc hx⟩
 · cases h
theorem Q9b {k:IntKind} {n y:Nat} (h:n<=y) (code:BoundsCode):(Instr.sliceBound (.int k (.ofNat n)) y code).run P w=.ok n w:=by
 have h0:(0:Int)<=Int.ofNat n:=Int.natCast_nonneg n
 have h1:Int.ofNat n<=(y:Int):=by simp only[Int.ofNat_eq_natCast];omega
 simp only[Instr.sliceBound,asIntOf,Sem.run_bind,Sem.run_pure,Result.andThen_ok,h0,h1,and_self,if_true]
 rfl
theorem Qyh (tm:isV e st.t a.tmps.toList) {isS:Bool} {len cap:Nat} {lo hi mx:Option Operand} {l h m:Nat} (hb:Q4m st len cap lo hi mx=some (l,h,m)):
 (Instr.sliceBounds isS len cap (lo.map a.eval) (hi.map a.eval) (mx.map a.eval)).run P w=.ok (l,h,m) w:=by
 unfold Q4m at hb
 split at hb
 · rename_i m' h' l' hm hh hl
   split at hb
   · rename_i g1
     split at hb
     · rename_i g2
       split at hb
       · rename_i g3
         cases hb
         unfold Instr.sliceBounds
         cases mx with
         | none=>
           simp only[Option.some.injEq] at hm
           subst hm
           simp only[Option.map_none,Sem.run_bind,Sem.run_pure,Result.andThen_ok]
           cases hi with
           | none=>
             simp only[Option.some.injEq] at hh
             subst hh
             simp only[Option.map_none,Sem.run_bind,Sem.run_pure,Result.andThen_ok]
             cases lo with
             | none=>simp only[Option.some.injEq] at hl;subst hl;simp
             | some x=>
               obtain ⟨k,hk⟩:=Qkh tm hl
               simp only[Option.map_some,hk,Sem.run_bind,Q9b g3,Result.andThen_ok,Sem.run_pure]
           | some y=>
             obtain ⟨k,hk⟩:=Qkh tm hh
             simp only[Option.map_some,hk,Sem.run_bind,Q9b g2,Result.andThen_ok]
             cases lo with
             | none=>simp only[Option.some.injEq] at hl;subst hl;simp
             | some x=>
               obtain ⟨k,hk⟩:=Qkh tm hl
               simp only[Option.map_some,hk,Sem.run_bind,Q9b g3,Result.andThen_ok,Sem.run_pure]
         | some z=>
           obtain ⟨k,hk⟩:=Qkh tm hm
           simp only[Option.map_some,hk,Sem.run_bind,Q9b g1,Result.andThen_ok]
           cases hi with
           | none=>cases hh
           | some y=>
             obtain ⟨k,hk⟩:=Qkh tm hh
             simp only[Option.map_some,hk,Sem.run_bind,Q9b g2,Result.andThen_ok]
             cases lo with
             | none=>simp only[Option.some.injEq] at hl;subst hl;simp
             | some x=>
               obtain ⟨k,hk⟩:=Qkh tm hl
               simp only[Option.map_some,hk,Sem.run_bind,Q9b g3,Result.andThen_ok,Sem.run_pure]
       · cases hb
     · cases hb
   · cases hb
 · cases hb
theorem Qsv {len cap l:Nat} {k:IntKind} (hl:l<=len):(Instr.sliceBounds true len cap (some (.int k (.ofNat l))) none none).run P w=.ok (l,len,cap) w:=by
 unfold Instr.sliceBounds
 simp only[Sem.run_bind,Sem.run_pure,Result.andThen_ok,Q9b hl]
def RL (e:Env) (st:St):Prop:=∀(q:Nat) (R:ORow) (v:Value),st.r[q]? =some (some R)->e.sg[q]? =some v->∃a c,v=.slice a R.n c
theorem Fit.rl (F:Fit e w0 st a s w):RL e st:=fun q R v hq hs=>by
 obtain ⟨xs,hO,_⟩:=F.row_at hq hs
 exact hO.form
theorem Qc1 {t:Nat} {x:Operand} {lo hi mx:Option Operand} (hT:TOk P T) (F:Fit e w0 st a s w) (o:Oper) (ho:o.op=.slice t x lo hi mx):Qkk P e st w (opE T e.chi st o.op) ((execOp a.eval o).run P w):=by
 rw[ho]
 simp only[opE]
 have hx:=Qab F.tm x
 generalize evO st x=X at hx
 unfold Qgq
 split
 · rename_i k p _ _ _
   obtain ⟨b,hb,hv⟩:=hx
   split
   · rename_i n es ea z hz
     split
     · rename_i l h m hbo
       obtain ⟨i,d,zv,g1,g2,g3,g4,g5,g6,g7,el,rfl,g8⟩:=(Q8a (hT.ty t _ hz)).ex
       obtain ⟨i',d',l1,l2,l3,_⟩:=Qac g8
       refine ⟨_,⟨b,hb,rfl⟩,?_⟩
       simp[execOp,ho,hv,Instr.sliceAt,run_underlying g2,Instr.sureAddr,Qyh F.tm hbo,Qnb l1,l3,Q5c]
       split<;>rfl
     · trivial
   · trivial
 · rename_i k p n c _ _ _
   obtain ⟨b,hb,hv⟩:=hx
   split
   · rename_i es ea z hz
     split
     · rename_i l h m hbo
       obtain ⟨i,d,zv,g1,g2,g3,g4,g5,g6,g7,el,j,u,rfl,g8,_⟩:=(Q8a (hT.ty t _ hz)).ex
       obtain ⟨i',d',l1,l2,l3,_⟩:=Qac g8
       refine ⟨_,⟨b,hb,rfl⟩,?_⟩
       simp[execOp,ho,hv,Instr.sliceAt,Instr.slice,run_underlying g2,Qyh F.tm hbo,Qnb l1,l3,Q5c]
       split<;>rfl
     · trivial
   · trivial
 · rename_i q y
   obtain ⟨hsg,_⟩:=hx
   split
   · rename_i es ea z R l hz hq hl
     split
     · rename_i hes
       intro hle
       rw[Qva] at hq
       obtain ⟨xs,hO,hE⟩:=F.row_at hq hsg
       obtain ⟨ao,c,hv⟩:=hO.form
       rw[hv] at hO hsg
       have hlt:q<st.r.length:=(List.getElem?_eq_some_iff.1 hq).1
       have hlt':q<e.sg.length:=(List.getElem?_eq_some_iff.1 hsg).1
       obtain ⟨i,d,zv,g1,g2,g3,g4,g5,g6,g7,el,j,u,rfl,g8,_⟩:=(Q8a (hT.ty t _ hz)).ex
       obtain ⟨i',d',l1,l2,l3,_⟩:=Qac g8
       obtain ⟨k,hk⟩:=Qkh F.tm hl
       have hcut:=hO.cut hle
       refine ⟨.slice (if c=l then ao else ao.map (·.add (l * R.es))) (R.n - l) (c - l),w,?_,.slice (if c=l then ao else ao.map (·.add (l * R.es))) (R.n - l) (c - l),xs.drop (l * R.es),none,?_,?_,?_,⟨rfl,rfl,rfl,Nat.le_refl _,fun _ _ _=>rfl⟩,fun g hg=>(by cases hg),fun g hg=>?_,by omega,fun _=>rfl⟩
       · simp only[Option.map_some,Option.map_none,execOp,ho,hv,hk,Instr.sliceAt,Sem.run_bind,Instr.slice,run_underlying g2,Result.andThen_ok,Qsv hle,Qnb l1,l3,Sem.run_pure,hes]
       · rw[if_pos hlt]
         exact ⟨by simp[Env.putS,hlt'],rfl⟩
       · simp only[hT.mi]
         rw[<-hes];exact hcut
       · intro j hj
         simp only[hT.mi] at hj
         have:=hE (j+l) o9
         simp only[hT.dp,rDp,List.drop_drop]
         rw[<-hes,<-Nat.add_mul,Nat.add_comm l j]
         exact this
       · have:(Value.slice ao R.n c).ownBlock=some g:=by
          cases ao with
          | none=>revert hg;by_cases hh:c=l<;>simp[hh,Value.ownBlock]
          | some ad=>
            revert hg
            by_cases hh:c=l
            · simp[hh,Value.ownBlock]
            · rw[if_neg hh]
              simp only[Option.map_some,Value.ownBlock,Option.some.injEq]
              intro hg
              rw[<-hg]
              unfold Addr.add
              split<;>simp_all
         have hR:Qdd e st q g:=⟨R,_,hq,hsg,this⟩
         exact ⟨F.rows.hi q g hR,.inr (.inl hR)⟩
     · trivial
   · trivial
 · trivial
theorem Qa6 {c:SC} {v:Value} (h:scB c v=true):v.oneCell'=true:=by
 unfold scB at h
 split at h<;>first|rfl|(cases h)
theorem Q6t:∀{l:List SC} {vs:List Value},Qcv l vs=true->∀u∈vs,u.oneCell'=true
 | [],[],_,u,hu=>by simp at hu
 | c::l,v::vs,h,u,hu=>by
   simp only[Qcv,Bool.and_eq_true] at h
   rcases List.mem_cons.1 hu with rfl|hu
   · exact Qa6 h.1
   · exact Q6t h.2 u hu
 | [],_::_,h,_,_=>by simp[Qcv] at h
 | _::_,[],h,_,_=>by simp[Qcv] at h
theorem Qyd {α:Type}:∀l:List α,Qyn l=l.length
 | []=>rfl
 | _::l=>by simp[Qyn,Qyd l]
theorem Qo5 {t:Nat} {x y:Operand} (hT:TOk P T) (F:Fit e w0 st a s w) (o:Oper) (ho:o.op=.makeSlice t x y):Qkk P e st w (opE T e.chi st o.op) ((execOp a.eval o).run P w):=by
 rw[ho]
 simp only[opE]
 have hx:=Qab F.tm x
 have hy:=Qab F.tm y
 generalize evO st x=X at hx
 generalize evO st y=Y at hy
 unfold Q50
 split
 · rename_i k1 v1 k2 v2
   have hx:=Qgc hx
   have hy:=Qgc hy
   split
   · rename_i es ea z hz
     rintro ⟨rfl,h0,h1⟩
     obtain ⟨i,d,zv,g1,g2,g3,g4,g5,g6,g7,el,j,u,rfl,g8,g9,g10,g11,g12,g13⟩:=(Q8a (hT.ty t _ hz)).ex
     obtain ⟨i',d',l1,l2,l3,l4,l5,l6⟩:=Qac g8
     rw[g9] at l1;cases l1
     have hz:=Qdg e g11
     have hzl:=Qza hz
     simp only[Array.length_toList] at hzl
     have hus:u.cells.size=es:=by omega
     obtain ⟨w',e1,e2,e3,e4⟩:=Qpy (P:=P) (w:=w) t el j u es g2 g9 g10 l3 hus l5 g13 (Q6t g11) k1 k2 v1 h0 h1
     rw[Qyd]
     refine ⟨.slice (some ⟨w.heap.size,0,none⟩) v1.toNat v1.toNat,w',by simp[execOp,ho,hx,hy,e1],.slice (some ⟨w.heap.size,0,none⟩) v1.toNat v1.toNat,_,none,?_,e2,?_,e3,fun g hg=>(by cases hg),fun g hg=>?_,Nat.le_refl _,fun hh=>absurd hh (Nat.lt_irrefl _)⟩
     · rw[if_neg (Nat.lt_irrefl _)]
       exact ⟨by simp[Env.addS,<-F.rows.len],rfl⟩
     · intro q hq
       simp only
       rw[Qv1 _ (by simpa using hus) l5 hq]
       exact Qdg _ g11
     · simp only[Value.ownBlock,Option.some.injEq] at hg
       subst hg
       exact ⟨by omega,.inl (Nat.le_refl _)⟩
   · trivial
 · trivial
end
section
variable {P:Program} {w:World} {w0:Base} {T:Tb} {e:Env} {st:St} {a:Act} {s:List Act}
theorem Qiz (F:Fit e w0 st a s w) {es m:Nat} {g:Nat->List SC} {ob:Prop} {Y:SV} {u:Value} (hy:Y.is e u) (h:Qzaa e.chi st es Y=some (m,g,ob)) (hob:ob):∃news,Qb0 w es u m news/\Q3c e.chi ⟨m,es,g⟩ news:=by
 unfold Qzaa at h
 split at h
 · simp only[Option.some.injEq,Prod.mk.injEq] at h
   obtain ⟨rfl,rfl,rfl⟩:=h
   refine ⟨[],⟨by simp,by simp,.inl ⟨⟨0,hy⟩,rfl⟩⟩,fun j hj=>by simp at hj⟩
 · rename_i k p n c
   obtain ⟨b,hb,hv⟩:=hy
   split at h
   · rename_i cs hk
     split at h
     · rename_i hle
       split at h
       · rename_i hfs
         simp only[Option.some.injEq,Prod.mk.injEq] at h
         obtain ⟨rfl,rfl,rfl⟩:=h
         simp only[Bool.and_eq_true] at hfs
         rw[Qva] at hk
         obtain ⟨vs,t,hw,hl⟩:=F.cells k b cs hb hk
         have hlen:=Qza hl
         simp only[Array.length_toList] at hlen
         refine ⟨(vs.toList.drop p).take (n * es),⟨by simp;omega,fun u hu=>Qrd hl hfs.2 u (List.mem_of_mem_drop (List.mem_of_mem_take hu)),.inr ⟨⟨b,p,none⟩,c,hv,fun j x hj=>?_⟩⟩,fun j hj=>?_⟩
         · rw[Addr.add_mid]
           exact Q8p hw p (n * es) o9 j x hj
         · have hj:j<n:=hj
           have hje:(j+1) * es<=n * es:=Nat.mul_le_mul_right _ hj
           rw[Nat.succ_mul] at hje
           have:=Qve (Qxe hfs.1 hl) (p+j * es) es
           refine Eq.mp ?_ this
           congr 1
           rw[List.drop_take,List.drop_drop,List.take_take]
           congr 1
           simp only
           omega
       · cases h
     · cases h
   · cases h
 · rename_i q i
   have hv:u=.slice (e.chi q i).a (e.chi q i).n (e.chi q i).c:=hy
   split at h
   · rename_i hes
     simp only[Option.some.injEq,Prod.mk.injEq] at h
     obtain ⟨rfl,rfl,rfl⟩:=h
     by_cases hn:(e.chi q i).n=0
     · refine ⟨[],⟨by simp[hn],by simp,?_⟩,fun j hj=>?_⟩
       · rw[hn] at hv
         cases ha:(e.chi q i).a with
         | none=>exact .inl ⟨⟨_,by rw[hv,ha]⟩,hn⟩
         | some ad=>exact .inr ⟨ad,_,by rw[hv,ha,hn],fun j x hj=>by simp at hj⟩
       · have hj:j<(e.chi q i).n:=hj
         omega
     · have hes0:∀j,j<(e.chi q i).n->∃vs,vs.length=es/\isL ⟨[],e.chi,[]⟩ ((e.chi q i).el j) vs/\(∀x∈vs,x.oneCell'=true):=fun j hj=>by
        obtain ⟨b,p,h1,h2,h3,h4,h5,vs,h6,h7⟩:=F.ext.ok q i j hj
        have:=Qza h6
        exact ⟨vs,by rw[<-this];exact (hob j hj).2,h6,Qrd h6 (hob j hj).1⟩
       obtain ⟨b,p,ha,_⟩:=F.ext.ok q i 0 o9
       have key:∀j,j<(e.chi q i).n->∃vs,vs.length=es/\isL ⟨[],e.chi,[]⟩ ((e.chi q i).el j) vs/\(∀x∈vs,x.oneCell'=true)/\∀(t:Nat) (v:Value),vs[t]? =some v->w.cell? ⟨b,p+(j * es+t),none⟩=some v:=fun j hj=>by
        obtain ⟨b',p',h1,h2,h3,h4,h5,vs,h6,h7⟩:=F.ext.ok q i j hj
        rw[ha] at h1;cases h1
        have:=Qza h6
        rw[hes] at h7
        exact ⟨vs,by rw[<-this];exact (hob j hj).2,h6,Qrd h6 (hob j hj).1,h7⟩
       have hget:∀j t,j<(e.chi q i).n->t<es->∃v,w.cell? ⟨b,p+(j * es+t),none⟩=some v/\v.oneCell'=true:=fun j t hj ht=>by
        obtain ⟨vs,h1,h2,h3,h4⟩:=key j hj
        have hg:vs[t]? =some (vs[t]'o9):=List.getElem?_eq_getElem o9
        exact ⟨_,h4 t _ hg,h3 _ (List.getElem_mem _)⟩
       have hall:∀t,t<(e.chi q i).n * es->∃v,w.cell? ⟨b,p+t,none⟩=some v/\v.oneCell'=true:=fun t ht=>by
        have hes1:0<es:=by
         rcases Nat.eq_zero_or_pos es with h0|h0
         · rw[h0] at ht;omega
         · exact h0
        have:=hget (t / es) (t % es) (Nat.div_lt_of_lt_mul (by rw[Nat.mul_comm];exact ht)) (Nat.mod_lt _ hes1)
        rw[Nat.mul_comm,Nat.div_add_mod] at this
        exact this
       let news:=(List.range ((e.chi q i).n * es)).map fun t=>(w.cell? ⟨b,p+t,none⟩).getD undef
       have hn1:∀(t:Nat) (x:Value),news[t]? =some x->t<(e.chi q i).n * es/\x=(w.cell? ⟨b,p+t,none⟩).getD undef:=fun t x hx=>by
        simp only[news,List.getElem?_map,Option.map_eq_some_iff] at hx
        obtain ⟨t',h1,h2⟩:=hx
        obtain ⟨h3,h4⟩:=List.getElem?_eq_some_iff.1 h1
        simp at h3 h4
        subst h4
        exact ⟨h3,h2.symm⟩
       refine ⟨news,⟨by simp[news],fun x hx=>?_,.inr ⟨⟨b,p,none⟩,_,by rw[hv,ha],fun t x hx=>?_⟩⟩,fun j hj=>?_⟩
       · obtain ⟨t,ht⟩:=List.mem_iff_getElem?.1 hx
         obtain ⟨h1,h2⟩:=hn1 t x ht
         obtain ⟨v,h3,h4⟩:=hall t h1
         rw[h2,h3];exact h4
       · obtain ⟨h1,h2⟩:=hn1 t x hx
         obtain ⟨v,h3,h4⟩:=hall t h1
         rw[Addr.add_mid,h2,h3];rfl
       · have hj:j<(e.chi q i).n:=hj
         obtain ⟨vs,h1,h2,h3,h4⟩:=key j hj
         refine Eq.mp ?_ h2
         congr 1
         apply List.ext_getElem?
         intro t
         simp only[List.getElem?_take,List.getElem?_drop]
         have hje:(j+1) * es<=(e.chi q i).n * es:=Nat.mul_le_mul_right _ hj
         rw[Nat.succ_mul] at hje
         split
         · rename_i ht
           have hg:vs[t]? =some (vs[t]'o9):=List.getElem?_eq_getElem o9
           have hr:j * es+t<(e.chi q i).n * es:=by omega
           simp only[news,List.getElem?_map,List.getElem?_range hr,Option.map_some]
           rw[h4 t _ hg,hg]
           rfl
         · rename_i ht
           rw[List.getElem?_eq_none o9]
   · cases h
 · rename_i q
   obtain ⟨hsg,_⟩:=hy
   split at h
   · rename_i R hq
     split at h
     · rename_i hes
       simp only[Option.some.injEq,Prod.mk.injEq] at h
       obtain ⟨rfl,rfl,rfl⟩:=h
       rw[Qva] at hq
       obtain ⟨xs,hO,hE⟩:=F.row_at hq hsg
       subst hes
       exact ⟨xs,hO.src,hE⟩
     · cases h
   · cases h
 · cases h
theorem Qor {c:Call} (hT:TOk P T) (tm:isV e st.t a.tmps.toList) (hr:RL e st) (hA:c.callee≠.builtin .append) (o:Oper) (ho:o.op=.call c):Qkk P e st w (opE T e.chi st o.op) ((execOp a.eval o).run P w):=by
 rw[ho]
 obtain ⟨cal,args,ats⟩:=c
 simp only[opE]
 cases cal with
 | value f=>
   simp only
   have hf:=Qab tm f
   generalize evO st f=X at hf
   split
   · rename_i g cap
     obtain ⟨vs,hv,hc⟩:=hf
     refine ⟨args.toList.map a.eval++vs.toList,Qye (Qxq tm _) (Qzv hc),?_⟩
     have:(args.toList.map a.eval++vs.toList).toArray=args.map a.eval++vs:=by apply Array.ext';simp
     rw[this]
     simp[execOp,ho,resolve,hv,Deferred.ofValue,invoke]
   · trivial
 | invoke r m=>trivial
 | builtin b=>
   cases b<;>first|exact absurd rfl hA|(trivial;done)|skip
   case len=>
    simp only
    split
    · rename_i t x h1 h2
      have hx:=Qab tm x
      have ea:ats=#[t]:=by apply Array.ext';simpa using h1
      have eb:args=#[x]:=by apply Array.ext';simpa using h2
      subst ea;subst eb
      generalize evO st x=X at hx
      unfold Qx6
      split
      · rename_i q i
        have hx:a.eval x=_:=hx
        split
        · rename_i hz
          obtain ⟨i',d,zv,g1,g2,g3,g4,g5,g6,g7,el,j,u,rfl,g8⟩:=(Q8a (hT.ty t _ hz)).ex
          exact ⟨_,rfl,by simp[execOp,ho,resolve,hx,invoke,builtin,Builtin.len_,run_underlying g2,goInt]⟩
        · trivial
      · obtain ⟨b,hb,hx⟩:=hx
        split
        · rename_i hz
          obtain ⟨i',d,zv,g1,g2,g3,g4,g5,g6,g7,el,j,u,rfl,g8⟩:=(Q8a (hT.ty t _ hz)).ex
          exact ⟨_,rfl,by simp[execOp,ho,resolve,hx,invoke,builtin,Builtin.len_,run_underlying g2,goInt]⟩
        · trivial
      · have hx:a.eval x=_:=hx
        split
        · rename_i hz
          obtain ⟨i',d,zv,g1,g2,g3,g4,g5,g6,g7,el,j,u,rfl,g8⟩:=(Q8a (hT.ty t _ hz)).ex
          exact ⟨_,rfl,by simp[execOp,ho,resolve,hx,invoke,builtin,Builtin.len_,run_underlying g2,goInt]⟩
        · trivial
      · obtain ⟨hsg,_⟩:=hx
        split
        · rename_i es ea z R hz hq
          rw[Qva] at hq
          obtain ⟨a',c',hx⟩:=hr _ _ _ hq hsg
          obtain ⟨i',d,zv,g1,g2,g3,g4,g5,g6,g7,el,j,u,rfl,g8⟩:=(Q8a (hT.ty t _ hz)).ex
          exact ⟨_,rfl,by simp[execOp,ho,resolve,hx,invoke,builtin,Builtin.len_,run_underlying g2,goInt]⟩
        · trivial
      · trivial
    · trivial
   case max=>
    simp only
    split
    · rename_i x y h2
      have eb:args=#[x,y]:=by apply Array.ext';simpa using h2
      subst eb
      have hx:=Qab tm x
      have hy:=Qab tm y
      split
      · rename_i k p k' q h3 h4
        rw[h3] at hx
        rw[h4] at hy
        have hx:=Qgc hx
        have hy:=Qgc hy
        exact ⟨_,rfl,by simp[execOp,ho,resolve,hx,hy,invoke,builtin,Builtin.max_,Builtin.max2,hT.mx,rMx]⟩
      · trivial
    · trivial
   case min=>
    simp only
    split
    · rename_i x y h2
      have eb:args=#[x,y]:=by apply Array.ext';simpa using h2
      subst eb
      have hx:=Qab tm x
      have hy:=Qab tm y
      split
      · rename_i k p k' q h3 h4
        rw[h3] at hx
        rw[h4] at hy
        have hx:=Qgc hx
        have hy:=Qgc hy
        exact ⟨_,rfl,by simp[execOp,ho,resolve,hx,hy,invoke,builtin,Builtin.min_,Builtin.min2,hT.mn,rMn]⟩
      · trivial
    · trivial
theorem SV.rs_is {e:Env} {q:Nat} {v:Value} (h1:e.sg[q]? =some v) (h2:v.oneCell'=true):(SV.pt (.one (.rs q))).is e v:=⟨h1,h2⟩
theorem OwnR.one {es n:Nat} {v:Value} {xs:List Value} (h:OwnR w es v n xs):v.oneCell'=true:=by
 obtain ⟨a,c,rfl⟩:=h.form;rfl
theorem Qis {c:R9z} {n m es:Nat} {f g:Nat->List SC} {xs news:List Value} (hx:xs.length=n * es) (h1:Q3c c ⟨n,es,f⟩ xs) (h2:Q3c c ⟨m,es,g⟩ news):Q3c c ⟨n+m,es,rJn n f g⟩ (xs++news):=by
 intro j hj
 have hj:j<n+m:=hj
 simp only[rJn]
 split
 · rename_i hjn
   have:=h1 j hjn
   simp only at this
   have hje:(j+1) * es<=n * es:=Nat.mul_le_mul_right _ hjn
   rw[Nat.succ_mul] at hje
   rw[List.drop_append_of_le_length o9,List.take_append_of_le_length (by rw[List.length_drop];omega)]
   exact this
 · rename_i hjn
   have:=h2 (j - n) (show j - n<m by omega)
   simp only at this
   have hje:n * es<=j * es:=Nat.mul_le_mul_right _ o9
   rw[List.drop_append,List.drop_of_length_le o9,List.nil_append,hx]
   rw[Nat.sub_mul] at this
   exact this
theorem Qiy {args:Array Operand} {ats:Array Nat} (hT:TOk P T) (F:Fit e w0 st a s w) (o:Oper) (ho:o.op=.call ⟨.builtin .append,args,ats⟩):Qkk P e st w (opE T e.chi st o.op) ((execOp a.eval o).run P w):=by
 rw[ho]
 simp only[opE]
 split
 · rename_i t t' x y h1 h2
   split
   · rename_i htt
     subst htt
     have ea:ats=#[t,t]:=by apply Array.ext';simpa using h1
     have eb:args=#[x,y]:=by apply Array.ext';simpa using h2
     subst ea;subst eb
     have hx:=Qab F.tm x
     have hy:=Qab F.tm y
     generalize evO st x=X at hx
     generalize evO st y=Y at hy
     unfold Qo9
     split
     · rename_i es ea z hz
       split
       · rename_i m g ob hsrc
         obtain ⟨i,d,zv,g1,g2,g3,g4,g5,g6,g7,el,j,u,rfl,g8,g9,g10,g11,g12,g13⟩:=(Q8a (hT.ty t _ hz)).ex
         obtain ⟨i',d',l1,l2,l3,l4,l5,l6⟩:=Qac g8
         rw[g9] at l1;cases l1
         have hzl:=Qza (Qdg e g11)
         simp only[Array.length_toList] at hzl
         have hus:u.cells.size=es:=by omega
         have run:∀(n:Nat) (xs news:List Value),OwnR w es (a.eval x) n xs->Qb0 w es (a.eval y) m news->n+m<=1073741824->∃v' w',(execOp a.eval o).run P w=.ok (.value v') w'/\OwnR w' es v' (n+m) (xs++news)/\w.grownBy w' (a.eval x).ownBlock/\(∀g,v'.ownBlock=some g->g<w'.heap.size/\(w.heap.size<=g\/(a.eval x).ownBlock=some g)):=fun n xs news hO hS hb=>by
          obtain ⟨v',w',e1,e2,e3,e4⟩:=Qqr (P:=P) (w:=w) t o.type el j u es g2 g9 g10 l3 hus l5 g13 (a.eval x) (a.eval y) n m xs news hO hS hb
          exact ⟨v',w',by simp[execOp,ho,resolve,invoke,builtin,e1],e2,e3,e4⟩
         split
         · rename_i _
           rintro ⟨hob,hb⟩
           have hx:a.eval x=.slice none 0 0:=hx
           obtain ⟨news,hS,hE⟩:=Qiz F hy hsrc hob
           obtain ⟨v',w',e1,e2,e3,e4⟩:=run 0 [] news (by rw[hx];exact ⟨by simp,by simp,.inl ⟨rfl,rfl⟩⟩) hS o9
           rw[Qyd]
           simp only[Nat.zero_add,List.nil_append] at e2
           refine ⟨v',w',e1,v',news,none,?_,e2,hE,?_,fun g hg=>(by cases hg),fun g hg=>⟨(e4 g hg).1,?_⟩,Nat.le_refl _,fun hh=>absurd hh (Nat.lt_irrefl _)⟩
           · rw[if_neg (Nat.lt_irrefl _)]
             exact SV.rs_is (by simp[Env.addS,<-F.rows.len]) e2.one
           · rw[hx] at e3;exact e3
           · rcases (e4 g hg).2 with h|h
             · exact .inl h
             · rw[hx] at h;simp[Value.ownBlock] at h
         · rename_i k n c
           obtain ⟨b,hb,hv⟩:=hx
           split
           · rename_i cs hk
             split
             · rename_i hnc
               split
               · rename_i hle
                 split
                 · rename_i hfs
                   rintro ⟨hob,hbd⟩
                   simp only[Bool.and_eq_true] at hfs
                   rw[Qva] at hk
                   obtain ⟨vs,ty,hw,hl⟩:=F.cells k b cs hb hk
                   have hlen:=Qza hl
                   simp only[Array.length_toList] at hlen
                   simp only[hT.pl] at hbd⊢
                   simp only[hT.jn]
                   subst hnc
                   obtain ⟨news,hS,hE⟩:=Qiz F hy hsrc hob
                   have hO:OwnR w es (a.eval x) n (vs.toList.take (n * es)):=by
                    rw[hv]
                    exact ⟨by simp;omega,fun u hu=>Qrd hl hfs.2 u (List.mem_of_mem_take hu),.inr ⟨b,0,n,vs,ty,rfl,hw,Nat.le_refl _,by simp only[maxLen];omega,by omega,by simp⟩⟩
                   obtain ⟨v',w',e1,e2,e3,e4⟩:=run n _ news hO hS hbd
                   rw[Qyd]
                   have hH:Qhd e st k b:=⟨cs,hk,hb⟩
                   have hob':(a.eval x).ownBlock=some b:=by rw[hv];rfl
                   refine ⟨v',w',e1,v',_,some b,?_,e2,Qis (by simp;omega) ?_ hE,?_,fun g hg=>?_,fun g hg=>⟨(e4 g hg).1,?_⟩,Nat.le_refl _,fun hh=>absurd hh (Nat.lt_irrefl _)⟩
                   · rw[if_neg (Nat.lt_irrefl _)]
                     exact SV.rs_is (by simp[Env.addS,<-F.rows.len]) e2.one
                   · intro j hj
                     have hj:j<n:=hj
                     have hje:(j+1) * es<=n * es:=Nat.mul_le_mul_right _ hj
                     rw[Nat.succ_mul] at hje
                     have:=Qve (Qxe hfs.1 hl) (j * es) es
                     refine Eq.mp ?_ this
                     congr 1
                     simp only
                     rw[List.drop_take,List.take_take]
                     congr 1
                     omega
                   · rw[hob'] at e3;exact e3
                   · cases hg;exact .inr ⟨k,rfl,hH⟩
                   · rcases (e4 g hg).2 with h|h
                     · exact .inl h
                     · rw[hob'] at h;cases h;exact .inr (.inr ⟨k,rfl,hH⟩)
                 · trivial
               · trivial
             · trivial
           · trivial
         · rename_i q
           obtain ⟨hsg,_⟩:=hx
           split
           · rename_i R hq
             split
             · rename_i hes
               rintro ⟨hob,hbd⟩
               rw[Qva] at hq
               obtain ⟨xs,hO,hE'⟩:=F.row_at hq hsg
               obtain ⟨news,hS,hE⟩:=Qiz F hy hsrc hob
               simp only[hT.pl] at hbd⊢
               simp only[hT.jn]
               subst hes
               obtain ⟨v',w',e1,e2,e3,e4⟩:=run R.n xs news hO hS hbd
               have hlt:q<st.r.length:=(List.getElem?_eq_some_iff.1 hq).1
               have hlt':q<e.sg.length:=(List.getElem?_eq_some_iff.1 hsg).1
               have hR:∀g,(a.eval x).ownBlock=some g->Qdd e st q g:=fun g hg=>⟨R,_,hq,hsg,hg⟩
               refine ⟨v',w',e1,v',_,(a.eval x).ownBlock,?_,e2,Qis hO.1 hE' hE,e3,fun g hg=>.inl (hR g hg),fun g hg=>⟨(e4 g hg).1,?_⟩,by omega,fun _=>rfl⟩
               · rw[if_pos hlt]
                 exact SV.rs_is (by simp[Env.putS,hlt']) e2.one
               · rcases (e4 g hg).2 with h|h
                 · exact .inl h
                 · exact .inr (.inl (hR g h))
             · trivial
           · trivial
         · trivial
       · trivial
     · trivial
   · trivial
 · trivial
theorem Q9f (hT:TOk P T) (F:Fit e w0 st a s w) (o:Oper):Qkk P e st w (opE T e.chi st o.op) ((execOp a.eval o).run P w):=by
 cases h:o.op with
 | move x=>exact ⟨_,Qab F.tm x,by simp[execOp,h]⟩
 | assign x=>exact ⟨_,Qab F.tm x,by simp[execOp,h]⟩
 | pick c x y=>rw[<-h];exact Qky F.tm o h
 | alloc t=>rw[<-h];exact Qa1 hT F o h
 | box t x=>rw[<-h];exact Qk8 F o h
 | build t ps=>rw[<-h];exact Qit hT F.tm o h
 | buildSlice t n ps=>rw[<-h];exact Q1n hT F o h
 | load t x=>rw[<-h];exact Qjy hT F o h
 | store t x y=>rw[<-h];exact Qd1 hT F o h
 | binOp op t x y u=>rw[<-h];exact Q52 hT F.tm o h
 | unOp op t x=>cases op<;>first|(rw[<-h];exact Q62 hT F.tm o h)|trivial
 | fieldAddr s x f=>rw[<-h];exact Qnj hT F.tm o h
 | field s x f=>rw[<-h];exact Qjt hT F.tm o h
 | index s x f=>rw[<-h];exact Qb1 hT F.tm o h
 | indexAddr t x y=>rw[<-h];exact Q8f hT F o h
 | extract x i=>rw[<-h];exact Qmm F.tm o h
 | convert sr ds x=>rw[<-h];exact Qlm hT F.tm o h
 | slice t x lo hi mx=>rw[<-h];exact Qc1 hT F o h
 | makeSlice t x y=>rw[<-h];exact Qo5 hT F o h
 | makeFunc f fi ca=>rw[<-h];exact Qal F.tm o h
 | call c=>
   rw[<-h]
   by_cases hA:c.callee=.builtin .append
   · obtain ⟨cal,args,ats⟩:=c
     subst hA
     exact Qiy hT F o h
   · exact Qor hT F.tm F.rl hA o h
 | _=>trivial
theorem Qdv {t:Nat} {x:Operand} {lo hi mx:Option Operand} (hT:TOk P T) (tm:isV e st.t a.tmps.toList) (o:Oper) (ho:o.op=.slice t x lo hi mx) {X:SV} (hX:opE T e.chi st o.op=.v X):∃v,X.is e v/\(execOp a.eval o).run P w=.ok (.value v) w:=by
 rw[ho] at hX
 simp only[opE] at hX
 have hx:=Qab tm x
 generalize evO st x=Y at hx hX
 unfold Qgq at hX
 split at hX
 · rename_i k p _ _ _
   obtain ⟨b,hb,hv⟩:=hx
   split at hX
   · rename_i n es ea z hz
     split at hX
     · rename_i l h m hbo
       cases hX
       obtain ⟨i,d,zv,g1,g2,g3,g4,g5,g6,g7,el,rfl,g8⟩:=(Q8a (hT.ty t _ hz)).ex
       obtain ⟨i',d',l1,l2,l3,_⟩:=Qac g8
       refine ⟨_,⟨b,hb,rfl⟩,?_⟩
       simp[execOp,ho,hv,Instr.sliceAt,run_underlying g2,Instr.sureAddr,Qyh tm hbo,Qnb l1,l3,Q5c]
       split<;>rfl
     · cases hX
   · cases hX
 · rename_i k p n c _ _ _
   obtain ⟨b,hb,hv⟩:=hx
   split at hX
   · rename_i es ea z hz
     split at hX
     · rename_i l h m hbo
       cases hX
       obtain ⟨i,d,zv,g1,g2,g3,g4,g5,g6,g7,el,j,u,rfl,g8,_⟩:=(Q8a (hT.ty t _ hz)).ex
       obtain ⟨i',d',l1,l2,l3,_⟩:=Qac g8
       refine ⟨_,⟨b,hb,rfl⟩,?_⟩
       simp[execOp,ho,hv,Instr.sliceAt,Instr.slice,run_underlying g2,Qyh tm hbo,Qnb l1,l3,Q5c]
       split<;>rfl
     · cases hX
   · cases hX
 · (repeat' split at hX)<;>cases hX
 · cases hX
theorem Qf1 (hT:TOk P T) (tm:isV e st.t a.tmps.toList) (hr:RL e st) (o:Oper) (hp:Quy o.op=true) {x:SV} (hx:opE T e.chi st o.op=.v x):∀w,∃v,x.is e v/\(execOp a.eval o).run P w=.ok (.value v) w:=by
 intro w
 have key:Qkk P e st w (opE T e.chi st o.op) ((execOp a.eval o).run P w)->∃v,x.is e v/\(execOp a.eval o).run P w=.ok (.value v) w:=fun h=>by rw[hx] at h;exact h
 cases h:o.op with
 | move x=>exact key (by rw[h];exact ⟨_,Qab tm x,by simp[execOp,h]⟩)
 | assign x=>exact key (by rw[h];exact ⟨_,Qab tm x,by simp[execOp,h]⟩)
 | pick c x y=>exact key (Qky tm o h)
 | build t ps=>exact key (Qit hT tm o h)
 | binOp op t x y u=>exact key (Q52 hT tm o h)
 | unOp op t y=>cases op<;>first|exact key (Q62 hT tm o h)|(rw[h] at hx;cases hx)
 | fieldAddr s x f=>exact key (Qnj hT tm o h)
 | field s x f=>exact key (Qjt hT tm o h)
 | extract x i=>exact key (Qmm tm o h)
 | convert sr ds x=>exact key (Qlm hT tm o h)
 | slice t x lo hi mx=>exact Qdv hT tm o h hx
 | makeFunc f fi ca=>exact key (Qal tm o h)
 | call c=>
   refine key (Qor hT tm hr (fun hA=>?_) o h)
   rw[h] at hp
   simp[Quy,hA] at hp
 | _=>rw[h] at hp;cases hp
def SX (c:R9z) (w:World):Prop:=XOk ⟨[],c,[]⟩ ⟨w,[]⟩
theorem Qrp (hT:TOk P T) {t q i j p:Nat} {x:Operand} (tm:isV e st.t a.tmps.toList) (o:Oper) (ho:o.op=.load t x) (hX:evO st x=.pt (.one (.xp q i j p))) (hS:SX e.chi w):
 Qkk P e st w (Qqp T e.chi st t (.pt (.one (.xp q i j p)))) ((execOp a.eval o).run P w):=by
 have hx:=Qab tm x
 rw[hX] at hx
 unfold Qqp
 obtain ⟨hj,b,r,ha,hv⟩:=hx
 simp only
 split
 · rename_i y hy
   split
   · rename_i hle
     split
     · rename_i z hz
       obtain ⟨b',r',ha',hlt,_,vs,hl,hc⟩:=hS q i j hj
       rw[ha] at ha'
       cases ha'
       have hlen:=Qza hl
       obtain ⟨v,h1,h2⟩:=Qrc (w:=w) (Q8a (hT.ty t y hy)) (Qve (Qpn (r:=e.rho) (g:=e.sg) hl) p y.size) (Q7e _ _ _ hle) hz (b:=b) (o:=r+(j * (e.chi q i).size+p)) (fun s v hs=>by
        simp only[List.getElem?_take,List.getElem?_drop] at hs
        split at hs
        · have:=hc (p+s) v hs
          rw[show r+(j * (e.chi q i).size+p)+s=r+(j * (e.chi q i).size+(p+s)) from by omega]
          exact this
        · cases hs)
       exact ⟨v,h1,by simp[execOp,ho,hv,h2]⟩
     · trivial
   · trivial
 · trivial
theorem Qk3 (hT:TOk P T) {w1:World} (F:Fit e w0 st a s w1) (o:Oper) {x:SV} (h:Qkl T e.chi st o.op=.v x):∀w,SX e.chi w->∃v,x.is e v/\(execOp a.eval o).run P w=.ok (.value v) w:=by
 intro w hS
 unfold Qkl at h
 split at h
 · rename_i hp
   split at h
   · rename_i y hy
     cases h
     exact Qf1 hT F.tm F.rl o hp hy w
   · cases h
 · split at h
   · rename_i t y ho
     split at h
     · rename_i q i j p hX
       have:=Qrp hT F.tm o ho hX hS
       rw[h] at this
       exact this
     · cases h
   · rename_i t y z ho
     have:=Q8f (w:=w) hT F o ho
     rw[ho] at this
     simp only[opE] at this
     rw[h] at this
     exact this
   · cases h
theorem Qkq (hT:TOk P T) {w1:World} (F:Fit e w0 st a s w1) (o:Oper) {x:SV} {j:Int} {m:Nat} (h:Qkl T e.chi st o.op=.need j m x) (h0:0<=j) (h1:j<m):∀w,SX e.chi w->∃v,x.is e v/\(execOp a.eval o).run P w=.ok (.value v) w:=by
 intro w hS
 unfold Qkl at h
 split at h
 · split at h<;>cases h
 · split at h
   · rename_i t y ho
     split at h
     · rename_i q i j p hX
       have:=Qrp hT F.tm o ho hX hS
       rw[h] at this
       exact this h0 h1
     · cases h
   · rename_i t y z ho
     have:=Q8f (w:=w) hT F o ho
     rw[ho] at this
     simp only[opE] at this
     rw[h] at this
     exact this h0 h1
   · cases h
theorem Fit.turn {st':St} {a':Act} {s':List Act} (F:Fit e w0 st a s w) (hh:st'.h=st.h) (hr:st'.r=st.r) (fr:Qzl e st'.fr s') (dfr:a'.defers=[]) (tm:isV e st'.t a'.tmps.toList):Fit e w0 st' a' s' w:=by
 have hH:∀k b,Qhd e st' k b->Qhd e st k b:=fun k b ⟨cs,h1,h2⟩=>⟨cs,hh▸h1,h2⟩
 have hR:∀q b,Qdd e st' q b->Qdd e st q b:=fun q b ⟨R,v,h1,h2,h3⟩=>⟨R,v,hr▸h1,h2,h3⟩
 exact ⟨fr,dfr,tm,F.blw,F.lo,F.hi,F.nd,by rw[hh];exact F.len,fun k b cs hb hc=>F.cells k b cs hb (by rw[<-hh];exact hc),F.ext.kept rfl (Nat.le_refl _) (fun _ _ _ _ _=>rfl) (fun k b h=>.inl (hH k b h)) (fun q b h=>.inl (hR q b h)),F.pre,
  F.rows.kept rfl rfl hr (Nat.le_refl _) (fun _ _ _=>rfl) (fun k b h=>.inl (hH k b h))⟩
theorem Fit.put (F:Fit e w0 st a s w) {d:Option Nat} {x:SV} {v:Value} (h:x.is e v):Fit e w0 (st.put d x) (a.put d v) s w:=by
 cases d with
 | none=>exact F
 | some d=>
   refine F.turn rfl rfl F.fr F.dfr ?_
   simp only[St.put,Act.put,Array.toList_setIfInBounds]
   exact Qsn F.tm d h
theorem Fit.later {w':World} (F:Fit e w0 st a s w) (h:Below w.heap.size w w'):Fit e w0 st a s w':=
 ⟨F.fr,F.dfr,F.tm,F.blw.later h,F.lo,fun k b hb=>Nat.lt_of_lt_of_le (F.hi k b hb) h.size,F.nd,F.len,
  fun k b cs hb hc=>let ⟨vs,t,h1,h2⟩:=F.cells k b cs hb hc;⟨vs,t,(h.block b (F.hi k b hb)).trans h1,h2⟩,F.ext.kept rfl h.size (fun b hb _ _ _=>h.block b hb) (fun k b h=>.inl h) (fun q b h=>.inl h),F.pre,
  F.rows.kept rfl rfl rfl h.size (fun q b hq=>h.block b (F.rows.hi q b hq)) (fun k b h=>.inl h)⟩
theorem Qkp {b:Nat}:∀{ts:List (List SV)} {us:List Act},Qzl e ts us->Qzl (e.more b) ts us
 | [],[],_=>trivial
 | t::ts,a::us,h=>⟨⟨h.1.1,Qrn h.1.2⟩,Qkp h.2⟩
 | [],_::_,h=>h.elim
 | _::_,[],h=>h.elim
theorem Fit.new (F:Fit e w0 st a s w) {cs:List SC} {vs:Array Value} {t:TypeId} (h:isL e cs vs.toList):Fit (e.more w.heap.size) w0 { st with h:=st.h++[some cs] } a s (w.alloc (.cells vs t)):=by
 have hlt:∀k b,(e.more w.heap.size).rho[k]? =some b->(k<e.rho.length/\e.rho[k]? =some b)\/(k=e.rho.length/\b=w.heap.size):=by
  intro k b hb
  simp only[Env.more] at hb
  rcases Nat.lt_trichotomy k e.rho.length with g|g|g
  · rw[List.getElem?_append_left g] at hb;exact .inl ⟨g,hb⟩
  · subst g;simp at hb;exact .inr ⟨rfl,hb.symm⟩
  · rw[List.getElem?_eq_none (by simp;omega)] at hb;cases hb
 have hsz:=F.blw.size
 have hH:∀k b,Qhd (e.more w.heap.size) { st with h:=st.h++[some cs] } k b->Qhd e st k b\/w.heap.size<=b:=by
  rintro k b ⟨cs',h1,h2⟩
  rcases hlt k b h2 with ⟨g1,g2⟩|⟨_,g⟩
  · refine .inl ⟨cs',?_,g2⟩
    simp only at h1
    rw[List.getElem?_append_left (by rw[<-F.len];exact g1)] at h1
    exact h1
  · exact .inr o9
 have hbl:Below w.heap.size w (w.alloc (.cells vs t)):=(Below.refl _ _).alloc (Nat.le_refl _) _
 refine ⟨Qkp F.fr,F.dfr,Qrn F.tm,F.blw.later hbl,?_,?_,?_,?_,?_,F.ext.kept rfl hbl.size (fun b hb _ _ _=>hbl.block b hb) hH (fun q b h=>.inl h),fun i b h=>Q8h (F.pre i b h),F.rows.kept rfl rfl rfl hbl.size (fun q b hq=>hbl.block b (F.rows.hi q b hq)) hH⟩
 · intro k b hb
   rcases hlt k b hb with ⟨_,g⟩|⟨_,rfl⟩
   · exact F.lo k b g
   · exact .inl hsz
 · intro k b hb
   have:(w.alloc (.cells vs t)).heap.size=w.heap.size+1:=by simp
   rcases hlt k b hb with ⟨_,g⟩|⟨_,rfl⟩
   · have:=F.hi k b g;omega
   · omega
 · intro j k b hj hk
   rcases hlt j b hj with ⟨_,g⟩|⟨g1,g2⟩<;>rcases hlt k b hk with ⟨_,g'⟩|⟨g1',g2'⟩
   · exact F.nd j k b g g'
   · subst g2';exact absurd (F.hi j _ g) o9
   · subst g2;exact absurd (F.hi k _ g') o9
   · omega
 · simp[Env.more,F.len]
 · intro k b cs' hb hc
   rcases hlt k b hb with ⟨g0,g⟩|⟨g1,rfl⟩
   · have hc':st.h[k]? =some (some cs'):=by
      simp only at hc
      rw[List.getElem?_append_left (by rw[<-F.len];exact g0)] at hc
      exact hc
     obtain ⟨vs',t',h1,h2⟩:=F.cells k b cs' g hc'
     exact ⟨vs',t',(Below.heap_alloc w _ b (F.hi k b g)).trans h1,Qek h2⟩
   · simp only at hc
     rw[g1,F.len,List.getElem?_append_right (Nat.le_refl _)] at hc
     simp at hc
     subst hc
     exact ⟨vs,t,by show (w.heap.push _)[w.heap.size]? =_;simp,Qek h⟩
theorem Fit.stored (F:Fit e w0 st a s w) {k p:Nat} {cs old:List SC} {b:Nat} {w':World} {vs:List Value} {ov:Array Value} {t:TypeId} (hb:e.rho[k]? =some b) (hk:st.h[k]? =some (some old)) (hl:isL e cs vs) (hp:p+cs.length<=old.length)
 (h1:w.heap[b]? =some (.cells ov t (0,0))) (h2:w'.heap[b]? =some (.cells (Qka ov.toList p vs).toArray t (0,0))) (h3:∀j,j≠b->w'.heap[j]? =w.heap[j]?) (h4:w'.heap.size=w.heap.size) (h5:w'.os=w.os) (h6:w'.tape=w.tape) (h7:w'.output=w.output):
 Fit e w0 { st with h:=Q0b st.h k (some (Qka old p cs)) } a s w':=by
 have hlo:=F.lo k b hb
 have hHk:Qhd e st k b:=⟨old,hk,hb⟩
 have hH:∀j c,Qhd e { st with h:=Q0b st.h k (some (Qka old p cs)) } j c->Qhd e st j c:=by
  rintro j c ⟨cs',g1,g2⟩
  simp only[Q8b,List.getElem?_set] at g1
  split at g1
  · rename_i hjk
    subst hjk
    exact ⟨old,hk,g2⟩
  · exact ⟨cs',g1,g2⟩
 refine ⟨F.fr,F.dfr,F.tm,⟨h5.trans F.blw.os,h6.trans F.blw.tape,h7.trans F.blw.output,by have:=F.blw.size;omega,fun j hj hm=>(h3 j (fun e=>by subst e;rcases hlo with h|h;omega;exact hm h)).trans (F.blw.block j hj hm)⟩,F.lo,fun j c hc=>by rw[h4];exact F.hi j c hc,F.nd,by simp[Q8b,F.len],?_,F.ext.kept rfl o9 (fun c _ _ hc _=>h3 c (fun hh=>hc k (hh▸hHk))) (fun j c h=>.inl (hH j c h)) (fun q c h=>.inl h),F.pre,
  F.rows.kept rfl rfl rfl o9 (fun q c hq=>h3 c (fun hh=>F.rows.no q c hq k (hh▸hHk))) (fun j c h=>.inl (hH j c h))⟩
 intro j c cs' hc hj
 simp only[Q8b,List.getElem?_set] at hj
 split at hj
 · rename_i hjk
   subst hjk
   split at hj
   · cases hj
     rw[hb] at hc
     cases hc
     obtain ⟨vs',t',g1,g2⟩:=F.cells k b old hb hk
     rw[h1] at g1
     cases g1
     exact ⟨_,t,h2,by simpa using Qxk g2 hl p hp⟩
   · cases hj
 · rename_i hjk
   obtain ⟨vs',t',g1,g2⟩:=F.cells j c cs' hc hj
   have:c≠b:=fun hh=>hjk (F.nd k j b hb (hh▸hc))
   exact ⟨vs',t',(h3 c this).trans g1,g2⟩
theorem Q2s {q:Nat} {u:Value}:∀{ts:List (List SV)} {us:List Act},Qzl e ts us->Qzl (e.putS q u) (Qjx q ts) us
 | [],[],_=>trivial
 | _::_,_::_,h=>⟨⟨h.1.1,Qqn h.1.2⟩,Q2s h.2⟩
 | [],_::_,h=>h.elim
 | _::_,[],h=>h.elim
theorem Qtn {e':Env} (hto:e.To e'):∀{ts:List (List SV)} {us:List Act},Qzl e ts us->Qzl e' ts us
 | [],[],_=>trivial
 | _::_,_::_,h=>⟨⟨h.1.1,Qjp hto h.1.2⟩,Qtn hto h.2⟩
 | [],_::_,h=>h.elim
 | _::_,[],h=>h.elim
theorem Q3h {q:Nat}:∀{l:List (Option (List SC))} {k:Nat} {cs:List SC},(Q2h q l)[k]? =some (some cs)->∃cs0,l[k]? =some (some cs0)/\cs=Qkx q cs0
 | [],k,cs,h=>by simp[Q2h] at h
 | none::l,0,cs,h=>by simp[Q2h] at h
 | none::l,k+1,cs,h=>by simpa using Q3h (l:=l) (by simpa [Q2h] using h)
 | some c::l,0,cs,h=>by simp[Q2h] at h;exact ⟨c,by simp,h.symm⟩
 | some c::l,k+1,cs,h=>by simpa using Q3h (l:=l) (by simpa [Q2h] using h)
theorem Q6f {q:Nat}:∀l:List (Option (List SC)),(Q2h q l).length=l.length
 | []=>rfl
 | none::l=>by simp[Q2h,Q6f l]
 | some _::l=>by simp[Q2h,Q6f l]
theorem Rows.put {e':Env} {st':St} {w':World} {q:Nat} {R:ORow} {sv:Value} {xs:List Value} (h:Rows e w0 st w) (hlen:e'.sg.length=st'.r.length) (hc:e'.chi=e.chi)
 (hq:st'.r[q]? =some (some R)) (hsv:e'.sg[q]? =some sv) (hne:∀j,j≠q->st'.r[j]? =st.r[j]?/\e'.sg[j]? =e.sg[j]?) (hO:OwnR w' R.es sv R.n xs) (hE:Q3c e.chi R xs) (hsz:w.heap.size<=w'.heap.size)
 (hb:∀j b,j≠q->Qdd e st j b->w'.heap[b]? =w.heap[b]?) (hlo:∀g,sv.ownBlock=some g->g<w'.heap.size/\(w0.w.heap.size<=g\/g∈w0.mo)/\(∀j,j≠q->¬Qdd e st j g)/\(∀k,¬Qhd e' st' k g))
 (hH:∀k b,Qhd e' st' k b->Qhd e st k b):Rows e' w0 st' w':=by
 have hR:∀j b,j≠q->Qdd e' st' j b->Qdd e st j b:=fun j b hj ⟨R',v,h1,h2,h3⟩=>⟨R',v,(hne j hj).1▸h1,(hne j hj).2▸h2,h3⟩
 have hQ:∀b,Qdd e' st' q b->sv.ownBlock=some b:=fun b ⟨R',v,h1,h2,h3⟩=>by rw[hsv] at h2;cases h2;exact h3
 refine ⟨hlen,fun j R' hj=>?_,fun j b hj=>?_,fun j b hj=>?_,fun j j' b h1 h2=>?_,fun j b hj k hk=>?_⟩
 · by_cases hjq:j=q
   · subst hjq
     rw[hq] at hj;cases hj
     exact ⟨sv,xs,hsv,hO,by rw[hc];exact hE⟩
   · rw[(hne j hjq).1] at hj
     obtain ⟨v,ys,h1,h2,h3⟩:=h.row j R' hj
     exact ⟨v,ys,by rw[(hne j hjq).2];exact h1,h2.kept fun b hv=>hb j b hjq ⟨R',v,hj,h1,hv⟩,by rw[hc];exact h3⟩
 · by_cases hjq:j=q
   · subst hjq;exact (hlo b (hQ b hj)).2.1
   · exact h.lo j b (hR j b hjq hj)
 · by_cases hjq:j=q
   · subst hjq;exact (hlo b (hQ b hj)).1
   · exact Nat.lt_of_lt_of_le (h.hi j b (hR j b hjq hj)) hsz
 · by_cases hjq:j=q
   · by_cases hjq':j'=q
     · rw[hjq,hjq']
     · subst hjq;exact absurd (hR j' b hjq' h2) ((hlo b (hQ b h1)).2.2.1 j' hjq')
   · by_cases hjq':j'=q
     · subst hjq';exact absurd (hR j b hjq h1) ((hlo b (hQ b h2)).2.2.1 j hjq)
     · exact h.nd j j' b (hR j b hjq h1) (hR j' b hjq' h2)
 · by_cases hjq:j=q
   · subst hjq;exact (hlo b (hQ b hj)).2.2.2 k hk
   · exact h.no j b (hR j b hjq hj) k (hH k b hk)
theorem Fit.rowed (F:Fit e w0 st a s w) {q:Nat} {R:ORow} {x:SV} {lost:Option Nat} {v:Value} {w':World} (h:Qqv e st w q R x lost v w'):∃e':Env,e'.chi=e.chi/\x.is e' v/\Fit e' w0 (st.row q R lost) a s w':=by
 obtain ⟨sv,xs,B,hx,hO,hE,hg,hB,hsv,hql,hlost⟩:=h
 have hkeep:∀b,b<w.heap.size->some b≠B->w'.heap[b]? =w.heap[b]? :=fun b hb hn=>hg.block b hb hn
 have hBlo:∀g,B=some g->w0.w.heap.size<=g\/g∈w0.mo:=fun g hgB=>by
  rcases hB g hgB with h|⟨k,_,cs,h1,h2⟩
  · exact F.rows.lo q g h
  · exact F.lo k g h2
 have hblw:KB w0 w':=⟨hg.os.trans F.blw.os,hg.tape.trans F.blw.tape,hg.output.trans F.blw.output,Nat.le_trans F.blw.size hg.size,fun k hk hm=>by
  rw[<-F.blw.block k hk hm]
  refine hkeep k (Nat.lt_of_lt_of_le hk F.blw.size) fun hh=>?_
  rcases hBlo k hh.symm with h|h
  · omega
  · exact hm h⟩
 have hextB:∀b,b<w.heap.size->b ∉ w0.mo->(∀k,¬Qhd e st k b)->(∀q,¬Qdd e st q b)->w'.heap[b]? =w.heap[b]? :=fun b hb _ h1 h2=>hkeep b hb fun hh=>by
  rcases hB b hh.symm with h|⟨k,_,h⟩
  · exact h2 q h
  · exact h1 k h
 by_cases hqlt:q<st.r.length
 · rw[if_pos hqlt] at hx
   have hl:=hlost hqlt
   subst hl
   refine ⟨e.putS q sv,rfl,hx,?_⟩
   have hst:st.row q R none=⟨Qvu q st.t,Q2h q st.h,Qjx q st.fr,Q0b st.r q (some R)⟩:=by
    simp only[St.row,Qyd,if_pos hqlt,Q7m]
   rw[hst]
   have hH:∀k b,Qhd (e.putS q sv) ⟨Qvu q st.t,Q2h q st.h,Qjx q st.fr,Q0b st.r q (some R)⟩ k b->Qhd e st k b:=fun k b ⟨cs,h1,h2⟩=>by
    obtain ⟨cs0,h3,_⟩:=Q3h h1
    exact ⟨cs0,h3,h2⟩
   have hqs:q<e.sg.length:=by rw[F.rows.len];exact hqlt
   refine ⟨Q2s F.fr,F.dfr,Qqn F.tm,hblw,F.lo,fun k b hb=>Nat.lt_of_lt_of_le (F.hi k b hb) hg.size,F.nd,by rw[Q6f];exact F.len,?_,F.ext.kept rfl hg.size hextB (fun k b h=>.inl (hH k b h)) ?_,F.pre,?_⟩
   · intro k b cs hb hc
     obtain ⟨cs0,h3,rfl⟩:=Q3h hc
     obtain ⟨vs,t,h1,h2⟩:=F.cells k b cs0 hb h3
     refine ⟨vs,t,?_,Qon h2⟩
     rw[hkeep b (F.hi k b hb) fun hh=>?_]
     · exact h1
     · rcases hB b hh.symm with h|⟨k',h,_⟩
       · exact F.rows.no q b h k ⟨cs0,h3,hb⟩
       · cases h
   · rintro j b ⟨R',v',h1,h2,h3⟩
     by_cases hjq:j=q
     · subst hjq
       simp only[Env.putS,List.getElem?_set_self hqs,Option.some.injEq] at h2
       subst h2
       rcases (hsv b h3).2 with h|h|⟨k,h,_⟩
       · exact .inr (.inr h)
       · exact .inl h
       · cases h
     · simp only[Q8b,List.getElem?_set_ne (fun hh=>hjq hh.symm)] at h1
       rw[Q8n hjq] at h2
       exact .inl ⟨R',v',h1,h2,h3⟩
   · refine F.rows.put (q:=q) (R:=R) (sv:=sv) (xs:=xs) (by simp[Env.putS,Q8b,F.rows.len]) rfl (by simp[Q8b,List.getElem?_set_self hqlt]) (by simp[Env.putS,List.getElem?_set_self hqs]) (fun j hj=>⟨by simp[Q8b,List.getElem?_set_ne (fun hh=>hj hh.symm)],Q8n hj⟩) hO hE hg.size (fun j b hj hb=>hkeep b (F.rows.hi j b hb) fun hh=>?_) (fun g hg'=>?_) hH
     · rcases hB b hh.symm with h|⟨k',h,_⟩
       · exact hj (F.rows.nd j q b hb h)
       · cases h
     · obtain ⟨h1,h2⟩:=hsv g hg'
       rcases h2 with h2|h2|⟨k,h,_⟩
       · refine ⟨h1,.inl (Nat.le_trans F.blw.size h2),fun j hj hb=>?_,fun k hk=>?_⟩
         · have:=F.rows.hi j g hb;omega
         · obtain ⟨cs,_,h4⟩:=hH k g hk
           have:=F.hi k g h4;omega
       · exact ⟨h1,F.rows.lo q g h2,fun j hj hb=>hj (F.rows.nd j q g hb h2),fun k hk=>F.rows.no q g h2 k (hH k g hk)⟩
       · cases h
 · rw[if_neg hqlt] at hx
   have hqe:q=st.r.length:=by omega
   refine ⟨e.addS sv,rfl,hx,?_⟩
   have hst:st.row q R lost=⟨st.t,Q7m st.h lost,st.fr,st.r++[some R]⟩:=by
    simp only[St.row,Qyd,if_neg hqlt]
   rw[hst]
   have hto:=Qvz e sv
   have hHl:(Q7m st.h lost).length=st.h.length:=by cases lost<;>simp[Q7m,Q8b]
   have hHg:∀(k:Nat) (cs:List SC),(Q7m st.h lost)[k]? =some (some cs)->st.h[k]? =some (some cs)/\lost≠some k:=by
    intro k cs hk
    cases lost with
    | none=>exact ⟨hk,by simp⟩
    | some k'=>
      simp only[Q7m,Q8b,List.getElem?_set] at hk
      split at hk
      · split at hk<;>simp at hk
      · rename_i hne
        exact ⟨hk,fun hh=>hne (by injection hh)⟩
   have hH:∀k b,Qhd (e.addS sv) ⟨st.t,Q7m st.h lost,st.fr,st.r++[some R]⟩ k b->Qhd e st k b/\lost≠some k:=fun k b ⟨cs,h1,h2⟩=>⟨⟨cs,(hHg k cs h1).1,h2⟩,(hHg k cs h1).2⟩
   refine ⟨Qtn hto F.fr,F.dfr,Qjp hto F.tm,hblw,F.lo,fun k b hb=>Nat.lt_of_lt_of_le (F.hi k b hb) hg.size,F.nd,by rw[hHl];exact F.len,?_,F.ext.kept rfl hg.size hextB (fun k b h=>.inl (hH k b h).1) ?_,F.pre,?_⟩
   · intro k b cs hb hc
     obtain ⟨h3,h4⟩:=hHg k cs hc
     obtain ⟨vs,t,h1,h2⟩:=F.cells k b cs hb h3
     refine ⟨vs,t,?_,Qip hto h2⟩
     rw[hkeep b (F.hi k b hb) fun hh=>?_]
     · exact h1
     · rcases hB b hh.symm with h|⟨k',h,cs',h5,h6⟩
       · exact F.rows.no q b h k ⟨cs,h3,hb⟩
       · exact h4 (by rw[h,F.nd k k' b hb h6])
   · rintro j b ⟨R',v',h1,h2,h3⟩
     by_cases hjq:j<st.r.length
     · simp only[List.getElem?_append_left hjq] at h1
       simp only[Env.addS,List.getElem?_append_left (by rw[F.rows.len];exact hjq)] at h2
       exact .inl ⟨R',v',h1,h2,h3⟩
     · have hj:j=st.r.length:=by
        have:=(List.getElem?_eq_some_iff.1 h1).1
        simp at this;omega
       subst hj
       have hsl:st.r.length=e.sg.length:=F.rows.len.symm
       simp only[Env.addS,hsl] at h2
       simp at h2
       subst h2
       rcases (hsv b h3).2 with h|h|⟨k,_,h⟩
       · exact .inr (.inr h)
       · obtain ⟨R'',v'',g1,_⟩:=h
         have:=(List.getElem?_eq_some_iff.1 g1).1
         omega
       · exact .inr (.inl ⟨k,h⟩)
   · have hnoR:∀g,¬Qdd e st q g:=fun g ⟨R',v',h1,_⟩=>by
      have:=(List.getElem?_eq_some_iff.1 h1).1;omega
     refine F.rows.put (q:=q) (R:=R) (sv:=sv) (xs:=xs) (by simp[Env.addS,F.rows.len]) rfl (by simp[hqe]) (by simp[Env.addS,hqe,<-F.rows.len]) (fun j hj=>?_) hO hE hg.size (fun j b hj hb=>hkeep b (F.rows.hi j b hb) fun hh=>?_) (fun g hg'=>?_) (fun k b h=>(hH k b h).1)
     · by_cases hjq:j<st.r.length
       · exact ⟨by simp only[List.getElem?_append_left hjq],by simp only[Env.addS];rw[List.getElem?_append_left (by rw[F.rows.len];exact hjq)]⟩
       · have hl:=F.rows.len
         refine ⟨?_,?_⟩
         · rw[List.getElem?_eq_none (by simp;omega),List.getElem?_eq_none o9]
         · simp only[Env.addS]
           rw[List.getElem?_eq_none (by simp;omega),List.getElem?_eq_none o9]
     · rcases hB b hh.symm with h|⟨k',h,h'⟩
       · exact hnoR b h
       · exact F.rows.no j b hb k' h'
     · obtain ⟨h1,h2⟩:=hsv g hg'
       rcases h2 with h2|h2|⟨k,hk,h⟩
       · refine ⟨h1,.inl (Nat.le_trans F.blw.size h2),fun j hj hb=>?_,fun k hk=>?_⟩
         · have:=F.rows.hi j g hb;omega
         · obtain ⟨⟨cs,_,h4⟩,_⟩:=hH k g hk
           have:=F.hi k g h4;omega
       · exact absurd h2 (hnoR g)
       · obtain ⟨cs',h5,h6⟩:=h
         refine ⟨h1,F.lo k g h6,fun j hj hb=>F.rows.no j g hb k ⟨cs',h5,h6⟩,fun k' hk'=>?_⟩
         obtain ⟨⟨cs,h7,h8⟩,h9⟩:=hH k' g hk'
         exact h9 (by rw[hk,F.nd k k' g h6 h8])
theorem Fit.rst (F:Fit e w0 st a s w) {q g:Nat} {R:ORow} {sv:Value} {xs:List Value} {w':World} (h1:e.sg[q]? =some sv) (h2:sv.ownBlock=some g) (h3:Qdd e st q g) (h4:OwnR w' R.es sv R.n xs) (h5:Q3c e.chi R xs) (h6:w.grownBy w' (some g)) (h7:w'.heap.size=w.heap.size):
 Fit e w0 { st with r:=Q0b st.r q (some R) } a s w':=by
 have hqlt:q<st.r.length:=by
  obtain ⟨R',v',g1,_⟩:=h3
  exact (List.getElem?_eq_some_iff.1 g1).1
 have hkeep:∀b,b<w.heap.size->b≠g->w'.heap[b]? =w.heap[b]? :=fun b hb hn=>h6.block b hb (by simpa using hn)
 have hblw:KB w0 w':=⟨h6.os.trans F.blw.os,h6.tape.trans F.blw.tape,h6.output.trans F.blw.output,Nat.le_trans F.blw.size h6.size,fun k hk hm=>by
  rw[<-F.blw.block k hk hm]
  refine hkeep k (Nat.lt_of_lt_of_le hk F.blw.size) fun hh=>?_
  subst hh
  rcases F.rows.lo q k h3 with h|h
  · omega
  · exact hm h⟩
 refine ⟨F.fr,F.dfr,F.tm,hblw,F.lo,fun k b hb=>by rw[h7];exact F.hi k b hb,F.nd,F.len,?_,F.ext.kept rfl h6.size (fun b hb _ _ hn=>hkeep b hb fun hh=>hn q (hh▸h3)) (fun k b h=>.inl h) ?_,F.pre,?_⟩
 · intro k b cs hb hc
   obtain ⟨vs,t,g1,g2⟩:=F.cells k b cs hb hc
   refine ⟨vs,t,?_,g2⟩
   rw[hkeep b (F.hi k b hb) fun hh=>F.rows.no q g h3 k ⟨cs,hc,hh▸hb⟩]
   exact g1
 · rintro j b ⟨R',v',g1,g2,g3⟩
   by_cases hjq:j=q
   · subst hjq
     rw[h1] at g2;cases g2
     rw[h2] at g3;cases g3
     exact .inl h3
   · simp only[Q8b,List.getElem?_set_ne (fun hh=>hjq hh.symm)] at g1
     exact .inl ⟨R',v',g1,g2,g3⟩
 · refine F.rows.put (q:=q) (R:=R) (sv:=sv) (xs:=xs) (by simp[Q8b,F.rows.len]) rfl (by simp[Q8b,List.getElem?_set_self hqlt]) h1 (fun j hj=>⟨by simp[Q8b,List.getElem?_set_ne (fun hh=>hj hh.symm)],rfl⟩) h4 h5 h6.size (fun j b hj hb=>hkeep b (F.rows.hi j b hb) fun hh=>hj (F.rows.nd j q g (hh▸hb) h3)) (fun g' hg'=>?_) (fun k b h=>h)
   rw[h2] at hg';cases hg'
   exact ⟨by rw[h7];exact F.rows.hi q g h3,F.rows.lo q g h3,fun j hj hb=>hj (F.rows.nd j q g hb h3),fun k hk=>F.rows.no q g h3 k hk⟩
theorem Qmz {t k p:Nat} {X Y:SV} {cs:List SC} (h:Qum T st t X Y=.st k p cs):∃old,st.h[k]? =some (some old)/\p+cs.length<=old.length:=by
 unfold Qum at h
 split at h
 · split at h
   · rename_i y cs' l hz hk hl
     split at h
     · split at h
       · cases h
         rw[Qva] at hk
         exact ⟨_,hk,by omega⟩
       · cases h
     · cases h
   · cases h
 · (repeat' split at h)<;>(cases h;done)
 · (repeat' split at h)<;>(cases h;done)
 · cases h
theorem Qfv {t k p:Nat} {X Y:SV} {cs:List SC} {x:SC} (h:Qum T st t X Y=.askS k p cs x):st.h[k]? =some (some cs):=by
 unfold Qum at h
 (repeat' split at h)<;>first|(cases h;done)|skip
 rename_i hk _
 cases h
 rw[Qva] at hk
 exact hk
theorem Qmy {op:Op} {c:R9z} {k p:Nat} {cs:List SC} {x:SC} (h:opE T c st op=.askS k p cs x):st.h[k]? =some (some cs):=by
 unfold opE at h
 split at h
 all_goals first
  | exact Qfv h
  | (cases h;done)
  | ((repeat' split at h)<;>(cases h;done))
  | (unfold Qh1 at h;(repeat' split at h)<;>(cases h;done))
  | (unfold Qqp at h;(repeat' split at h)<;>(cases h;done))
  | (unfold Qp9 at h;(repeat' split at h)<;>(cases h;done))
  | (unfold Qjs at h;(repeat' split at h)<;>(cases h;done))
  | (unfold Qh0 at h;(repeat' split at h)<;>(cases h;done))
  | (unfold Qg1 at h;(repeat' split at h)<;>(cases h;done))
  | (unfold Qgp at h;(repeat' split at h)<;>(cases h;done))
  | (unfold Qx6 at h;(repeat' split at h)<;>(cases h;done))
  | (unfold Qgq at h;(repeat' split at h)<;>(cases h;done))
  | (unfold Q50 at h;(repeat' split at h)<;>(cases h;done))
  | (unfold Qx6 Qo9 at h;(repeat' split at h)<;>(cases h;done))
theorem Q82 {op:Op} {c:R9z} {k p:Nat} {cs:List SC} (h:opE T c st op=.st k p cs):∃old,st.h[k]? =some (some old)/\p+cs.length<=old.length:=by
 unfold opE at h
 split at h
 all_goals first
  | exact Qmz h
  | (cases h;done)
  | ((repeat' split at h)<;>(cases h;done))
  | (unfold Qh1 at h;(repeat' split at h)<;>(cases h;done))
  | (unfold Qqp at h;(repeat' split at h)<;>(cases h;done))
  | (unfold Qp9 at h;(repeat' split at h)<;>(cases h;done))
  | (unfold Qjs at h;(repeat' split at h)<;>(cases h;done))
  | (unfold Qh0 at h;(repeat' split at h)<;>(cases h;done))
  | (unfold Qg1 at h;(repeat' split at h)<;>(cases h;done))
  | (unfold Qgp at h;(repeat' split at h)<;>(cases h;done))
  | (unfold Qx6 at h;(repeat' split at h)<;>(cases h;done))
  | (unfold Qgq at h;(repeat' split at h)<;>(cases h;done))
  | (unfold Q50 at h;(repeat' split at h)<;>(cases h;done))
  | (unfold Qx6 Qo9 at h;(repeat' split at h)<;>(cases h;done))
end
end Go.Proofs.Ytemnfncbgalljab
