/- Lemmas. No condition. -/
import Derived.Test.YtemnfncbgalljaaGreatI1
import Derived.Test.YtemnfncbgalljaaGreatV1
import Derived.Shelf.Spec.SlicesInsert
import Derived.Shelf.Spec.SlicesInsertGrow
import Derived.Shelf.Slices.CompactI
import Derived.Shelf.Slices.Empties
import Derived.Shelf.Slices.SearchI
import Derived.Shelf.Slices.In.SortNone
import Derived.Shelf.Sort.Plain
import Derived.Lib.RowBridge
namespace Go.Proofs.YtemnfncbgalljaaGreat
open Go.RowKit
set_option linter.all false
section
structure LiveG where
 ln:Nat
 N:Nat
 sc:Nat->List Nat
 us:Nat->Nat->Bool
 st:Nat->Nat->Bool
namespace LiveG
variable (G:LiveG)
def Z (l n:Nat):Prop:=n<G.N/\G.us n l=true
def R (l m n:Nat):Prop:=n<G.N/\m∈G.sc n/\G.st n l=false
noncomputable def liB (l n:Nat):Bool:=clB (G.Z l) (G.R l) n
def tr (n:Nat) (S:B9z) (l:Nat):Bool:=(S l&&!G.st n l)||G.us n l
def addB (i:Nat) (B:Nat->List Nat) (n:Nat):Nat->List Nat:=fun j=>if j=n then B n++[i] else B j
def bfA:Nat->Nat->List Nat
 | 0=>fun _=>[]
 | i+1=>(G.sc i).foldl (addB i) (bfA i)
def bfP (i k:Nat):Nat->List Nat:=((G.sc i).take k).foldl (addB i) (G.bfA i)
theorem bfP_zero (i:Nat):G.bfP i 0=G.bfA i:=by simp[bfP]
theorem bfP_succ {i k:Nat} (hk:k<(G.sc i).length):G.bfP i (k+1)=addB i (G.bfP i k) ((G.sc i).getD k 0):=by
 unfold bfP
 rw[List.take_add_one,List.foldl_append]
 simp only[List.getElem?_eq_getElem hk,Option.toList_some,List.foldl_cons,List.foldl_nil,List.getD,Option.getD_some]
theorem bfP_end (i:Nat):G.bfP i (G.sc i).length=G.bfA (i+1):=by simp[bfP,bfA]
theorem addB_mem {i x n:Nat}:∀(L:List Nat) (B:Nat->List Nat),x∈(L.foldl (addB i) B) n↔x∈B n\/(x=i/\n∈L)
 | [],B=>by simp
 | m::L,B=>by
   rw[List.foldl_cons,addB_mem L]
   have hB:∀j,addB i B m j=if j=m then B m++[i] else B j:=fun j=>rfl
   rw[hB]
   by_cases h:n=m
   · subst h
     rw[if_pos rfl]
     have h1:x∈B n++[i]↔x∈B n\/x=i:=by rw[List.mem_append,List.mem_singleton]
     have h2:n∈n::L:=List.mem_cons_self
     rw[h1]
     constructor
     · rintro ((h|h)|⟨h,_⟩)
       · exact .inl h
       · exact .inr ⟨h,h2⟩
       · exact .inr ⟨h,h2⟩
     · rintro (h|⟨h,_⟩)
       · exact .inl (.inl h)
       · exact .inl (.inr h)
   · rw[if_neg h]
     have h3:n∈m::L↔n∈L:=by rw[List.mem_cons];exact ⟨fun g=>g.resolve_left h,.inr⟩
     rw[h3]
theorem bfA_mem {x n:Nat}:∀i,x∈G.bfA i n↔x<i/\n∈G.sc x
 | 0=>by simp[bfA]
 | i+1=>by
   rw[bfA,addB_mem,bfA_mem i]
   constructor
   · rintro (⟨h1,h2⟩|⟨rfl,h2⟩)
     · exact ⟨by omega,h2⟩
     · exact ⟨by omega,h2⟩
   · rintro ⟨h1,h2⟩
     rcases Nat.lt_or_eq_of_le (Nat.le_of_lt_succ h1) with h|rfl
     · exact .inl ⟨h,h2⟩
     · exact .inr ⟨rfl,h2⟩
theorem addB_len {i n:Nat}:∀(L:List Nat) (B:Nat->List Nat),((L.foldl (addB i) B) n).length<=(B n).length+L.length
 | [],B=>by simp
 | m::L,B=>by
   rw[List.foldl_cons]
   have:=addB_len (i:=i) (n:=n) L (addB i B m)
   unfold addB at this⊢
   split at this
   · rename_i h;subst h
     simp only[List.length_append,List.length_cons,List.length_nil] at this⊢
     omega
   · simp only[List.length_cons];omega
theorem bfP_len {n:Nat} (h2:∀i,(G.sc i).length<=2) (i k:Nat):(G.bfP i k n).length<=2 * i+2:=by
 have key:∀i,(G.bfA i n).length<=2 * i:=by
  intro i
  induction i with
  | zero=>simp[bfA]
  | succ i ih=>
    have:=addB_len (i:=i) (n:=n) (G.sc i) (G.bfA i)
    have:=h2 i
    simp only[bfA];omega
 have:=addB_len (i:=i) (n:=n) ((G.sc i).take k) (G.bfA i)
 have:=key i
 have:=h2 i
 have:((G.sc i).take k).length<=(G.sc i).length:=by simp;omega
 unfold bfP;omega
abbrev LS:=(Nat->Nat->Bool)×(Nat->Bool)
def subB (M S:B9z):Bool:=Qed G.ln fun l=>decide ((S l||M l)=S l)
def relaxL (M:B9z) (x:LS) (n:Nat):LS:=if subB G M (x.1 n)=true then x else (fun j l=>if j=n then x.1 n l||M l else x.1 j l,fun j=>if j=n then true else x.2 j)
def lft (B:B9y):Nat->Nat
 | 0=>0
 | n+1=>lft B n+FlowG.cnt (fun l=>!B n l) G.ln
theorem lft_eq {B B':B9y}:∀n,(∀j,j<n->B j=B' j)->lft G B n=lft G B' n
 | 0,_=>rfl
 | n+1,h=>by simp only[lft,lft_eq n (fun j hj=>h j o9),h n o9]
theorem lft_up {M:B9z} {B:B9y} {n:Nat} (h:subB G M (B n)=false):∀m,n<m->lft G (fun j l=>if j=n then B n l||M l else B j l) m<lft G B m:=by
 intro m
 induction m with
 | zero=>intro h;omega
 | succ m ih=>
   intro hnm
   simp only[lft]
   by_cases g:n=m
   · subst g
     rw[lft_eq G (B':=B) n (fun j hj=>funext fun l=>by rw[if_neg o9])]
     simp only[if_true]
     have:∃k,k<G.ln/\(B n k||M k)≠B n k:=by
      refine Classical.byContradiction fun hh=>?_
      rw[show subB G M (B n)=true from Qla.2 fun k hk=>decide_eq_true (Classical.byContradiction fun h3=>hh ⟨k,hk,h3⟩)] at h
      cases h
     obtain ⟨k,hk,h3⟩:=this
     have h4:B n k=false/\M k=true:=by
      cases h5:B n k<;>cases h6:M k<;>simp_all
     have:=FlowG.cnt_lt (S:=fun l=>!(B n l||M l)) (T:=fun l=>!B n l) (fun l hl=>by
      simp only[Bool.not_or,Bool.and_eq_true,Bool.not_eq_true'] at hl⊢;exact hl.1) (k:=k) (by simp[h4.2]) (by simp[h4.1]) G.ln hk
     omega
   · have:=ih o9
     rw[show (fun l=>!(if m=n then B n l||M l else B m l))=fun l=>!B m l from funext fun l=>by rw[if_neg o9]]
     omega
theorem cnt_set {W:B9z} {n:Nat}:∀m,FlowG.cnt (fun j=>if j=n then true else W j) m<=FlowG.cnt W m+1
 | 0=>by simp[FlowG.cnt]
 | m+1=>by
   have ih:=cnt_set (W:=W) (n:=n) m
   simp only[FlowG.cnt]
   by_cases g:m=n
   · subst g
     have:FlowG.cnt (fun j=>if j=m then true else W j) m=FlowG.cnt W m:=by
      have key:∀q,q<=m->FlowG.cnt (fun j=>if j=m then true else W j) q=FlowG.cnt W q:=by
       intro q
       induction q with
       | zero=>intro _;rfl
       | succ q ih=>
         intro hq
         have e:¬q=m:=by omega
         simp only[FlowG.cnt,ih o9,if_neg e]
      exact key m (Nat.le_refl _)
     rw[this]
     split<;>split<;>omega
   · simp only[if_neg g];omega
theorem cnt_drop {W:B9z} {n:Nat} (h:W n=true):∀m,n<m->FlowG.cnt (fun j=>if j=n then false else W j) m<FlowG.cnt W m:=
 fun m hm=>FlowG.cnt_lt (fun l hl=>by split at hl;cases hl;exact hl) (k:=n) (by simp) h m hm
structure RelL (M:B9z) (L:List Nat) (x y:LS):Prop where
 up:∀n l,x.1 n l=true->y.1 n l=true
 wk:∀n,x.2 n=true->y.2 n=true
 all:∀n∈L,∀l,l<G.ln->M l=true->y.1 n l=true
 chg:∀n,(∀l,l<G.ln->y.1 n l=x.1 n l)\/y.2 n=true
 new:∀n,y.2 n=true->x.2 n=true\/n∈L
 snd:∀n l,l<G.ln->y.1 n l=true->x.1 n l=true\/(n∈L/\M l=true)
 m:(∀n∈L,n<G.N)->lft G y.1 G.N+FlowG.cnt y.2 G.N<=lft G x.1 G.N+FlowG.cnt x.2 G.N
theorem rel_one (M:B9z) (x:LS) (n:Nat):RelL G M [n] x (relaxL G M x n):=by
 by_cases h:subB G M (x.1 n)=true
 · have e:relaxL G M x n=x:=by unfold relaxL;rw[if_pos h]
   rw[e]
   refine ⟨fun _ _ h=>h,fun _ h=>h,fun k hk l hl hM=>?_,fun _=>.inl fun _ _=>rfl,fun _ h=>.inl h,fun _ _ _ h=>.inl h,fun _=>Nat.le_refl _⟩
   obtain rfl:=List.mem_singleton.1 hk
   have:=of_decide_eq_true (Qla.1 h l hl)
   rw[hM,Bool.or_true] at this;exact this.symm
 · have hf:subB G M (x.1 n)=false:=by simpa using h
   have e:relaxL G M x n=(fun j l=>if j=n then x.1 n l||M l else x.1 j l,fun j=>if j=n then true else x.2 j):=by unfold relaxL;rw[if_neg h]
   rw[e]
   refine ⟨fun k l hk=>?_,fun k hk=>?_,fun k hk l _ hM=>?_,fun k=>?_,fun k hk=>?_,fun k l _ hk=>?_,fun hN=>?_⟩
   · simp only;split
     · rename_i g;subst g;rw[hk];rfl
     · exact hk
   · simp only;split
     · rfl
     · exact hk
   · obtain rfl:=List.mem_singleton.1 hk
     simp[hM]
   · by_cases g:k=n
     · exact .inr (by simp[g])
     · exact .inl fun l _=>by simp[g]
   · simp only at hk
     split at hk
     · rename_i g;exact .inr (by simp[g])
     · exact .inl hk
   · simp only at hk
     split at hk
     · rename_i g
       subst g
       rw[Bool.or_eq_true] at hk
       rcases hk with hk|hk
       · exact .inl hk
       · exact .inr ⟨by simp,hk⟩
     · exact .inl hk
   · have h1:=lft_up G hf G.N (hN n (by simp))
     have h2:=cnt_set (W:=x.2) (n:=n) G.N
     simp only;omega
theorem RelL.trans {M:B9z} {L L':List Nat} {x y z:LS} (h1:RelL G M L x y) (h2:RelL G M L' y z):RelL G M (L++L') x z:=by
 refine ⟨fun n l h=>h2.up n l (h1.up n l h),fun n h=>h2.wk n (h1.wk n h),fun n hn l hl hM=>?_,fun n=>?_,fun n hn=>?_,fun n l hl h=>?_,fun hN=>?_⟩
 · rcases List.mem_append.1 hn with hn|hn
   · exact h2.up n l (h1.all n hn l hl hM)
   · exact h2.all n hn l hl hM
 · rcases h2.chg n with g|g
   · rcases h1.chg n with g'|g'
     · exact .inl fun l hl=>(g l hl).trans (g' l hl)
     · exact .inr (h2.wk n g')
   · exact .inr g
 · rcases h2.new n hn with h|h
   · rcases h1.new n h with h|h
     · exact .inl h
     · exact .inr (List.mem_append_left _ h)
   · exact .inr (List.mem_append_right _ h)
 · rcases h2.snd n l hl h with h|⟨h,g⟩
   · rcases h1.snd n l hl h with h|⟨h,g⟩
     · exact .inl h
     · exact .inr ⟨List.mem_append_left _ h,g⟩
   · exact .inr ⟨List.mem_append_right _ h,g⟩
 · exact Nat.le_trans (h2.m fun n hn=>hN n (List.mem_append_right _ hn)) (h1.m fun n hn=>hN n (List.mem_append_left _ hn))
theorem RelL.nil (M:B9z) (x:LS):RelL G M [] x x:=⟨fun _ _ h=>h,fun _ h=>h,fun _ h=>by simp at h,fun _=>.inl fun _ _=>rfl,fun _ h=>.inl h,fun _ _ _ h=>.inl h,fun _=>Nat.le_refl _⟩
theorem rel_all (M:B9z):∀(L:List Nat) (x:LS),RelL G M L x (L.foldl (relaxL G M) x)
 | [],x=>.nil G M x
 | n::L,x=>by
   rw[List.foldl_cons,show n::L=[n]++L from rfl]
   exact (rel_one G M x n).trans G (rel_all M L _)
structure Inv (O B:B9y) (W:B9z):Prop where
 wN:∀n,W n=true->n<G.N
 bs:∀n l,n<G.N->l<G.ln->B n l=true->∃m,m∈G.sc n/\Cl (G.Z l) (G.R l) m
 os:∀n l,n<G.N->l<G.ln->O n l=true->Cl (G.Z l) (G.R l) n
 tr:∀n,n<G.N->W n=false->∀l,l<G.ln->O n l=G.tr n (B n) l
 ed:∀m,m<G.N->W m=false->∀n,n<G.N->m∈G.sc n->∀l,l<G.ln->O m l=true->B n l=true
def setO (O:B9y) (a:Nat) (o:B9z):Nat->Nat->Bool:=fun j l=>if j=a then o l else O j l
def drop (W:B9z) (a:Nat):Nat->Bool:=fun j=>if j=a then false else W j
def visit (B:B9y) (W:B9z) (a:Nat):LS:=(G.bfA G.N a).foldl (relaxL G (G.tr a (B a))) (B,drop W a)
def visP (B:B9y) (W:B9z) (a k:Nat):LS:=((G.bfA G.N a).take k).foldl (relaxL G (G.tr a (B a))) (B,drop W a)
theorem visP_zero (B:B9y) (W:B9z) (a:Nat):G.visP B W a 0=(B,drop W a):=by simp[visP]
theorem visP_succ {B:B9y} {W:B9z} {a k:Nat} (hk:k<(G.bfA G.N a).length):G.visP B W a (k+1)=relaxL G (G.tr a (B a)) (G.visP B W a k) ((G.bfA G.N a).getD k 0):=by
 unfold visP
 rw[List.take_add_one,List.foldl_append]
 simp only[List.getElem?_eq_getElem hk,Option.toList_some,List.foldl_cons,List.foldl_nil,List.getD,Option.getD_some]
theorem visP_end (B:B9y) (W:B9z) (a:Nat):G.visP B W a (G.bfA G.N a).length=G.visit B W a:=by simp[visP,visit]
theorem visP_wN {B:B9y} {W:B9z} {a:Nat} (hW:∀n,W n=true->n<G.N) (k:Nat):∀n,(G.visP B W a k).2 n=true->n<G.N:=fun n hn=>by
 have h:=rel_all G (G.tr a (B a)) ((G.bfA G.N a).take k) (B,drop W a)
 rcases h.new n hn with g|g
 · simp only[drop] at g
   split at g
   · cases g
   · exact hW n g
 · exact ((G.bfA_mem G.N).1 (List.mem_of_mem_take g)).1
variable {G}
theorem inv_first:Inv G (fun _ _=>false) (fun _ _=>false) (fun n=>decide (n<G.N)):=
 { wN:=fun n h=>of_decide_eq_true h
   bs:=fun _ _ _ _ h=>absurd h (by simp)
   os:=fun _ _ _ _ h=>absurd h (by simp)
   tr:=fun n hn h=>absurd (of_decide_eq_false h) (fun g=>g hn)
   ed:=fun n hn h=>absurd (of_decide_eq_false h) (fun g=>g hn) }
theorem inv_step {O B:B9y} {W:B9z} {a:Nat} (h:Inv G O B W) (ha:W a=true):
 Inv G (setO O a (G.tr a (B a))) (G.visit B W a).1 (G.visit B W a).2/\lft G (G.visit B W a).1 G.N+FlowG.cnt (G.visit B W a).2 G.N<lft G B G.N+FlowG.cnt W G.N:=by
 have hv:=rel_all G (G.tr a (B a)) (G.bfA G.N a) (B,drop W a)
 unfold visit
 generalize (G.bfA G.N a).foldl (relaxL G (G.tr a (B a))) (B,drop W a)=y at hv
 have haN:=h.wN a ha
 have hbm:∀n,n∈G.bfA G.N a↔n<G.N/\a∈G.sc n:=fun n=>G.bfA_mem G.N
 have hm:=hv.m fun n hn=>((hbm n).1 hn).1
 have hd:=cnt_drop ha G.N haN
 have hoa:∀l,l<G.ln->G.tr a (B a) l=true->Cl (G.Z l) (G.R l) a:=fun l hl ho=>by
  simp only[tr,Bool.or_eq_true,Bool.and_eq_true,Bool.not_eq_true'] at ho
  rcases ho with ⟨h1,h2⟩|h1
  · obtain ⟨m,hm,hc⟩:=h.bs a l haN hl h1
    exact .step hc ⟨haN,hm,h2⟩
  · exact .zero ⟨haN,h1⟩
 have hdr:∀n,drop W a n=true->W n=true:=fun n hn=>by
  simp only[drop] at hn;split at hn;cases hn;exact hn
 have hfl:∀n,y.2 n=false->n≠a->W n=false:=fun n hn hna=>by
  cases hw:W n with
  | false=>rfl
  | true=>
    have:y.2 n=true:=hv.wk n (by simp only[drop,if_neg hna];exact hw)
    rw[this] at hn;cases hn
 refine ⟨⟨fun n hn=>?_,fun n l hn hl hb=>?_,fun n l hn hl ho=>?_,fun n hn hw l hl=>?_,fun m hm' hw n hn hmn l hl ho=>?_⟩,by simp only at hm hd⊢;unfold drop at hm;omega⟩
 · rcases hv.new n hn with g|g
   · exact h.wN n (hdr n g)
   · exact ((hbm n).1 g).1
 · rcases hv.snd n l hl hb with g|⟨g1,g2⟩
   · exact h.bs n l hn hl g
   · exact ⟨a,((hbm n).1 g1).2,hoa l hl g2⟩
 · simp only[setO] at ho
   split at ho
   · rename_i e;subst e;exact hoa l hl ho
   · exact h.os n l hn hl ho
 · have hB:∀l,l<G.ln->y.1 n l=B n l:=by
    rcases hv.chg n with g|g
    · exact g
    · rw[g] at hw;cases hw
   have et:G.tr n (y.1 n) l=G.tr n (B n) l:=by simp only[tr,hB l hl]
   rw[et]
   simp only[setO]
   split
   · rename_i e;subst e;rfl
   · rename_i e;exact h.tr n hn (hfl n hw e) l hl
 · simp only[setO] at ho
   split at ho
   · rename_i e;subst e
     exact hv.all n ((hbm n).2 ⟨hn,hmn⟩) l hl ho
   · rename_i e
     exact hv.up n l (h.ed m hm' (hfl m hw e) n hn hmn l hl ho)
theorem inv_end {O B:B9y} {W:B9z} (hs:∀n,n<G.N->∀q∈G.sc n,q<G.N) (h:Inv G O B W) (hW:∀n,W n=false) {n l:Nat} (hn:n<G.N) (hl:l<G.ln):O n l=G.liB l n:=by
 refine Qh7 (N:=G.N) (S:=fun n=>O n l) (fun n hz=>hz.1) (fun m n hr=>hr.1) (fun n hn hs=>h.os n l hn hl hs) (fun n hn hz=>?_) (fun m n hm hn hS hr=>?_) hn
 · rw[h.tr n hn (hW n) l hl];simp[tr,hz.2]
 · rw[h.tr n hn (hW n) l hl]
   have:=h.ed m hm (hW m) n hn hr.2.1 l hl hS
   simp[tr,this,hr.2.2]
theorem li_eq (hs:∀n,n<G.N->∀q∈G.sc n,q<G.N) {n l:Nat} (hn:n<G.N):G.liB l n=(((G.sc n).any fun q=>G.liB l q)&&!G.st n l||G.us n l):=by
 have e:=Qmb (Z:=G.Z l) (R:=G.R l) (n:=n)
 have e2:∀q,G.liB l q=true↔Cl (G.Z l) (G.R l) q:=fun q=>Qmb
 have key:Cl (G.Z l) (G.R l) n↔(((G.sc n).any fun q=>G.liB l q)&&!G.st n l||G.us n l)=true:=by
  simp only[Bool.or_eq_true,Bool.and_eq_true,List.any_eq_true,Bool.not_eq_true',e2]
  constructor
  · intro h
    cases h with
    | zero h=>exact .inr h.2
    | step h r=>exact .inl ⟨⟨_,r.2.1,h⟩,r.2.2⟩
  · rintro (⟨⟨q,h1,h2⟩,h3⟩|h)
    · exact .step h2 ⟨hn,h1,h3⟩
    · exact .zero ⟨hn,h⟩
 rw[Bool.eq_iff_iff]
 exact e.trans key
end LiveG
end
section
open Go.RowKit Go.Shelf Go.Sort
def inR (zs:List Int):ORow:=⟨zs.length,1,fun j=>[.int .i64 (zs.getD j 0)]⟩
theorem Qbf (zs:List Int):Qic [inR zs]:=⟨fun _ _=>rfl,trivial⟩
theorem Qhs (c:R9z) (zs:List Int):Q3c c (inR zs) (zs.map (Value.int .i64)):=fun j hj=>by
 have hj:j<zs.length:=hj
 show isL _ [_] (((zs.map (Value.int .i64)).drop (j * 1)).take 1)
 rw[Nat.mul_one,List.drop_eq_getElem_cons (by simpa using hj)]
 simp only[List.take_succ_cons,List.take_zero,List.getElem_map]
 exact ⟨by simp[SC.is,List.getD,List.getElem?_eq_getElem hj],trivial⟩
theorem Qln {c:R9z} {zs:List Int} {xs:List Value} (hl:xs.length=zs.length * 1) (h:Q3c c (inR zs) xs):xs=zs.map (Value.int .i64):=by
 apply List.ext_getElem?
 intro j
 by_cases hj:j<zs.length
 · have:=h j hj
   change isL _ [_] ((xs.drop (j * 1)).take 1) at this
   have hj':j<xs.length:=by omega
   rw[Nat.mul_one,List.drop_eq_getElem_cons hj'] at this
   simp only[List.take_succ_cons,List.take_zero] at this
   rw[List.getElem?_eq_getElem hj',List.getElem?_map,List.getElem?_eq_getElem hj]
   have h1:xs[j]=.int .i64 (zs.getD j 0):=this.1
   rw[h1];simp[List.getD,List.getElem?_eq_getElem hj]
 · rw[List.getElem?_eq_none o9,List.getElem?_eq_none (by simp;omega)]
theorem Qdk (zs:List Int):∀u∈zs.map (Value.int .i64),u.oneCell'=true:=fun u hu=>by
 obtain ⟨z,_,rfl⟩:=List.mem_map.1 hu;rfl
section
variable {c:R9z} {w1 w2:World}
theorem Qug {g o cap n0:Nat} {cur cur':Array Value} {ty:TypeId} {zs:List Int} (hw1:w1.heap[g]? =some (.cells cur ty (0,0))) (hcap:cap<=maxLen) (ho:o+cap<=cur.size) (hn:zs.length<=cap) (hw2:w2.heap[g]? =some (.cells cur' ty (0,0))) (hsz:cur'.size=cur.size)
 (hxs:(cur'.toList.drop o).take zs.length=zs.map (Value.int .i64)) (hgr:w1.grownBy w2 (some g)):RowTo c w1 (.slice (some ⟨g,o,none⟩) n0 cap) (inR zs) (.slice (some ⟨g,o,none⟩) zs.length cap) w2:=
 ⟨⟨zs.map (Value.int .i64),⟨by simp[inR],Qdk zs,.inr ⟨g,o,cap,cur',ty,rfl,hw2,hn,hcap,by show o+cap * 1<=_;omega,by show (cur'.toList.drop o).take (zs.length * 1)=_;rw[Nat.mul_one];exact hxs⟩⟩,Qhs c zs⟩,hgr,
  fun b hb=>by cases hb;exact ⟨(Array.getElem?_eq_some_iff.1 hw2).1,.inr rfl⟩⟩
theorem Qqc {row:Option Nat} (os:w2.os=w1.os) (tape:w2.tape=w1.tape) (out:w2.output=w1.output) (size:w1.heap.size<=w2.heap.size) (block:∀i,i<w1.heap.size->some i≠row->w2.heap[i]? =w1.heap[i]?):w1.grownBy w2 row:=⟨os,tape,out,size,block⟩
theorem Qzp {w:World} {g o:Nat} {d:Array Int} {cur:Array Value} {ty:TypeId} {fr:Nat×Nat} (h:w.heap[g]? =some (.cells cur ty fr)):(putRow (Value.int .i64) w g o d).heap[g]? =some (.cells (putCells (Value.int .i64) o d cur) ty fr):=by
 simp[putRow,mapBlock,Array.getElem?_modify,h,onCells]
theorem Q0p {w:World} {g o j:Nat} {d:Array Int} (h:j≠g):(putRow (Value.int .i64) w g o d).heap[j]? =w.heap[j]? :=by
 simp only[putRow,mapBlock,Array.getElem?_modify]
 rw[if_neg (fun e:g=j=>h e.symm)]
theorem Qqj {o n:Nat} {zs:List Int} {cur:Array Value} (hn:n<=zs.length) (ho:o+zs.length<=cur.size):((putCells (Value.int .i64) o zs.toArray cur).toList.drop o).take n=(zs.take n).map (Value.int .i64):=by
 apply List.ext_getElem?
 intro j
 simp only[List.getElem?_take,List.getElem?_drop,List.getElem?_map,Array.getElem?_toList,putCells,Array.getElem?_mapIdx]
 by_cases hj:j<n
 · have h1:o+j<cur.size:=by omega
   have h2:j<zs.length:=by omega
   rw[if_pos hj,if_pos hj,Array.getElem?_eq_getElem h1,Option.map_some,List.getElem?_eq_getElem h2,Option.map_some]
   rw[if_pos ⟨by omega,by simp;omega⟩,show o+j - o=j by omega]
   rw[getElem!_pos _ j (by simpa using h2)]
   simp
 · rw[if_neg hj,if_neg hj];rfl
theorem ownR_holds {g o cap n:Nat} {zs:List Int} {xs:List Value} (h:OwnR w1 1 (.slice (some ⟨g,o,none⟩) n cap) zs.length xs) (hx:xs=zs.map (Value.int .i64)):n=zs.length/\zs.length<=cap/\cap<=maxLen/\g<w1.heap.size/\Holds (Value.int .i64) w1 g o zs.toArray/\
 ∃cur ty,w1.heap[g]? =some (.cells cur ty (0,0))/\o+cap<=cur.size:=by
 have hn:=h.at
 subst hn
 rcases h.2.2 with ⟨h1,_⟩|⟨g',o',cap',cur,ty,h1,h2,h3,h4,h5,h6⟩
 · cases h1
 · cases h1
   refine ⟨rfl,h3,h4,(Array.getElem?_eq_some_iff.1 h2).1,fun j hj=>⟨?_,by simp[World.frozen?,h2]⟩,cur,ty,h2,by omega⟩
   simp only[List.size_toArray] at hj
   have:=h.cell (j:=j) (u:=.int .i64 (zs.getD j 0)) (by rw[hx];simp[List.getD,List.getElem?_eq_getElem hj])
   rw[this,getElem!_pos _ j (by simpa using hj)]
   simp[List.getD,List.getElem?_eq_getElem hj]
end
section
variable {P:Program} {ρ:Ren} {c:R9z}
def Qoh (zs:List Int):List Int:=zs.mergeSort fun x y=>decide (x<=y)
theorem Qeo (zs:List Int):(Qoh zs).length=zs.length:=List.length_mergeSort zs
theorem Q41 {zs:List Int} {x:Int}:x∈Qoh zs↔x∈zs:=(List.mergeSort_perm zs _).mem_iff
theorem Qur (zs:List Int):(Qoh zs).Pairwise (·<=·):=by
 have:=List.pairwise_mergeSort (le:=fun x y:Int=>decide (x<=y)) (fun a b c h1 h2=>by simp at *;omega) (fun a b=>by simp;omega) zs
 exact this.imp (fun h=>by simpa using h)
theorem Qyaa (L:Lays.n189 P ρ) (zs:List Int) (hz:zs.length<1000) (w1:World) (v:Value) (h:RowIs c w1 (inR zs) v):
 Calls P (ρ.f 189) #[v] w1 (fun en w2=>en=.returned (.tuple #[])/\RowTo c w1 v (inR (Qoh zs)) v w2):=by
 obtain ⟨xs,ho,hE,hb⟩:=h
 have hx:=Qln ho.1 hE
 rcases ho.2.2 with ⟨rfl,h0⟩|⟨g,o,cap,cur,ty,rfl,h2,h3,h4,h5,h6⟩
 · have h0:zs=[]:=List.eq_nil_of_length_eq_zero h0
   subst h0
   refine (Any.slices_Sort_int_none L none 0 w1).mono ?_
   rintro en w2 ⟨rfl,rfl⟩
   rw[show Qoh []=[] by simp[Qoh]]
   exact ⟨rfl,⟨[],⟨rfl,by simp,.inl ⟨rfl,rfl⟩⟩,fun j hj=>absurd hj (Nat.not_lt_zero _)⟩,Qqc rfl rfl rfl (Nat.le_refl _) (fun _ _ _=>rfl),fun g hg=>by cases hg⟩
 · obtain ⟨hn,hc1,hc2,hg,hH,cur',ty',hw,hsz⟩:=ownR_holds (n:=(inR zs).n) ho hx
   have hnz:(inR zs).n=zs.length:=rfl
   rw[hnz]
   refine (Any.slices_Sort_int L g o cap zs w1 hH hg o9).mono ?_
   rintro en w2 ⟨rfl,m,os,rfl⟩
   refine ⟨rfl,?_⟩
   have e1:(Qoh zs).length=zs.length:=Qeo zs
   have hat:(grow (putRow (Value.int .i64) (Go.Sort.ahead w1 m) g o (Qoh zs).toArray) os).heap[g]? =some (.cells (putCells (Value.int .i64) o (Qoh zs).toArray cur') ty' (0,0)):=by
    rw[heap_grow_old _ _ (by simpa using hg)]
    exact Qzp (w:=Go.Sort.ahead w1 m) hw
   have:=Qug (c:=c) (n0:=zs.length) (zs:=Qoh zs) hw hc2 hsz o9 hat (by simp[putCells]) (by rw[Qqj (Nat.le_refl _) o9,List.take_length]) (Qqc rfl rfl rfl (by simp) (fun i hi hne=>by
    rw[heap_grow_old _ _ (by simpa using hi)]
    exact Q0p (w:=Go.Sort.ahead w1 m) (fun e=>hne (by rw[e]))))
   rw[e1] at this
   exact this
theorem Qg0 (L:Lays2.n20 P ρ) (zs:List Int) (hz:zs.length<1000) (w1:World) (v:Value) (h:RowIs c w1 (inR zs) v):
 Calls P (ρ.f 20) #[v] w1 (fun en w2=>∃sv,en=.returned sv/\RowTo c w1 v (inR (Lib.compact zs)) sv w2):=by
 obtain ⟨xs,ho,hE,hb⟩:=h
 have hx:=Qln ho.1 hE
 rcases ho.2.2 with ⟨rfl,h0⟩|⟨g,o,cap,cur,ty,rfl,h2,h3,h4,h5,h6⟩
 · have h0:zs=[]:=List.eq_nil_of_length_eq_zero h0
   subst h0
   refine (Any.slices_Compact_int_empty L none 0 w1).mono ?_
   rintro en w2 ⟨rfl,rfl⟩
   exact ⟨_,rfl,⟨[],⟨rfl,by simp,.inl ⟨rfl,rfl⟩⟩,fun j hj=>absurd hj (Nat.not_lt_zero _)⟩,Qqc rfl rfl rfl (Nat.le_refl _) (fun _ _ _=>rfl),fun g hg=>by cases hg⟩
 · obtain ⟨hn,hc1,hc2,hg,hH,cur',ty',hw,hsz⟩:=ownR_holds (n:=(inR zs).n) ho hx
   have hnz:(inR zs).n=zs.length:=rfl
   rw[hnz]
   refine (Any.slices_Compact_int L g o cap zs w1 hH o9 hc1).mono ?_
   rintro en w2 ⟨rfl,m,rfl⟩
   refine ⟨_,rfl,?_⟩
   have hle:(Lib.compact zs).length<=zs.length:=Lib.compact_length_le zs
   have hl:(Lib.compact zs++List.replicate (zs.length - (Lib.compact zs).length) 0).length=zs.length:=by simp;omega
   have hat:(putRow (Value.int .i64) (Go.Sort.ahead w1 m) g o (Lib.compact zs++List.replicate (zs.length - (Lib.compact zs).length) 0).toArray).heap[g]? =some (.cells (putCells (Value.int .i64) o (Lib.compact zs++List.replicate (zs.length - (Lib.compact zs).length) 0).toArray cur') ty' (0,0)):=Qzp (w:=Go.Sort.ahead w1 m) hw
   exact Qug (c:=c) (n0:=zs.length) (zs:=Lib.compact zs) hw hc2 hsz o9 hat (by simp[putCells]) (by rw[Qqj o9 o9,List.take_left]) (Qqc rfl rfl rfl (by simp) (fun i hi hne=>Q0p (w:=Go.Sort.ahead w1 m) (fun e=>hne (by rw[e]))))
theorem Qb6 (L:Lays2.n25 P ρ) (zs:List Int) (hz:zs.length<1000) (hs:zs.Pairwise (·<=·)) (x:Int) (w1:World) (v:Value) (h:RowIs c w1 (inR zs) v):
 Calls P (ρ.f 25) #[v,.int .i64 x] w1 (Ret w1 (.tuple #[.int .i64 (.ofNat (zs.countP (·<x))),.bool (zs.contains x)])):=by
 obtain ⟨xs,ho,hE,hb⟩:=h
 have hx:=Qln ho.1 hE
 rcases ho.2.2 with ⟨rfl,h0⟩|⟨g,o,cap,cur,ty,rfl,h2,h3,h4,h5,h6⟩
 · have h0:zs=[]:=List.eq_nil_of_length_eq_zero h0
   subst h0
   refine (Any.slices_BinarySearch_int_empty L none 0 x w1).mono ?_
   rintro en w2 ⟨rfl,rfl⟩
   exact ⟨rfl,Below.refl _ _⟩
 · have hnz:(inR zs).n=zs.length:=rfl
   rw[hnz]
   refine (Any.slices_BinarySearch_int L g o zs.length cap zs x w1 (Nat.le_refl _) o9 (fun j hj=>?_) (by rw[List.take_length];exact hs)).mono ?_
   · have:=ho.cell (j:=j) (u:=.int .i64 (zs.getD j 0)) (by rw[hx];simp[List.getD,List.getElem?_eq_getElem hj])
     exact this
   · rintro en w2 ⟨rfl,m,rfl⟩
     rw[List.take_length]
     exact ⟨rfl,⟨rfl,rfl,rfl,Nat.le_refl _,fun _ _=>rfl⟩⟩
end
section
variable {c:R9z}
theorem Qod {b:Nat} {ty:TypeId} {fr:Nat×Nat}:∀(vs:List Value) (o:Nat) (w:World) (cur:Array Value),w.heap[b]? =some (.cells cur ty fr)->o+vs.length<=cur.size->(w.setCells b o vs).heap[b]? =some (.cells (Qka cur.toList o vs).toArray ty fr)
 | [],o,w,cur,h,_=>by
   have:Qka cur.toList o ([]:List Value)=cur.toList:=by cases cur.toList<;>simp[Qka]
   rw[this];simpa [World.setCells] using h
 | v::vs,o,w,cur,h,hl=>by
   simp only[List.length_cons] at hl
   have hb':(w.setCell ⟨b,o,none⟩ v).heap[b]? =some (.cells (cur.setIfInBounds o v) ty fr):=by
    simp only[World.setCell,Array.getElem?_modify,h]
    simp
   rw[World.setCells,Qod vs (o+1) _ _ hb' (by simp;omega)]
   congr 2
   apply Array.ext_getElem?
   intro j
   simp only[List.getElem?_toArray,Array.toList_setIfInBounds]
   rw[Q9a _ _ _ _ (by simp;omega),Q9a _ _ _ _ (by simp;omega)]
   simp only[List.length_cons,List.getElem?_set,Array.length_toList]
   by_cases g0:j=o
   · subst g0
     have:j<j+1:=by omega
     simp[this];omega
   · have g0':¬o=j:=fun e=>g0 e.symm
     by_cases g1:j<o
     · have:j<o+1:=by omega
       simp[g1,this,g0']
     · have g2:¬j<o+1:=by omega
       simp only[g1,g2,if_false,g0']
       by_cases g3:j<o+1+vs.length
       · rw[if_pos g3,if_pos o9]
         have:j - o=(j - (o+1))+1:=by omega
         rw[this];simp
       · rw[if_neg g3,if_neg o9]
theorem Qpd {b j:Nat} (hj:j≠b):∀(vs:List Value) (o:Nat) (w:World),(w.setCells b o vs).heap[j]? =w.heap[j]?
 | [],_,_=>rfl
 | v::vs,o,w=>by
   rw[World.setCells,Qpd hj vs]
   simp only[World.setCell,Array.getElem?_modify]
   rw[if_neg (fun e=>hj e.symm)]
theorem Qqd {b:Nat}:∀(vs:List Value) (o:Nat) (w:World),(w.setCells b o vs).os=w.os/\(w.setCells b o vs).tape=w.tape/\(w.setCells b o vs).output=w.output/\(w.setCells b o vs).heap.size=w.heap.size
 | [],_,_=>⟨rfl,rfl,rfl,rfl⟩
 | v::vs,o,w=>by
   rw[World.setCells]
   obtain ⟨h1,h2,h3,h4⟩:=Qqd (b:=b) vs (o+1) (w.setCell ⟨b,o,none⟩ v)
   exact ⟨h1,h2,h3,by rw[h4];simp[World.setCell]⟩
theorem Qil {w1 w2:World} {v0:Value} {cap:Nat} {cur:Array Value} {ty:TypeId} {zs:List Int} (hcap:cap<=maxLen) (ho:cap<=cur.size) (hn:zs.length<=cap) (hw2:w2.heap[w1.heap.size]? =some (.cells cur ty (0,0)))
 (hxs:cur.toList.take zs.length=zs.map (Value.int .i64)) (hgr:w1.grownBy w2 v0.ownBlock):RowTo c w1 v0 (inR zs) (.slice (some ⟨w1.heap.size,0,none⟩) zs.length cap) w2:=
 ⟨⟨zs.map (Value.int .i64),⟨by simp[inR],Qdk zs,.inr ⟨_,0,cap,cur,ty,rfl,hw2,hn,hcap,by show 0+cap * 1<=_;omega,by show (cur.toList.drop 0).take (zs.length * 1)=_;rw[Nat.mul_one,List.drop_zero];exact hxs⟩⟩,Qhs c zs⟩,hgr,
  fun b hb=>by cases hb;exact ⟨(Array.getElem?_eq_some_iff.1 hw2).1,.inl (Nat.le_refl _)⟩⟩
variable {P:Program} {ρ:Ren}
def Q7n (zs:List Int) (i:Nat) (x:Int):List Int:=zs.take i++x::zs.drop i
theorem Qvy {zs:List Int} {i:Nat} {x:Int} (hi:i<=zs.length):(Q7n zs i x).length=zs.length+1:=by simp[Q7n];omega
theorem Qwy {zs:List Int} {i:Nat} {x y:Int}:y∈Q7n zs i x↔y=x\/y∈zs:=by
 unfold Q7n
 have:y∈zs↔y∈zs.take i\/y∈zs.drop i:=by rw[<-List.mem_append,List.take_append_drop]
 rw[List.mem_append,List.mem_cons,this]
 constructor
 · rintro (h|h|h)
   · exact .inr (.inl h)
   · exact .inl h
   · exact .inr (.inr h)
 · rintro (h|h|h)
   · exact .inr (.inl h)
   · exact .inl h
   · exact .inr (.inr h)
theorem Qrr {zs:List Int} {i j:Nat} {x:Int} (hi:i<=zs.length):(Q7n zs i x)[j]? =if j<i then zs[j]? else if j=i then some x else zs[j - 1]? :=by
 unfold Q7n
 by_cases h1:j<i
 · rw[if_pos h1,List.getElem?_append_left (by simp;omega),List.getElem?_take,if_pos h1]
 · rw[if_neg h1,List.getElem?_append_right (by simp;omega)]
   simp only[List.length_take,Nat.min_eq_left hi]
   by_cases h2:j=i
   · rw[if_pos h2,h2,Nat.sub_self];rfl
   · rw[if_neg h2,show j - i=(j - i - 1)+1 by omega,List.getElem?_cons_succ,List.getElem?_drop]
     congr 1;omega
theorem Q74 (L:Lays2.n21 P ρ) (zs:List Int) (hz:zs.length<1000) (i:Nat) (hi:i<=zs.length) (x:Int) (vb:Nat) (t:TypeId) (w1:World) (v:Value) (h:RowIs c w1 (inR zs) v) (hv:w1.heap[vb]? =some (.cells #[.int .i64 x] t (0,0))) (hne:v.ownBlock≠some vb):
 Calls P (ρ.f 21) #[v,.int .i64 (.ofNat i),.slice (some ⟨vb,0,none⟩) 1 1] w1 (fun en w2=>∃sv,en=.returned sv/\RowTo c w1 v (inR (Q7n zs i x)) sv w2):=by
 obtain ⟨xs,ho,hE,hb⟩:=h
 have hx:=Qln ho.1 hE
 have hvs:∀(j:Nat) (u:Value),([Value.int .i64 x]:List Value)[j]? =some u->w1.cell? ⟨vb,0+j,none⟩=some u:=fun j u hj=>by
  cases j with
  | zero=>simp at hj;subst hj;simp[World.cell?,hv]
  | succ j=>simp at hj
 have h1v:∀u∈([Value.int .i64 x]:List Value),u.oneCell'=true:=fun u hu=>by rw[List.mem_singleton.1 hu];rfl
 have hpl:=Qvy (x:=x) hi
 rcases ho.2.2 with ⟨rfl,h0⟩|⟨g,o,cap,cur,ty,rfl,h2,h3,h4,h5,h6⟩
 · have h0:zs=[]:=List.eq_nil_of_length_eq_zero h0
   subst h0
   obtain rfl:i=0:=by simpa using hi
   refine (Any2.slices_Insert_int_end_grow L none 0 0 vb 0 1 1 [] [.int .i64 x] w1 o9 o9 o9 o9 rfl rfl (fun _=>rfl) (fun a e=>by cases e) hvs h1v).mono ?_
   rintro en w2 ⟨rfl,rfl⟩
   have hge:=grownCap_ge w1 (0+1) 0 (ρ.t 3)
   have hle:=grownCap_le_maxLen w1 (0+1) 0 (ρ.t 3) (by decide)
   refine ⟨_,rfl,?_⟩
   have hbl:Below w1.heap.size w1 (w1.drew.alloc (.cells ((([]:List Value)++[Value.int .i64 x]).toArray++Builtin.zeroCells (Value.int .i64 0).cells (grownCap w1 (0+1) 0 (ρ.t 3) - (0+1))) (ρ.t 3))):=((Below.refl _ _).drew).alloc (Nat.le_refl _) _
   exact Qil (zs:=[x]) (cap:=grownCap w1 (0+1) 0 (ρ.t 3)) hle (by simp[Builtin.zeroCells,Value.cells];omega) hge (heap_alloc_new w1.drew _) (by simp) (Qqc hbl.os hbl.tape hbl.output hbl.size (fun i hi _=>hbl.block i hi))
 · obtain ⟨hn,hc1,hc2,hg,hH,cur',ty',hw,hsz⟩:=ownR_holds (n:=(inR zs).n) ho hx
   rw[h2] at hw;cases hw
   have hnz:(inR zs).n=zs.length:=rfl
   have hcs:∀(j:Nat) (u:Value),(zs.map (Value.int .i64))[j]? =some u->w1.cell? ⟨g,o+j,none⟩=some u:=fun j u hj=>ho.cell (by rw[hx];exact hj)
   have hgb:g≠vb:=fun e=>hne (by rw[e];rfl)
   have hlen:(zs.map (Value.int .i64)).length=zs.length:=by simp
   have h6':∀j,j<zs.length->cur[o+j]? =some (.int .i64 (zs.getD j 0)):=fun j hj=>by
    have:=hcs j (.int .i64 (zs.getD j 0)) (by simp[List.getD,List.getElem?_eq_getElem hj])
    simpa [World.cell?,h2] using this
   have hzj:∀j,j<zs.length->zs[j]? =some (zs.getD j 0):=fun j hj=>by simp[List.getD,List.getElem?_eq_getElem hj]
   rw[hnz]
   have hcap63:cap<=9223372036854775807:=hc2
   by_cases hroom:zs.length+1<=cap
   · by_cases hlt:i<zs.length
     · refine (Any2.slices_Insert_int_shift L g o zs.length cap i vb 0 1 1 (zs.map (Value.int .i64)) [.int .i64 x] w1 hlt o9 hroom hcap63 hgb.symm hlen rfl hcs (fun j hj=>?_) (fun j hj=>by simp[World.frozen?,h2]) hvs (Qdk zs) h1v t ty 1 cur.size (by simp[World.shape?,hv]) (by simp[World.shape?,h2]) o9 (by simp[World.frozen?,hv]) (by simp[World.frozen?,hv])).mono ?_
       · have:o+j<cur.size:=by omega
         simp[World.cell?,h2,this]
       · rintro en w2 ⟨rfl,rfl⟩
         refine ⟨_,rfl,?_⟩
         have a1:=Qod ((zs.map (Value.int .i64)).drop i) (o+(i+1)) w1.drew cur h2 (by simp;omega)
         have a2:=Qod [Value.int .i64 x] (o+i) _ _ a1 (by simp[Qjb];omega)
         have s1:=Qqd (b:=g) ((zs.map (Value.int .i64)).drop i) (o+(i+1)) w1.drew
         have s2:=Qqd (b:=g) [Value.int .i64 x] (o+i) (w1.drew.setCells g (o+(i+1)) ((zs.map (Value.int .i64)).drop i))
         have hfin:=Qug (c:=c) (n0:=zs.length) (zs:=Q7n zs i x) h2 hc2 hsz o9 a2 (by simp[Qjb]) (by
          apply List.ext_getElem?
          intro j
          simp only[List.getElem?_take,List.getElem?_drop,List.getElem?_map,Qrr hi,hpl]
          by_cases hj:j<zs.length+1
          · rw[if_pos hj,Q9a _ _ _ _ (by simp[Qjb];omega),List.length_singleton]
            by_cases g1:j<i
            · rw[if_pos o9,if_pos g1]
              try simp only[List.toList_toArray]
              rw[Q9a _ _ _ _ (by simp;omega),if_pos o9,hzj j o9]
              simpa using h6' j o9
            · rw[if_neg o9,if_neg g1]
              by_cases g2:j=i
              · subst g2;rw[if_pos o9,if_pos rfl];simp
              · rw[if_neg o9,if_neg g2]
                try simp only[List.toList_toArray]
                rw[Q9a _ _ _ _ (by simp;omega),if_neg o9,if_pos (by simp;omega),List.getElem?_drop,List.getElem?_map]
                congr 2;omega
          · rw[if_neg hj,if_neg o9,if_neg o9,List.getElem?_eq_none o9];rfl) (Qqc (by rw[s2.1,s1.1];rfl) (by rw[s2.2.1,s1.2.1];rfl) (by rw[s2.2.2.1,s1.2.2.1];rfl) (by rw[s2.2.2.2,s1.2.2.2];exact Nat.le_refl _) (fun k hk hne=>by
            have hk':k≠g:=fun e=>hne (by rw[e])
            rw[Qpd hk',Qpd hk'];rfl))
         rw[hpl] at hfin
         exact hfin
     · obtain rfl:i=zs.length:=by omega
       refine (Any2.slices_Insert_int_end_room L g o zs.length cap vb 0 1 1 [.int .i64 x] w1 o9 hroom hcap63 rfl (fun j hj=>?_) (fun j hj=>by simp[World.frozen?,h2]) hvs h1v).mono ?_
       · have:o+zs.length+j<cur.size:=by omega
         simp[World.cell?,h2,this]
       · rintro en w2 ⟨rfl,rfl⟩
         refine ⟨_,rfl,?_⟩
         have a2:=Qod [Value.int .i64 x] (o+zs.length) w1 cur h2 (by simp;omega)
         have s2:=Qqd (b:=g) [Value.int .i64 x] (o+zs.length) w1
         have hfin:=Qug (c:=c) (n0:=zs.length) (zs:=Q7n zs zs.length x) h2 hc2 hsz o9 a2 (by simp[Qjb]) (by
          apply List.ext_getElem?
          intro j
          simp only[List.getElem?_take,List.getElem?_drop,List.getElem?_map,Qrr hi,hpl]
          by_cases hj:j<zs.length+1
          · rw[if_pos hj,Q9a _ _ _ _ (by simp;omega),List.length_singleton]
            by_cases g1:j<zs.length
            · rw[if_pos o9,if_pos g1,hzj j g1]
              simpa using h6' j g1
            · obtain rfl:j=zs.length:=by omega
              rw[if_neg o9,if_neg g1,if_pos o9,if_pos rfl];simp
          · rw[if_neg hj,if_neg o9,if_neg o9,List.getElem?_eq_none o9];rfl) (Qqc s2.1 s2.2.1 s2.2.2.1 (by rw[s2.2.2.2];exact Nat.le_refl _) (fun k hk hne=>by
            have hk':k≠g:=fun e=>hne (by rw[e])
            rw[Qpd hk']))
         rw[hpl] at hfin
         exact hfin
   · by_cases hlt:i<zs.length
     · refine (Any2.slices_Insert_int_grow L g o zs.length cap i vb 0 1 1 (zs.map (Value.int .i64)) [.int .i64 x] w1 hlt o9 hc1 o9 o9 hlen rfl hcs hvs (Qdk zs) h1v).mono ?_
       rintro en w2 ⟨rfl,rfl⟩
       refine ⟨_,rfl,?_⟩
       have hge:=grownCap_ge w1 (zs.length+1) cap (ρ.t 3)
       have hle:=grownCap_le_maxLen w1 (zs.length+1) cap (ρ.t 3) (by unfold maxLen;omega)
       generalize hA:(((zs.map (Value.int .i64)).take i).toArray++Builtin.zeroCells (Value.int .i64 0).cells (zs.length+1 - i)++Builtin.zeroCells (Value.int .i64 0).cells (grownCap w1 (zs.length+1) cap (ρ.t 3) - (zs.length+1)))=A
       have hAs:A.size=grownCap w1 (zs.length+1) cap (ρ.t 3):=by
        rw[<-hA];simp[Builtin.zeroCells,Value.cells];omega
       have hAj:∀j,j<i->A.toList[j]? =some (.int .i64 (zs.getD j 0)):=fun j hj=>by
        rw[<-hA]
        simp only[Array.toList_append,List.toList_toArray,List.append_assoc]
        rw[List.getElem?_append_left (by simp;omega),List.getElem?_take,if_pos hj,List.getElem?_map,hzj j o9];rfl
       have hbl:Below w1.heap.size w1 (w1.alloc (.cells A (ρ.t 3))):=(Below.refl _ _).alloc (Nat.le_refl _) _
       have a0:(w1.alloc (.cells A (ρ.t 3))).heap[w1.heap.size]? =some (.cells A (ρ.t 3) (0,0)):=heap_alloc_new _ _
       have a1:=Qod [Value.int .i64 x] i (w1.alloc (.cells A (ρ.t 3))).drew A a0 (by simp;omega)
       have a2:=Qod ((zs.map (Value.int .i64)).drop i) (i+1) ((w1.alloc (.cells A (ρ.t 3))).drew.setCells w1.heap.size i [Value.int .i64 x]).drew _ a1 (by simp[Qjb];omega)
       have s1:=Qqd (b:=w1.heap.size) [Value.int .i64 x] i (w1.alloc (.cells A (ρ.t 3))).drew
       have s2:=Qqd (b:=w1.heap.size) ((zs.map (Value.int .i64)).drop i) (i+1) ((w1.alloc (.cells A (ρ.t 3))).drew.setCells w1.heap.size i [Value.int .i64 x]).drew
       have hfin:=Qil (c:=c) (w1:=w1) (v0:=.slice (some ⟨g,o,none⟩) zs.length cap) (zs:=Q7n zs i x) (cap:=grownCap w1 (zs.length+1) cap (ρ.t 3)) hle (by simp[Qjb];omega) o9 a2 (by
        apply List.ext_getElem?
        intro j
        simp only[List.toList_toArray,List.getElem?_take,List.getElem?_map,Qrr hi,hpl]
        by_cases hj:j<zs.length+1
        · rw[if_pos hj,Q9a _ _ _ _ (by simp[Qjb];omega)]
          by_cases g1:j<i
          · rw[if_pos o9,if_pos g1,Q9a _ _ _ _ (by simp;omega),if_pos g1,hAj j g1,hzj j o9];rfl
          · rw[if_neg g1]
            by_cases g2:j=i
            · subst g2;rw[if_pos o9,if_pos rfl,Q9a _ _ _ _ (by simp;omega),if_neg o9,if_pos (by simp)];simp
            · rw[if_neg o9,if_neg g2,if_pos (by simp;omega),List.getElem?_drop,List.getElem?_map]
              congr 2;omega
        · rw[if_neg hj,if_neg o9,if_neg o9,List.getElem?_eq_none o9];rfl) (Qqc (by rw[s2.1];exact s1.1.trans hbl.os) (by rw[s2.2.1];exact s1.2.1.trans hbl.tape) (by rw[s2.2.2.1];exact s1.2.2.1.trans hbl.output) (by rw[s2.2.2.2];exact Nat.le_trans hbl.size (Nat.le_of_eq s1.2.2.2.symm)) (fun k hk hne=>by
          have hk':k≠w1.heap.size:=by omega
          rw[Qpd hk']
          show ((w1.alloc (.cells A (ρ.t 3))).drew.setCells w1.heap.size i [Value.int .i64 x]).heap[k]? =_
          rw[Qpd hk']
          exact hbl.block k hk))
       rw[hpl] at hfin
       exact hfin
     · obtain rfl:i=zs.length:=by omega
       refine (Any2.slices_Insert_int_end_grow L (some ⟨g,o,none⟩) zs.length cap vb 0 1 1 (zs.map (Value.int .i64)) [.int .i64 x] w1 o9 hc1 o9 o9 hlen rfl (fun e=>by cases e) (fun a e j u hj=>by cases e;rw[Q5c];exact hcs j u hj) hvs h1v).mono ?_
       rintro en w2 ⟨rfl,rfl⟩
       refine ⟨_,rfl,?_⟩
       have hge:=grownCap_ge w1 (zs.length+1) cap (ρ.t 3)
       have hle:=grownCap_le_maxLen w1 (zs.length+1) cap (ρ.t 3) (by unfold maxLen;omega)
       have hbl:Below w1.heap.size w1 (w1.drew.alloc (.cells ((zs.map (Value.int .i64)++[Value.int .i64 x]).toArray++Builtin.zeroCells (Value.int .i64 0).cells (grownCap w1 (zs.length+1) cap (ρ.t 3) - (zs.length+1))) (ρ.t 3))):=((Below.refl _ _).drew).alloc (Nat.le_refl _) _
       have hfin:=Qil (c:=c) (w1:=w1) (v0:=.slice (some ⟨g,o,none⟩) zs.length cap) (zs:=Q7n zs zs.length x) (cap:=grownCap w1 (zs.length+1) cap (ρ.t 3)) hle (by simp[Builtin.zeroCells,Value.cells];omega) o9 (heap_alloc_new w1.drew _) (by
        have e:Q7n zs zs.length x=zs++[x]:=by simp[Q7n]
        rw[e]
        simp only[Array.toList_append,List.toList_toArray]
        rw[List.take_append_of_le_length (by simp),List.take_of_length_le (by simp)]
        simp) (Qqc hbl.os hbl.tape hbl.output hbl.size (fun i hi _=>hbl.block i hi))
       rw[hpl] at hfin
       exact hfin
end
end
section
open Go.RowKit Go.Shelf Go.Sort
theorem Q1f {d:Array Int} {x:Int}:∀m,x∈Lib.compactUpTo d m↔∃j,j<m/\d[j]! =x
 | 0=>by simp[Lib.compactUpTo]
 | m+1=>by
   rw[Lib.compactUpTo_succ,List.mem_append,Q1f m]
   constructor
   · rintro (⟨j,h1,h2⟩|h)
     · exact ⟨j,by omega,h2⟩
     · split at h
       · exact ⟨m,by omega,(List.mem_singleton.1 h).symm⟩
       · simp at h
   · rintro ⟨j,h1,h2⟩
     rcases Nat.lt_or_eq_of_le (Nat.le_of_lt_succ h1) with h|rfl
     · exact .inl ⟨j,h,h2⟩
     · by_cases hk:Lib.keeps d j=true
       · right;rw[if_pos hk,h2];exact List.mem_singleton.2 rfl
       · have h0:0<j:=by
          rcases Nat.eq_zero_or_pos j with h|h
          · subst h;simp[Lib.keeps] at hk
          · exact h
         left
         have:d[j]! =d[j - 1]!:=by
          refine Classical.byContradiction fun hne=>hk (Lib.keeps_pos hne)
         exact ⟨j - 1,by omega,by rw[<-this];exact h2⟩
theorem Quq {zs:List Int} {x:Int}:x∈Lib.compact zs↔x∈zs:=by
 unfold Lib.compact
 rw[Q1f,List.mem_iff_getElem?]
 constructor
 · rintro ⟨j,h1,h2⟩
   refine ⟨j,?_⟩
   rw[List.getElem?_eq_getElem h1,<-h2,getElem!_pos _ j (by simpa using h1)]
   simp
 · rintro ⟨j,hj⟩
   obtain ⟨h1,h2⟩:=List.getElem?_eq_some_iff.1 hj
   refine ⟨j,h1,?_⟩
   rw[getElem!_pos _ j (by simpa using h1)]
   simpa using h2
theorem Q2f (d:Array Int):∀m,(Lib.compactUpTo d m).Sublist ((List.range m).map (d[·]!))
 | 0=>by simp[Lib.compactUpTo]
 | m+1=>by
   rw[Lib.compactUpTo_succ,List.range_succ,List.map_append]
   refine (Q2f d m).append ?_
   split
   · simp
   · simp
theorem Qyl {zs:List Int} (h:zs.Pairwise (·<=·)):(Lib.compact zs).Pairwise (·<=·):=by
 unfold Lib.compact
 have:=Q2f zs.toArray zs.length
 refine List.Pairwise.sublist this ?_
 have e:(List.range zs.length).map (zs.toArray[·]!)=zs:=by
  apply List.ext_getElem?
  intro j
  by_cases hj:j<zs.length
  · rw[List.getElem?_map,List.getElem?_range hj,Option.map_some,List.getElem?_eq_getElem hj,getElem!_pos _ j (by simpa using hj)];simp
  · rw[List.getElem?_eq_none (by simp;omega),List.getElem?_eq_none o9]
 rw[e];exact h
def Q8s (zs:List Int):List Int:=Lib.compact (Qoh zs)
theorem Qzx {zs:List Int} {x:Int}:x∈Q8s zs↔x∈zs:=by unfold Q8s;rw[Quq,Q41]
theorem Qxu (zs:List Int):(Q8s zs).Pairwise (·<=·):=Qyl (Qur zs)
theorem Qyx (zs:List Int):(Q8s zs).length<=zs.length:=by
 have:=Lib.compact_length_le (Qoh zs);have:=Qeo zs;unfold Q8s;omega
end
end Go.Proofs.YtemnfncbgalljaaGreat
