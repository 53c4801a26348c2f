/- Lemmas. No condition. -/
import Derived.Test.YtemnfncbgalljabM5
namespace Go.Proofs.Ytemnfncbgalljab
open Go.RowKit
set_option linter.all false
variable {P:Program} {Q:E9z} {c:R9z} {w0:Base} {T:Tb}
theorem Qaia {f:Nat} {args:List SV} {dst:Option Nat} {k:List Item} {st:St} {vs:(Nat->Value)->(Nat->Nat)->List Value} {x:SV} {r:List ORow} (hv:∀S B,Qjv S B c args=some (vs S B)) (hf:∀(args:Array Value) (w:World),(callFunc f args).run P w=.ok (.enter f args) w)
 (hC:∀(w:World) (S:Nat->Value) (B:N9z),KB w0 w->XOk ⟨[],c,[]⟩ ⟨w,[]⟩->MemIs c w S B st->Calls P f (vs S B).toArray w (RetR w c x r)) (hk:x.rsOk=true)
 (h:Goes P Q c w0 k (({ st with r:=st.r++Qjq r }:St).put dst (x.shR (Qyn st.r)))):OutOk P Q c w0 (.call f args dst k st):=⟨fun e s a w hc F us hu=>by
 rw[Qjo hc (S:=fun q=>(e.sg[q]?).getD undef) (B:=fun k=>(e.rho[k]?).getD 0) (fun q v hq=>by simp only[hq,Option.getD_some]) (fun k b hb=>by simp only[hb,Option.getD_some]) (hv _ _) hu]
 refine ⟨hf _ _,(hC w _ _ F.blw (F.ext.xok0 hc) (F.mem hc)).mono fun en w' ⟨v,g,he,hb,hg,hx⟩=>⟨v,he,?_⟩⟩
 subst hc
 have hsh:=Qj3 hk hx
 rw[F.rows.len] at hsh
 rw[Qyd] at h
 exact h.run (e.adds g) s _ _ rfl ((F.adds hb hg).put hsh)⟩
theorem Qqba {f:Nat} {args:List SV} {dst:Option Nat} {k:List Item} {st:St} {vs:(Nat->Value)->(Nat->Nat)->List Value} {v:Value} (hv:∀S B,Qjv S B c args=some (vs S B)) (hf:∀(args:Array Value) (w:World),(callFunc f args).run P w=.ok (.enter f args) w)
 (hC:∀(w:World) (S:Nat->Value) (B:N9z),KB w0 w->XOk ⟨[],c,[]⟩ ⟨w,[]⟩->MemIs c w S B st->Calls P f (vs S B).toArray w (Ret w v))
 (h:Goes P Q c w0 k (st.put dst (ofR v))):OutOk P Q c w0 (.call f args dst k st):=⟨fun e s a w hc F us hu=>by
 rw[Qjo hc (S:=fun q=>(e.sg[q]?).getD undef) (B:=fun k=>(e.rho[k]?).getD 0) (fun q v hq=>by simp only[hq,Option.getD_some]) (fun k b hb=>by simp only[hb,Option.getD_some]) (hv _ _) hu]
 refine ⟨hf _ _,(hC w _ _ F.blw (F.ext.xok0 hc) (F.mem hc)).mono fun en w' ⟨he,hb⟩=>⟨v,he,?_⟩⟩
 exact h.run e s _ _ hc ((F.later hb).put (Qkm e v))⟩
inductive CK where
 | i (k:IntKind)
 | b
 | s
def Qeca:SC->Int
 | .int _ x=>x
 | _=>0
def Qoda:SC->Bool
 | .bool b=>b
 | .lit b=>b
 | _=>false
def Qzba:SC->Nat
 | .sl _ _ n _=>n
 | _=>0
def Qhda:SC->Nat
 | .sl _ _ _ d=>d
 | _=>0
def Qfda (B:N9z):SC->Option Addr
 | .sl k o _ _=>some ⟨B k,o,none⟩
 | _=>none
def Qrba (cs:List SC) (i:Nat):SC:=match nth cs i with
 | some x=>x
 | none=>.any
def cellsOf (h:List (Option (List SC))):SC->List SC
 | .sl k _ _ _=>match nth h k with
   | some (some cs)=>cs
   | _=>[]
 | _=>[]
def CK.fits:CK->SC->Bool
 | .i k,.int k' _=>k==k'
 | .b,.bool _=>true
 | .b,.lit _=>true
 | .s,.sl _ 0 _ _=>true
 | .s,.val (.slice none 0 0)=>true
 | _,_=>false
def CK.val (B:N9z):CK->SC->Value
 | .i k,x=>.int k (Qeca x)
 | .b,x=>.bool (Qoda x)
 | .s,x=>.slice (Qfda B x) (Qzba x) (Qhda x)
theorem CK.fits_val {S:Nat->Value} {B:N9z} {p:CK} {x:SC} (h:p.fits x=true):Q59 S B c x=some (p.val B x):=by
 unfold CK.fits at h
 split at h
 · simp only[beq_iff_eq] at h;subst h;rfl
 · rfl
 · rfl
 · rfl
 · rfl
 · cases h
def Qgda:List SC->Bool
 | []=>true
 | .sl ..::l| .ptr ..::l| .rs _::l| .int ..::l| .bool _::l| .lit _::l| .val _::l| .ob _::l| .xs ..::l=>Qgda l
 | _::_=>false
theorem Qpca {S:Nat->Value} {B:N9z}:∀{l:List SC},Qgda l=true->∃us,Qiv S B c l=some us
 | [],_=>⟨[],rfl⟩
 | x::l,h=>by
   have h2:Qgda l=true:=by cases x<;>simp_all[Qgda]
   obtain ⟨us,hu⟩:=Qpca (S:=S) (B:=B) h2
   have h1:∃v,Q59 S B c x=some v:=by cases x<;>first|exact ⟨_,rfl⟩|(simp[Qgda] at h)
   obtain ⟨v,hv⟩:=h1
   exact ⟨v::us,by simp only[Qiv,hv,hu]⟩
theorem Qdca {S:Nat->Value} {B:N9z}:∀{l:List SC} {us:List Value},Qiv S B c l=some us->∀{i:Nat} {x:SC},nth l i=some x->∃v,Q59 S B c x=some v/\us[i]? =some v
 | [],us,_,i,x,hi=>by cases i<;>simp[nth] at hi
 | y::l,us,h,i,x,hi=>by
   simp only[Qiv] at h
   split at h
   · rename_i v r h1 h2
     cases h
     cases i with
     | zero=>simp only[nth,Option.some.injEq] at hi;subst hi;exact ⟨v,h1,by simp⟩
     | succ i=>simp only[nth] at hi;obtain ⟨v',h3,h4⟩:=Qdca h2 hi;exact ⟨v',h3,by simpa using h4⟩
   · cases h
def Q2ca:List CK->List SC->Nat->Bool
 | [],_,_=>true
 | p::l,cs,o=>p.fits (Qrba cs o)&&Q2ca l cs (o+1)
def Q4ba (B:N9z):List CK->List SC->Nat->List Value
 | [],_,_=>[]
 | p::l,cs,o=>p.val B (Qrba cs o)::Q4ba B l cs (o+1)
theorem Q8ba:∀{l:List CK} {cs:List SC} {o:Nat},Q2ca l cs o=true->∀(B:N9z) (t:Nat) (v:Value),(Q4ba B l cs o)[t]? =some v->∃p:CK,p.fits (Qrba cs (o+t))=true/\v=p.val B (Qrba cs (o+t))
 | [],_,_,_,B,t,v,hv=>by simp[Q4ba] at hv
 | p::l,cs,o,h,B,t,v,hv=>by
   simp only[Q2ca,Bool.and_eq_true] at h
   cases t with
   | zero=>simp[Q4ba] at hv;exact ⟨p,h.1,hv.symm⟩
   | succ t=>
     simp only[Q4ba,List.getElem?_cons_succ] at hv
     have:=Q8ba h.2 B t v hv
     rw[show o+(t+1)=o+1+t by omega];exact this
def Q3ba (h:List (Option (List SC))) (ps:List CK) (x:SC):Bool:=match x with
 | .sl k 0 n d=>(match nth h k with|some (some cs)=>decide (n<=1000)&&decide (n<=d)&&Qgda cs&&(List.range n).all fun j=>Q2ca ps cs (j * ps.length)|_=>false)
 | .val (.slice none 0 0)=>true
 | _=>false
theorem Q6ba {h:List (Option (List SC))} {ps:List CK} {x:SC} (hk:Q3ba h ps x=true):Qzba x<=1000:=by
 unfold Q3ba at hk
 split at hk
 · split at hk
   · simp only[Bool.and_eq_true,decide_eq_true_eq] at hk;exact hk.1.1.1
   · cases hk
 · simp[Qzba]
 · cases hk
theorem Qyba {w:World} {S:Nat->Value} {B:N9z} {st:St} (hM:MemIs c w S B st) {ps:List CK} {x:SC} (hk:Q3ba st.h ps x=true) {j:Nat} (hj:j<Qzba x):
 ∃b p,Qfda B x=some ⟨b,p,none⟩/\b<w.heap.size/\∀(t:Nat) (v:Value),(Q4ba B ps (cellsOf st.h x) (j * ps.length))[t]? =some v->w.cell? ⟨b,p+(j * ps.length+t),none⟩=some v:=by
 unfold Q3ba at hk
 split at hk
 · rename_i k n d
   split at hk
   · rename_i cs hcs
     simp only[Bool.and_eq_true,decide_eq_true_eq,List.all_eq_true,List.mem_range] at hk
     obtain ⟨us,hu⟩:=Qpca (c:=c) (S:=S) (B:=B) hk.1.2
     obtain ⟨hlt,t,hw⟩:=hM.blk k cs us hcs hu
     refine ⟨B k,0,rfl,hlt,fun t' v hv=>?_⟩
     have he:cellsOf st.h (.sl k 0 n d)=cs:=by simp only[cellsOf,hcs]
     rw[he] at hv
     obtain ⟨p,h1,rfl⟩:=Q8ba (hk.2 j hj) B t' v hv
     rw[cell_of_row w (B k) _ us.toArray t (0,0) hw]
     have hx:nth cs (j * ps.length+t')=some (Qrba cs (j * ps.length+t')):=by
      unfold Qrba
      unfold Qrba at h1
      split
      · assumption
      · rename_i hn;rw[hn] at h1;cases p<;>simp[CK.fits] at h1
     obtain ⟨v',h2,h3⟩:=Qdca hu hx
     rw[CK.fits_val h1] at h2
     cases h2
     simpa using h3
   · cases hk
 · simp[Qzba] at hj
 · cases hk
end Go.Proofs.Ytemnfncbgalljab
