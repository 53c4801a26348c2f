/- Lemmas. No condition. -/
import Derived.Test.YtemnfncbgalljaaGreatS1
import Derived.Deep.LoopGhost
import Derived.Deep.OwnRows
namespace Go.Proofs.YtemnfncbgalljaaGreat
open Go.RowKit
set_option linter.all false
set_option maxRecDepth 100000
set_option maxHeartbeats 64000000
def Tells (b:Bool) (p:Prop):Prop:=b=true↔p
theorem Tells.of_true {p:Prop} (h:p):Tells true p:=by simp[Tells,h]
theorem Tells.of_false {p:Prop} (h:¬p):Tells false p:=by simp[Tells,h]
def upd (X:B9z) (i:Nat) (b:Bool) (j:Nat):Bool:=if j=i then b else X j
theorem Qym {X:B9z} {i:Nat} {b:Bool}:upd X i b i=b:=if_pos rfl
theorem Qsj {X:B9z} {i j:Nat} {b:Bool} (h:j≠i):upd X i b j=X j:=if_neg h
theorem Qc7 {n:Nat} {X:B9z} {i:Nat} {b:Bool}:(bl n X).set i (.bool b)=bl n (upd X i b):=by
 refine List.ext_getElem? fun j=>?_
 rw[List.getElem?_set]
 by_cases hj:j<n
 · rw[Qmk (X:=upd X i b) hj]
   by_cases h:i=j
   · subst h
     rw[if_pos rfl,if_pos (by rw[Qnk];exact hj),Qym]
   · rw[if_neg h,Qmk hj,Qsj (fun e=>h e.symm)]
 · rw[List.getElem?_eq_none (l:=bl n (upd X i b)) (by rw[Qnk];omega)]
   by_cases h:i=j
   · subst h
     rw[if_pos rfl,if_neg (by rw[Qnk];omega)]
   · rw[if_neg h,List.getElem?_eq_none (by rw[Qnk];omega)]
def OB (w:World) (B g n c:Nat) (X:B9z):Prop:=w.ownsRow B 4 1 (.slice (some ⟨g,0,none⟩) n c) n (bl n X)
section
variable {w w':World} {B g n c:Nat} {X Y:B9z}
theorem OB.cell (h:OB w B g n c X) {j:Nat} (hj:j<n):w.cell? ⟨g,j,none⟩=some (.bool (X j)):=by
 rw[World.ownsRow.cellAt h j o9,Qmk hj]
theorem OB.frozen (h:OB w B g n c X) (j:Nat):w.frozen? ⟨g,j,none⟩=false:=World.ownsRow.frozenAt h j
theorem OB.set (h:OB w B g n c X) (j:Nat) (b:Bool):OB (w.setCell ⟨g,j,none⟩ (.bool b)) B g n c (upd X j b):=by
 have:=(World.ownsRow.stored h j (.bool b)).1
 rw[Qc7] at this
 exact this
theorem OB.lt (h:OB w B g n c X):B<=g/\g<w.heap.size:=World.ownsRow.lt h g rfl
theorem OB.alloc (h:OB w B g n c X) (o:Obj):OB (w.alloc o) B g n c X:=World.ownsRow.alloc h o
theorem OB.drew (h:OB w B g n c X):OB w.drew B g n c X:=h
theorem OB.kept (h:OB w B g n c X) {row:Option Nat} (hg:w.grownBy w' row) (hr:some g≠row):OB w' B g n c X:=World.ownsRow.kept h hg (.inr hr)
theorem OB.congr (h:OB w B g n c X) (he:∀j,j<n->X j=Y j):OB w B g n c Y:=by
 unfold OB at h⊢
 rw[<-Q9r he]
 exact h
theorem OB.bits (h:OB w B g n c X):Bits w (some ⟨g,0,none⟩) n X:=by
 intro _
 exact ⟨g,0,rfl,h.lt.2,fun j hj=>by rw[Nat.zero_add];exact h.cell hj⟩
theorem OB.le (h:OB w B g n c X):n<=c/\c<=maxLen:=by
 rcases h.2 with ⟨h',_⟩|⟨g',cap',cur,h',_,_,h1,h2,_⟩
 · cases h'
 · injection h' with _ _ h'
   subst h'
   exact ⟨h1,h2⟩
theorem OB.made (w:World) {B:Nat} (n:Nat) (hB:B<=w.heap.size) (hn:n<=maxLen):OB (w.alloc (.cells (madeCells #[.bool false] n) 4)) B w.heap.size n n (fun _=>false):=by
 have h:=World.ownsRow_lit (base:=B) (e:=4) (size:=1) w (madeCells #[.bool false] n) n hB hn (by rw[size_madeCells];omega)
 rw[toList_madeCells_one] at h
 have:List.replicate n (Value.bool false)=bl n (fun _=>false):=by
  refine List.ext_getElem? fun j=>?_
  by_cases hj:j<n
  · rw[Qmk hj,List.getElem?_replicate,if_pos hj]
  · rw[List.getElem?_eq_none (by simp;omega),List.getElem?_eq_none (by rw[Qnk];omega)]
 rw[this] at h
 exact h
end
theorem Qim {P:Program} (hP:P=Tryz.prog) (n:Nat) (hn:n<=281474976710656) (w:World):
 (Instr.makeSlice 103 (.int .i64 (n:Int)) (.int .i64 (n:Int))).run P w=.ok (.slice (some ⟨w.heap.size,0,none⟩) n n) (w.alloc (.cells (madeCells #[.bool false] n) 4)):=by
 subst hP
 exact run_make_row' 103 4 (.bool false) 1 Tryz.underlying103 Qso rfl .i64 .i64 n o9 o9 w
def Q53 (w:World) (B g n c:Nat) (X Y:B9z) (e:Ending) (w':World):Prop:=
 ∃m:Bool,e=.returned (.bool m)/\Tells m (∃j,j<n/\Y j=true/\X j=false)/\OB w' B g n c (fun j=>X j||Y j)/\w.grownBy w' (some g)
def mixed (X Y:B9z) (i j:Nat):Bool:=if j<i then X j||Y j else X j
theorem Qt0 (A:Option Addr) (B g n c c':Nat) (X Y:B9z) (w:World) (hX:OB w B g n c X) (hY:Bits w A n Y) (hne:∀b off,0<n->A=some ⟨b,off,none⟩->b≠g):
 Calls Tryz.prog 250 #[.slice (some ⟨g,0,none⟩) n c,.slice A n c'] w (Q53 w B g n c X Y):=by
 have hn:n<=maxLen:=by have:=hX.le;omega
 unfold maxLen at hn
 have HY:=Lib.hid hY
 have hX0:OB w B g n c (mixed X Y 0):=hX.congr fun j _=>by simp[mixed]
 have HN:=Lib.hid hne
 clear hY hX hne
 go_enter Tryz.func250,Tryz.ntmps250
 go_wp2
 go_loopw [5,10] (fun u v wr=>∃(i:Nat) (m:Bool),i<=n/\u=.bool m/\v=.int .i64 i/\Tells m (∃j,j<i/\Y j=true/\X j=false)/\OB wr B g n c (mixed X Y i)/\w.grownBy wr (some g)) (fun _ v _=>n - (intOf v).toNat)
 case atStart=>exact ⟨0,false,by omega,rfl,rfl,.of_false (fun ⟨j,hj,_⟩=>by omega),hX0,World.grownBy.refl w _⟩
 case round=>
  obtain ⟨i,m,hi,rfl,rfl,hm,hO,hG⟩:=hrel
  have hz:=hG.size
  by_cases hlt:i<n
  · have hdi:decide ((i:Int)<n)=true:=by simp;omega
    obtain ⟨b,off,rfl,hb,hc⟩:=HY.out o9
    have hbg:=HN.out b off o9 rfl
    have c0:wr.cell? ⟨b,off+i,none⟩=some (.bool (Y i)):=hG.cell (hc i hlt) (by intro h;injection h with h;exact hbg h)
    have c1:wr.cell? ⟨g,i,none⟩=some (.bool (X i)):=by rw[hO.cell hlt,mixed,if_neg o9]
    have c2:wr.frozen? ⟨g,i,none⟩=false:=hO.frozen i
    have hgl:=hO.lt
    have HO:=Lib.hid hO
    have HG:=Lib.hid hG
    have HM:=Lib.hid hm
    clear hc hO hG hm HY HN hX0
    have same:(Y i=false\/X i=true)->(∀j,j<n->mixed X Y i j=mixed X Y (i+1) j)/\((∃j,j<i+1/\Y j=true/\X j=false)↔∃j,j<i/\Y j=true/\X j=false):=by
     intro h
     refine ⟨fun j _=>?_,?_⟩
     · unfold mixed
       by_cases h1:j<i
       · rw[if_pos h1,if_pos o9]
       · rw[if_neg h1]
         by_cases h2:j=i
         · subst h2
           rw[if_pos o9]
           rcases h with h|h<;>simp[h]
         · rw[if_neg o9]
     · constructor
       · rintro ⟨j,hj,h1,h2⟩
         rcases Nat.lt_or_eq_of_le (Nat.le_of_lt_succ hj) with h'|rfl
         · exact ⟨j,h',h1,h2⟩
         · rcases h with h|h
           · rw[h] at h1;cases h1
           · rw[h] at h2;cases h2
       · rintro ⟨j,hj,h1,h2⟩
         exact ⟨j,by omega,h1,h2⟩
    rcases Bool.eq_false_or_eq_true (Y i) with hy|hy
    · rcases Bool.eq_false_or_eq_true (X i) with hx|hx
      · have HS:=Lib.hid (same (.inr hx))
        rw[hy] at c0
        rw[hx] at c1
        clear hx hy same
        go_wp2
        go_roundw
        case rel=>exact ⟨i+1,m,by omega,rfl,by go_num,by have:=HM.out;unfold Tells at this⊢;rw[HS.out.2];exact this,HO.out.congr HS.out.1,HG.out⟩
        case measure=>simp[intOf];omega
      · have HS:Hid (∀j,j<n->upd (mixed X Y i) i true j=mixed X Y (i+1) j):=fun j _=>by
         unfold upd mixed
         by_cases h1:j=i
         · subst h1;rw[if_pos rfl,if_pos o9];simp[hx,hy]
         · rw[if_neg h1]
           by_cases h2:j<i
           · rw[if_pos h2,if_pos o9]
           · rw[if_neg h2,if_neg o9]
        have HT:Hid (∃j,j<i+1/\Y j=true/\X j=false):=⟨i,by omega,hy,hx⟩
        rw[hy] at c0
        rw[hx] at c1
        clear hx hy same
        go_wp2
        go_roundw
        case rel=>exact ⟨i+1,true,by omega,rfl,by go_num,.of_true HT.out,(HO.out.set i true).congr HS.out,⟨HG.out.os,HG.out.tape,HG.out.output,by simpa [World.setCell] using HG.out.size,fun k hk hne=>(Below.heap_setCell wr _ _ _ (fun e=>hne (by rw[e]))).trans (HG.out.block k hk hne)⟩⟩
        case measure=>simp[intOf];omega
    · have HS:=Lib.hid (same (.inl hy))
      rw[hy] at c0
      clear hy same
      go_wp2
      go_roundw
      case rel=>exact ⟨i+1,m,by omega,rfl,by go_num,by have:=HM.out;unfold Tells at this⊢;rw[HS.out.2];exact this,HO.out.congr HS.out.1,HG.out⟩
      case measure=>simp[intOf];omega
  · have:i=n:=by omega
    subst this
    have hdi:decide ((i:Int)<i)=false:=by simp
    have HO:Hid (OB wr B g i c (fun j=>X j||Y j)):=hO.congr fun j hj=>by unfold mixed;rw[if_pos hj]
    have HM:=Lib.hid hm
    clear hlt hO hm hX0
    go_wp2
    go_ret
    exact ⟨m,rfl,HM.out,HO.out,hG⟩
theorem Q0o {X Y:B9z} {n:Nat} (h:∀j,j<n->X j=Y j):Qfh X n=Qfh Y n:=by
 apply Nat.le_antisymm
 · exact Q0f fun j hj hx=>by rw[<-h j hj];exact hx
 · exact Q0f fun j hj hx=>by rw[h j hj];exact hx
def Qpv (n nl:Nat) (F T:I9z) (from_:Nat) (X:B9z):Prop:=∀k,k<n->(X k=true↔Leads nl F T from_ k)
def Sound (n nl:Nat) (F T:I9z) (from_:Nat) (X:B9z):Prop:=X from_=true/\∀k,k<n->X k=true->Leads nl F T from_ k
def Q66 (i:Nat) (F T:I9z) (X:B9z):Prop:=∀c,c<i->X (T c).toNat=true->X (F c).toNat=true
theorem Sound.set_ {n nl:Nat} {F T:I9z} {from_:Nat} {X:B9z} (hs:Sound n nl F T from_ X) {k t f:Nat} (hk:k<nl) (ht:T k=t) (hf:F k=f) (htn:t<n) (h:X t=true):Sound n nl F T from_ (upd X f true):=by
 refine ⟨?_,fun j hj hx=>?_⟩
 · by_cases e:from_=f
   · rw[e,Qym]
   · rw[Qsj e];exact hs.1
 · by_cases e:j=f
   · subst e
     have:=Leads.step k hk (hs.2 t htn h) ht
     rw[hf] at this
     simpa using this
   · rw[Qsj e] at hx;exact hs.2 j hj hx
theorem Sound.done {n nl:Nat} {F T:I9z} {from_:Nat} {X:B9z} (hs:Sound n nl F T from_ X) (hc:Q66 nl F T X):Qpv n nl F T from_ X:=by
 refine fun k hk=>⟨hs.2 k hk,fun h=>?_⟩
 clear hk
 induction h with
 | refl=>exact hs.1
 | step c h' _ e ih=>exact hc c h' (by rw[e];simpa using ih)
def Q9z (w:World) (n nl:Nat) (F T:I9z) (from_:Nat) (e:Ending) (w':World):Prop:=
 ∃g c X,e=.returned (.slice (some ⟨g,0,none⟩) n c)/\OB w' w.heap.size g n c X/\Qpv n nl F T from_ X/\Below w.heap.size w w'
theorem Qrx (A:Option Addr) (n nl c from_:Nat) (F T N Y:I9z) (w:World) (hn:n<=592) (hl:nl<=1152) (hfr:from_<n) (hF:Qnv n nl F T) (hY:Cons w A nl F T N Y):
 Calls Tryz.prog 209 #[.int .i64 n,.slice A nl c,.int .i64 from_] w (Q9z w n nl F T from_):=by
 have HY:=Lib.hid hY
 have HF:=Lib.hid hF
 clear hY hF
 have hmk:=Qim (P:=Tryz.prog) rfl n o9
 have hO:=OB.made (B:=w.heap.size) w n (Nat.le_refl _) (by simp only[maxLen];omega)
 have c0:=hO.cell hfr
 have f0:=hO.frozen from_
 have HO:=Lib.hid (hO.set from_ true)
 rw[World.setCell_alloc_at _ _ _ _ _ rfl] at HO
 have hS0:Hid (Sound n nl F T from_ (upd (fun _=>false) from_ true)):=by
  refine ⟨Qym,fun k _ hx=>?_⟩
  by_cases e:k=from_
  · rw[e];exact .refl _
  · rw[Qsj e] at hx;cases hx
 clear hO
 go_enter Tryz.func209,Tryz.ntmps209
 go_wp2
 clear hmk c0 f0
 go_loopg [8] (2 * (n - Qfh (upd (fun _=>false) from_ true) n)+1) (fun gk u wr=>∃(m:Bool) (X:B9z),u=.bool m/\OB wr w.heap.size w.heap.size n n X/\Sound n nl F T from_ X/\(m=false->Q66 nl F T X)/\gk=2 * (n - Qfh X n)+(if m=true then 1 else 0)/\Below w.heap.size w wr)
 case atStart=>exact ⟨true,_,rfl,HO.out,hS0.out,(fun h=>by cases h),by rw[if_pos rfl],(Below.refl _ _).alloc (Nat.le_refl _) _⟩
 case round=>
  obtain ⟨m,X,rfl,hO,hS,hC,hk,hB⟩:=hrel
  have hz:=hB.size
  have HS:=Lib.hid hS
  have HC:=Lib.hid hC
  have HK:=Lib.hid hk
  have HX:=Lib.hid hO
  clear hS hC hk hO HO hS0
  cases m
  · go_wp2
    go_ret
    exact ⟨_,_,X,rfl,HX.out,HS.out.done (HC.out (by simp)),hB⟩
  · obtain ⟨wo,ho⟩:=x9 (wr:World)
    rw[<-ho] at hB hz HX⊢
    clear ho
    go_wp2
    go_loopw [8,9] (fun u v wr=>∃(i:Nat) (m:Bool) (Z:B9z),i<=nl/\u=.bool m/\v=.int .i64 i/\OB wr w.heap.size w.heap.size n n Z/\Sound n nl F T from_ Z/\(m=false->(∀j,j<n->Z j=X j)/\Q66 i F T Z)/\(Qfh X n<=Qfh Z n/\(m=true->Qfh X n<Qfh Z n))/\Below w.heap.size w wr) (fun _ v _=>nl - (intOf v).toNat)
    case atStart=>exact ⟨0,false,X,by omega,rfl,rfl,HX.out,HS.out,fun _=>⟨fun _ _=>rfl,fun c hc=>by omega⟩,⟨Nat.le_refl _,fun h=>by cases h⟩,hB⟩
    case round=>
     obtain ⟨i,m,Z,hi,rfl,rfl,hO,hS,hC,hN,hB⟩:=hrel
     have hz:=hB.size
     have HS2:=Lib.hid hS
     have HC2:=Lib.hid hC
     have HN2:=Lib.hid hN
     have HO2:=Lib.hid hO
     clear hS hC hN hO
     by_cases hlt:i<nl
     · have hdi:decide ((i:Int)<nl)=true:=by simp;omega
       obtain ⟨b,off,rfl,hb,hc⟩:=HY.out o9
       obtain ⟨e0,e1,_,_⟩:=hc i hlt
       obtain ⟨g1,g2,g3,g4⟩:=HF.out i hlt
       obtain ⟨f,hf⟩:∃f:Nat,F i=f:=⟨(F i).toNat,by omega⟩
       obtain ⟨t,ht⟩:∃t:Nat,T i=t:=⟨(T i).toNat,by omega⟩
       rw[hf] at e0 g2
       rw[ht] at e1 g4
       have hfn:f<n:=by omega
       have htn:t<n:=by omega
       have c0:=(hB.cell (p:=⟨b,_,none⟩) hb).trans e0
       have c1:=(hB.cell (p:=⟨b,_,none⟩) hb).trans e1
       have c2:=HO2.out.cell hfn
       have c3:=HO2.out.cell htn
       have f2:=HO2.out.frozen f
       have hgl:=HO2.out.lt
       have Hf:=Lib.hid hf
       have Ht:=Lib.hid ht
       clear hc e0 e1 g1 g2 g3 g4 hf ht
       have stay:Z t=false\/Z f=true->∀m:Bool,(m=false->(∀j,j<n->Z j=X j)/\Q66 i F T Z)->m=false->(∀j,j<n->Z j=X j)/\Q66 (i+1) F T Z:=by
        intro h m hm hm0
        obtain ⟨h1,h2⟩:=hm hm0
        refine ⟨h1,fun c hc hx=>?_⟩
        rcases Nat.lt_or_eq_of_le (Nat.le_of_lt_succ hc) with h'|rfl
        · exact h2 c h' hx
        · rw[Hf.out]
          rw[Ht.out] at hx
          simp at hx⊢
          rcases h with h|h
          · rw[h] at hx;cases hx
          · exact h
       rcases Bool.eq_false_or_eq_true (Z t) with hy|hy
       · rcases Bool.eq_false_or_eq_true (Z f) with hx|hx
         · have HT:=Lib.hid (stay (.inr hx))
           rw[hy] at c3
           rw[hx] at c2
           clear hy hx stay
           go_wp2
           go_roundw
           case rel=>exact ⟨i+1,m,Z,by omega,rfl,by go_num,HO2.out,HS2.out,HT.out m HC2.out,HN2.out,hB⟩
           case measure=>simp[intOf];omega
         · have HS3:=Lib.hid (HS2.out.set_ hlt Ht.out Hf.out htn hy)
           have HN3:Hid (Qfh X n<Qfh (upd Z f true) n):=by
            have:=Qds (X:=Z) (Y:=upd Z f true) hfn hx Qym (fun j hj=>Qsj hj)
            have h':=HN2.out.1
            unfold Hid
            omega
           rw[hy] at c3
           rw[hx] at c2
           clear hy hx stay
           go_wp2
           go_roundw
           case rel=>exact ⟨i+1,true,upd Z f true,by omega,rfl,by go_num,HO2.out.set f true,HS3.out,(fun h=>by cases h),⟨Nat.le_of_lt HN3.out,fun _=>HN3.out⟩,hB.setCell (p:=⟨w.heap.size,f,none⟩) (Nat.le_refl _) _⟩
           case measure=>simp[intOf];omega
       · have HT:=Lib.hid (stay (.inl hy))
         rw[hy] at c3
         clear hy stay
         go_wp2
         go_roundw
         case rel=>exact ⟨i+1,m,Z,by omega,rfl,by go_num,HO2.out,HS2.out,HT.out m HC2.out,HN2.out,hB⟩
         case measure=>simp[intOf];omega
     · have:i=nl:=by omega
       subst this
       have hdi:decide ((i:Int)<i)=false:=by simp
       clear hlt
       go_wp2
       go_roundg (2 * (n - Qfh Z n)+(if m=true then 1 else 0))
       case measure=>
        have h1:=HK.out
        have h2:=Q6v Z n
        obtain ⟨h3,h4⟩:=HN2.out
        simp at h1
        cases m
        · simp;omega
        · have:=h4 rfl
          simp;omega
       case rel=>exact ⟨m,Z,rfl,HO2.out,HS2.out,fun h=>(HC2.out h).2,rfl,hB⟩
end Go.Proofs.YtemnfncbgalljaaGreat
