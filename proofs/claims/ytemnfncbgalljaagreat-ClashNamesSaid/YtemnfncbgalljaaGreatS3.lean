/- Lemmas. No condition. -/
import Derived.Test.YtemnfncbgalljaaGreatS2
import Derived.BigRegion
namespace Go.Proofs.YtemnfncbgalljaaGreat
open Go.RowKit
set_option linter.all false
set_option maxRecDepth 100000
set_option maxHeartbeats 64000000
def Qhe {α:Type} (f:Nat->α) (i:Nat) (a:α) (j:Nat):α:=if j=i then a else f j
theorem Qkb {α:Type} {f:Nat->α} {i:Nat} {a:α}:Qhe f i a i=a:=if_pos rfl
theorem Qbb {α:Type} {f:Nat->α} {i j:Nat} {a:α} (h:j≠i):Qhe f i a j=f j:=if_neg h
theorem Q3x {α:Type} {n i:Nat} {f:Nat->α} {a:α}:((List.range n).map f).set i a=(List.range n).map (Qhe f i a):=by
 refine List.ext_getElem? fun j=>?_
 rw[List.getElem?_set]
 by_cases hj:j<n
 · have e:((List.range n).map (Qhe f i a))[j]? =some (Qhe f i a j):=by simp only[List.getElem?_map,List.getElem?_range hj,Option.map_some]
   rw[e]
   by_cases h:i=j
   · subst h
     rw[if_pos rfl,if_pos (by simpa using hj),Qkb]
   · rw[if_neg h,Qbb (fun e=>h e.symm)]
     simp only[List.getElem?_map,List.getElem?_range hj,Option.map_some]
 · rw[List.getElem?_eq_none (l:=(List.range n).map (Qhe f i a)) (by simp;omega)]
   by_cases h:i=j
   · subst h
     rw[if_pos rfl,if_neg (by simpa using hj)]
   · rw[if_neg h,List.getElem?_eq_none (by simp;omega)]
theorem Q2l {α:Type} {n:Nat} {f:Nat->α} {a:α}:(List.range n).map f++[a]=(List.range (n+1)).map (Qhe f n a):=by
 rw[List.range_succ,List.map_append,List.map_singleton,Qkb]
 congr 1
 refine List.map_congr_left fun j hj=>?_
 rw[Qbb (by have:=List.mem_range.1 hj;omega)]
theorem Q3g {w:World} {B B' s s' n m:Nat} {E e:TypeId} {v u:Value} {xs ys:List Value} (h:w.ownsRow B E s v n xs) (h':w.ownsRow B' e s' u m ys) (hne:E≠e):v.ownBlock=none\/v.ownBlock≠u.ownBlock:=by
 rcases h'.2 with ⟨rfl,_⟩|⟨g',cap',cur',rfl,_,hh',_⟩
 · cases hv:v.ownBlock with
   | none=>exact .inl rfl
   | some k=>exact .inr (by simp[Value.ownBlock])
 · exact .inr (Q3u h hh' hne)
theorem Q4n {w:World} {B B' s n:Nat} {E:TypeId} {v:Value} {xs:List Value} (h:w.ownsRow B E s v n xs) (hB:B'<=B):w.ownsRow B' E s v n xs:=by
 refine ⟨h.1,?_⟩
 rcases h.2 with h|⟨g,cap,cur,h1,h2,h3⟩
 · exact .inl h
 · exact .inr ⟨g,cap,cur,h1,Nat.le_trans hB h2,h3⟩
theorem Qif {w:World} {B s n:Nat} {E:TypeId} {v:Value} {xs:List Value} (h:w.ownsRow B E s v n xs) (hn:0<n):∃g c,v=.slice (some ⟨g,0,none⟩) n c/\B<=g/\g<w.heap.size/\n<=c/\c<=maxLen:=by
 rcases h.2 with ⟨_,h0⟩|⟨g,cap,cur,rfl,h2,h3,h4,h5,_⟩
 · omega
 · exact ⟨g,cap,rfl,h2,(h.lt g rfl).2,h4,h5⟩
structure Own2 (w:World) (B:Nat) (E e:TypeId) (v:Value) (n:Nat) (V:Nat->Value) (len:N9z) (xs:Nat->List Value):Prop where
 top:w.ownsRow B E 1 v n ((List.range n).map V)
 row:∀i,i<n->w.ownsRow B e 1 (V i) (len i) (xs i)
 inj:∀i j,i<n->j<n->i≠j->(V i).ownBlock=none\/(V i).ownBlock≠(V j).ownBlock
 ne:E≠e
section
variable {w w' w1 w2:World} {B:Nat} {E e:TypeId} {v u v':Value} {n m:Nat} {V:Nat->Value} {len:N9z} {xs:Nat->List Value} {ys:List Value}
theorem Own2.none_ (w:World) (B:Nat) (h:E≠e):Own2 w B E e (.slice none 0 0) 0 V len xs:=⟨World.ownsRow_nil _ _ _ _,fun i hi=>by omega,fun i j hi=>by omega,h⟩
theorem Own2.kept (h:Own2 w B E e v n V len xs) {row:Option Nat} (hg:w.grownBy w' row) (h1:v.ownBlock=none\/v.ownBlock≠row) (h2:∀i,i<n->(V i).ownBlock=none\/(V i).ownBlock≠row):Own2 w' B E e v n V len xs:=
 ⟨h.top.kept hg h1,fun i hi=>(h.row i hi).kept hg (h2 i hi),h.inj,h.ne⟩
theorem Qaf (hb:Below w.heap.size w w'):w.grownBy w' none:=⟨hb.os,hb.tape,hb.output,hb.size,fun k hk _=>hb.block k hk⟩
theorem Q9k (o:Option Nat):o=none\/o≠none:=by cases o<;>simp
theorem Own2.below (h:Own2 w B E e v n V len xs) (hb:Below w.heap.size w w'):Own2 w' B E e v n V len xs:=h.kept (Qaf hb) (Q9k _) (fun _ _=>Q9k _)
theorem Own2.alloc (h:Own2 w B E e v n V len xs) (o:Obj):Own2 (w.alloc o) B E e v n V len xs:=h.below ((Below.refl _ _).alloc (Nat.le_refl _) _)
theorem Own2.drew (h:Own2 w B E e v n V len xs):Own2 w.drew B E e v n V len xs:=h.below (Below.refl _ _).drew
theorem Own2.rowne (h:Own2 w B E e v n V len xs) {i:Nat} (hi:i<n):(V i).ownBlock=none\/(V i).ownBlock≠v.ownBlock:=Q3g (h.row i hi) h.top (fun q=>h.ne q.symm)
theorem Own2.topne (h:Own2 w B E e v n V len xs) {i:Nat} (hi:i<n):v.ownBlock=none\/v.ownBlock≠(V i).ownBlock:=Q3g h.top (h.row i hi) h.ne
theorem Own2.push (h:Own2 w B E e v n V len xs) (hg1:w.grownBy w1 none) (hu:w1.ownsRow B e 1 u m ys) (hu2:∀k,u.ownBlock=some k->w.heap.size<=k) (hg2:w1.grownBy w2 v.ownBlock)
 (ht:w2.ownsRow B E 1 v' (n+1) ((List.range n).map V++[u])):Own2 w2 B E e v' (n+1) (Qhe V n u) (Qhe len n m) (Qhe xs n ys):=by
 have h1:=h.kept hg1 (Q9k _) (fun _ _=>Q9k _)
 have ur:u.ownBlock=none\/u.ownBlock≠v.ownBlock:=Q3g hu h1.top (fun q=>h.ne q.symm)
 have vu:∀i,i<n->∀k,(V i).ownBlock=some k->u.ownBlock≠some k:=by
  intro i hi k hk hq
  have:=((h.row i hi).lt k hk).2
  have:=hu2 k hq
  omega
 refine ⟨by rw[Q2l] at ht;exact ht,fun i hi=>?_,fun i j hi hj hij=>?_,h.ne⟩
 · by_cases e0:i=n
   · subst e0
     rw[Qkb,Qkb,Qkb]
     exact hu.kept hg2 ur
   · rw[Qbb e0,Qbb e0,Qbb e0]
     exact (h1.row i o9).kept hg2 (h1.rowne o9)
 · by_cases e0:i=n
   · subst e0
     rw[Qkb,Qbb (fun q=>hij q.symm)]
     cases hk:(V j).ownBlock with
     | none=>cases hq:u.ownBlock<;>simp
     | some k=>exact .inr (vu j o9 k hk)
   · rw[Qbb e0]
     by_cases e1:j=n
     · subst e1
       rw[Qkb]
       cases hk:(V i).ownBlock with
       | none=>exact .inl rfl
       | some k=>exact .inr (fun q=>vu i o9 k hk q.symm)
     · rw[Qbb e1]
       exact h.inj i j o9 o9 hij
theorem Own2.turn (h:Own2 w B E e v n V len xs) {i:Nat} (hi:i<n) (hg:w.grownBy w' (V i).ownBlock) (hr:w'.ownsRow B e 1 (V i) (len i) ys):Own2 w' B E e v n V len (Qhe xs i ys):=by
 refine ⟨h.top.kept hg (h.topne hi),fun j hj=>?_,h.inj,h.ne⟩
 by_cases e0:j=i
 · subst e0
   rw[Qkb]
   exact hr
 · rw[Qbb e0]
   exact (h.row j hj).kept hg (h.inj j i hj hi e0)
theorem Own2.put {g c:Nat} (h:Own2 w B E e (.slice (some ⟨g,0,none⟩) n c) n V len xs) {i:Nat} (hi:i<n) (hg:w.grownBy w1 (V i).ownBlock) (hu:w1.ownsRow B e 1 u m ys)
 (hu2:u.ownBlock=(V i).ownBlock\/∀k,u.ownBlock=some k->w.heap.size<=k):Own2 (w1.setCell ⟨g,i,none⟩ u) B E e (.slice (some ⟨g,0,none⟩) n c) n (Qhe V i u) (Qhe len i m) (Qhe xs i ys):=by
 have ht1:=h.top.kept hg (h.topne hi)
 obtain ⟨ht2,hg2⟩:=World.ownsRow.stored ht1 i u
 have hg2':w1.grownBy (w1.setCell ⟨g,i,none⟩ u) (Value.slice (some ⟨g,0,none⟩) n c).ownBlock:=hg2
 have vu:∀j,j<n->j≠i->∀k,(V j).ownBlock=some k->u.ownBlock≠some k:=by
  intro j hj hji k hk hq
  rcases hu2 with hu2|hu2
  · rcases h.inj j i hj hi hji with q|q
    · rw[q] at hk;cases hk
    · exact q (by rw[hk,<-hu2,hq])
  · have:=((h.row j hj).lt k hk).2
    have:=hu2 k hq
    omega
 refine ⟨by rw[Q3x] at ht2;exact ht2,fun j hj=>?_,fun j k hj hk hjk=>?_,h.ne⟩
 · by_cases e0:j=i
   · subst e0
     rw[Qkb,Qkb,Qkb]
     exact hu.kept hg2' (Q3g hu ht1 (fun q=>h.ne q.symm))
   · rw[Qbb e0,Qbb e0,Qbb e0]
     exact ((h.row j hj).kept hg (h.inj j i hj hi e0)).kept hg2' (h.rowne hj)
 · by_cases e0:j=i
   · subst e0
     rw[Qkb,Qbb (fun q=>hjk q.symm)]
     cases hq:(V k).ownBlock with
     | none=>cases hq':u.ownBlock<;>simp
     | some a=>exact .inr (vu k hk (fun q=>hjk q.symm) a hq)
   · rw[Qbb e0]
     by_cases e1:k=i
     · subst e1
       rw[Qkb]
       cases hq:(V j).ownBlock with
       | none=>exact .inl rfl
       | some a=>exact .inr (fun q=>vu j hj e0 a hq q.symm)
     · rw[Qbb e1]
       exact h.inj j k hj hk hjk
theorem Own2.at_ (h:Own2 w B E e v n V len xs) {i:Nat} (hi:i<n):∃g c,v=.slice (some ⟨g,0,none⟩) n c/\w.cell? ⟨g,i,none⟩=some (V i)/\w.frozen? ⟨g,i,none⟩=false/\B<=g/\g<w.heap.size/\n<=c/\c<=maxLen:=by
 obtain ⟨g,c,rfl,h1,h2,h3,h4⟩:=Qif h.top o9
 refine ⟨g,c,rfl,?_,World.ownsRow.frozenAt h.top i,h1,h2,h3,h4⟩
 rw[World.ownsRow.cellAt h.top i o9]
 simp only[List.getElem?_map,List.getElem?_range hi,Option.map_some]
theorem Own2.congr (h:Own2 w B E e v n V len xs) {xs':Nat->List Value} (hx:∀i,i<n->xs i=xs' i):Own2 w B E e v n V len xs':=
 ⟨h.top,fun i hi=>by rw[<-hx i hi];exact h.row i hi,h.inj,h.ne⟩
end
def OS (w:World) (B:Nat) (v:Value) (n:Nat) (V:Nat->Value) (L:N9z) (S:B9y):Prop:=Own2 w B 103 4 v n V L (fun i=>bl (L i) (S i))
theorem Own2.congr2 {w:World} {B:Nat} {E e:TypeId} {v:Value} {n:Nat} {V:Nat->Value} {len len':N9z} {xs xs':Nat->List Value} (h:Own2 w B E e v n V len xs) (hx:∀i,i<n->len i=len' i/\xs i=xs' i):Own2 w B E e v n V len' xs':=
 ⟨h.top,fun i hi=>by rw[<-(hx i hi).1,<-(hx i hi).2];exact h.row i hi,h.inj,h.ne⟩
theorem OS.congr {w:World} {B:Nat} {v:Value} {n:Nat} {V:Nat->Value} {L L':N9z} {S S':B9y} (h:OS w B v n V L S) (hx:∀i,i<n->L i=L' i/\∀j,j<L i->S i j=S' i j):OS w B v n V L' S':=
 Own2.congr2 h fun i hi=>⟨(hx i hi).1,by rw[<-(hx i hi).1];exact Q9r (hx i hi).2⟩
theorem OS.sets {w:World} {B:Nat} {v:Value} {n:Nat} {V:Nat->Value} {L:N9z} {S:B9y} (h:OS w B v n V L S):∃A c,v=.slice A n c/\n<=c/\c<=maxLen/\Sets w A n L S:=by
 rcases Nat.eq_zero_or_pos n with rfl|hn
 · rcases h.top.2 with ⟨rfl,_⟩|⟨g,cap,cur,rfl,_,_,h1,h2,_⟩
   · exact ⟨none,0,rfl,by omega,by simp[maxLen],fun h0=>absurd h0 o9⟩
   · exact ⟨_,_,rfl,h1,h2,fun h0=>absurd h0 o9⟩
 · obtain ⟨g,c,rfl,_,_,_,hgl,h1,h2⟩:=Own2.at_ h hn
   refine ⟨_,_,rfl,h1,h2,fun _=>⟨g,0,rfl,hgl,fun i hi=>?_⟩⟩
   obtain ⟨g',c',e,hc,_⟩:=Own2.at_ h hi
   cases e
   obtain ⟨A,c2,e2,h3,h4,hb⟩:=Q6e (h.row i hi)
   exact ⟨A,c2,by rw[Nat.zero_add,hc,e2],by omega,hb⟩
theorem Qsm:(Tryz.prog.info? 103).map (fun i=>(i.zero,i.size,i.bytes))=some (some (.slice none 0 0),1,24):=by kernel_rfl
theorem Qdi:103≠4:=by decide
def OwnSets (w:World) (n:Nat) (L:N9z) (P:(Nat->Nat->Bool)->Prop) (e:Ending) (w':World):Prop:=
 ∃v V S,e=.returned v/\OS w' w.heap.size v n V L S/\P S/\Below w.heap.size w w'
theorem Qfz (A:Option Addr) (n c:Nat):∀u∈[Value.slice A n c],u.oneCell'=true:=by
 intro u hu
 simp at hu
 subst hu
 rfl
def PX (n m nl:Nat) (F T:I9z) (S:B9y) (i k j:Nat) (X:B9y):Prop:=
 ∀a,a<n->∀b,b<m->(X a b=true↔(∃i',i'<i/\Leads nl F T i' a/\S i' b=true)\/((a<k\/a=k/\b<j)/\Leads nl F T i a/\S i b=true))
section
variable {n m nl:Nat} {F T:I9z} {S X:B9y} {i k j:Nat}
theorem PX.start:PX n m nl F T S 0 0 0 (fun _ _=>false):=by
 intro a _ b _
 constructor
 · intro h;cases h
 · rintro (⟨i',h,_⟩|⟨h|⟨_,h⟩,_⟩)<;>omega
theorem PX.step (h:PX n m nl F T S i k j X) (hk:k<n) (hj:j<m) (hl:Leads nl F T i k):PX n m nl F T S i k (j+1) (Qhe X k (upd (X k) j (X k j||S i j))):=by
 intro a ha b hb
 have h0:=h a ha b hb
 by_cases e:a=k
 · subst e
   rw[Qkb]
   by_cases e2:b=j
   · subst e2
     rw[Qym,Bool.or_eq_true,h0]
     constructor
     · rintro ((h1|⟨h1,h2,h3⟩)|h1)
       · exact .inl h1
       · omega
       · exact .inr ⟨.inr ⟨rfl,by omega⟩,hl,h1⟩
     · rintro (h1|⟨_,_,h3⟩)
       · exact .inl (.inl h1)
       · exact .inr h3
   · rw[Qsj e2,h0]
     constructor
     · rintro (h1|⟨h1,h2,h3⟩)
       · exact .inl h1
       · exact .inr ⟨.inr ⟨rfl,by omega⟩,h2,h3⟩
     · rintro (h1|⟨h1,h2,h3⟩)
       · exact .inl h1
       · exact .inr ⟨.inr ⟨rfl,by omega⟩,h2,h3⟩
 · rw[Qbb e,h0]
   constructor
   · rintro (h1|⟨h1,h2,h3⟩)
     · exact .inl h1
     · exact .inr ⟨by omega,h2,h3⟩
   · rintro (h1|⟨h1,h2,h3⟩)
     · exact .inl h1
     · exact .inr ⟨by omega,h2,h3⟩
theorem PX.row (h:PX n m nl F T S i k j X) (hj:j=m\/¬Leads nl F T i k):PX n m nl F T S i (k+1) 0 X:=by
 intro a ha b hb
 rw[h a ha b hb]
 constructor
 · rintro (h1|⟨h1,h2,h3⟩)
   · exact .inl h1
   · exact .inr ⟨by omega,h2,h3⟩
 · rintro (h1|⟨h1,h2,h3⟩)
   · exact .inl h1
   · rcases hj with hj|hj
     · exact .inr ⟨by omega,h2,h3⟩
     · by_cases e:a=k
       · subst e;exact absurd h2 hj
       · exact .inr ⟨by omega,h2,h3⟩
theorem PX.done (h:PX n m nl F T S i n 0 X):PX n m nl F T S (i+1) 0 0 X:=by
 intro a ha b hb
 rw[h a ha b hb]
 constructor
 · rintro (⟨i',h1,h2⟩|⟨_,h2⟩)
   · exact .inl ⟨i',by omega,h2⟩
   · exact .inl ⟨i,by omega,h2⟩
 · rintro (⟨i',h1,h2⟩|⟨h1,h2⟩)
   · rcases Nat.lt_or_eq_of_le (Nat.le_of_lt_succ h1) with h3|rfl
     · exact .inl ⟨i',h3,h2⟩
     · exact .inr ⟨by omega,h2⟩
   · omega
theorem PX.sol (h:PX n m nl F T S n 0 0 X):IsSol n m nl F T S X:=by
 intro a ha b hb
 rw[h a ha b hb]
 constructor
 · rintro (h1|⟨h1,_⟩)
   · exact h1
   · omega
 · exact fun h1=>.inl h1
end
theorem Qev (A A':Option Addr) (n nl c c':Nat) (L:N9z) (S:B9y) (F T N Y:I9z) (w:World) (hn:n<=592) (hl:nl<=1152) (hL:∀i,i<n->L i=L 0) (h6:∀i,i<n->L i<=600) (hF:Qnv n nl F T)
 (hX:Sets w A n L S) (hY:Cons w A' nl F T N Y):
 Calls Tryz.prog 145 #[.slice A n c,.slice A' nl c'] w (OwnSets w n L (IsSol n (L 0) nl F T S)):=by
 have HX:=Lib.hid hX
 have HY:=Lib.hid hY
 have HL:=Lib.hid hL
 have HF:=Lib.hid hF
 have H6:=Lib.hid h6
 clear hX hY hL hF h6
 obtain ⟨i1,hi1,hy0,hy1,hy2⟩:=info_parts Qsm
 go_enter Tryz.func145,Tryz.ntmps145
 go_wp2
 go_loopw [5,6] (fun u v wr=>∃(i:Nat) (V:Nat->Value),i<=n/\v=.int .i64 i/\OS wr w.heap.size u i V L (fun _ _=>false)/\Below w.heap.size w wr) (fun _ v _=>n - (intOf v).toNat)
 case atStart=>exact ⟨0,fun _=>.slice none 0 0,by omega,rfl,Own2.none_ _ _ Qdi,Below.refl _ _⟩
 case round=>
  obtain ⟨i,V,hi,rfl,hO,hB⟩:=hrel
  have hz:=hB.size
  by_cases hlt:i<n
  · have hdi:decide ((i:Int)<n)=true:=by simp;omega
    obtain ⟨b,off,rfl,hb,hc⟩:=HX.out o9
    obtain ⟨R,C,e0,hl0,hX0⟩:=hc i hlt
    have c0:=(hB.cell (p:=⟨b,_,none⟩) hb).trans e0
    have hl6:=H6.out i hlt
    have hbz:b<wr.heap.size:=by omega
    have HO:=Lib.hid hO
    have hmk:=Qim (P:=Tryz.prog) rfl (L i) o9
    have HW1:=Lib.hid (OB.made (B:=wr.heap.size) wr (L i) (Nat.le_refl _) (by simp only[maxLen];omega))
    have hB1:Below wr.heap.size wr (wr.alloc (.cells (madeCells #[.bool false] (L i)) 4)):=(Below.refl _ _).alloc (Nat.le_refl _) _
    clear hc HX e0 hX0 hO
    go_wp2_with (first
     | (at_builtin
        refine Qsc _ rfl (.tmp 17) (.tmp 24) _ rfl w.heap.size 103 i1 _ 1 24 Tryz.underlying98 hi1 hy0 hy1 hy2 rfl o9 _ _ _ rfl ((HO.out.alloc _).alloc _).top
         (wr.heap.size+2) (some ⟨_,0,none⟩) 1 1 [.slice (some ⟨wr.heap.size,0,none⟩) (L i) (L i)] rfl (Qpr (by simp) o9) (Qfz _ _ _) (by simp only[maxLen];omega) o9 (by first|omega|(simp;done)|(simp;omega)) ?_
        intro v2 w2 hown2 hg2 hat2
        have HO2:=Lib.hid (HO.out.push (Qaf (hB1.alloc (by simp) (.cells #[.slice (some ⟨wr.heap.size,0,none⟩) (L i) (L i)] 103))) (Q4n (HW1.out.alloc _) hz) (fun k hk=>(World.ownsRow.lt HW1.out k hk).1) hg2 hown2)
        have hB2:Below w.heap.size w w2:=((hB.trans (hB1.mono hz)).alloc (by simp;omega) _).grown hg2 (by first|omega|(simp;done)|(simp;omega)) (fun g hg=>(HO.out.top.lt g hg).1)
        clear hown2 hg2 hat2 hi1 hy0 hy1 hy2)
     | fail)
    go_roundw
    case rel=>exact ⟨i+1,_,by omega,by go_num,HO2.out.congr2 (fun j hj=>by
     by_cases e:j=i
     · subst e;rw[Qkb,Qkb];exact ⟨rfl,rfl⟩
     · rw[Qbb e,Qbb e];exact ⟨rfl,rfl⟩),hB2⟩
    case measure=>simp[intOf];omega
  · have:i=n:=by omega
    subst this
    have hdi:decide ((i:Int)<i)=false:=by simp
    have HO:=Lib.hid hO
    clear hlt hO hi1 hy0 hy1 hy2
    obtain ⟨wo,ho⟩:=x9 (wr:World)
    rw[<-ho] at hB hz HO⊢
    clear ho
    go_wp2
    go_loopw [7] (fun v wr=>∃(a:Nat) (X:B9y),a<=i/\v=.int .i64 a/\OS wr w.heap.size u5 i V L X/\PX i (L 0) nl F T S a 0 0 X/\wo.heap.size<=wr.heap.size/\Below w.heap.size w wr) (fun v _=>i - (intOf v).toNat)
    case atStart=>exact ⟨0,_,by omega,rfl,HO.out,PX.start,Nat.le_refl _,hB⟩
    case round=>
     obtain ⟨a,X,ha,rfl,hO,hP,hQ,hB⟩:=hrel
     have hz:=hB.size
     have HO2:=Lib.hid hO
     have HP2:=Lib.hid hP
     clear hO hP
     by_cases hlt:a<i
     · have hda:decide ((a:Int)<i)=true:=by simp;omega
       have HV:=Lib.hid (fun k (hk:k<i) b (hb:(V k).ownBlock=some b)=>((HO.out.row k hk).lt b hb).2)
       obtain ⟨g0,c0,hu5,_⟩:=Own2.at_ HO.out hlt
       subst hu5
       clear HO
       go_wp2_with fail
       refine (Qrx A' i nl c' a F T N Y _ hn hl hlt HF.out (HY.out.below' hB)).mono ?_
       rintro e w1 ⟨g,cg,Z,rfl,hZ,hlead,hb1⟩
       have hB1:Below w.heap.size w w1:=Below.call hB hb1
       have hz1:=hb1.size
       have HO1:=Lib.hid (Own2.below HO2.out hb1)
       have HZ1:=Lib.hid (Q4n hZ hQ)
       have HLD:=Lib.hid hlead
       clear hZ hlead hb1 HO2
       go_wp2
       go_loopw [9] (fun v wr=>∃(k:Nat) (X:B9y),k<=i/\v=.int .i64 k/\OS wr w.heap.size (.slice (some ⟨g0,0,none⟩) i c0) i V L X/\PX i (L 0) nl F T S a k 0 X/\OB wr wo.heap.size g i cg Z/\wo.heap.size<=wr.heap.size/\Below w.heap.size w wr) (fun v _=>i - (intOf v).toNat)
       case atStart=>exact ⟨0,X,by omega,rfl,HO1.out,HP2.out,HZ1.out,by omega,hB1⟩
       case round=>
        obtain ⟨k,X3,hk,rfl,hO3,hP3,hZ3,hQ3,hB3⟩:=hrel
        have hz3:=hB3.size
        have HO3:=Lib.hid hO3
        have HP3:=Lib.hid hP3
        have HZ3:=Lib.hid hZ3
        clear hO3 hP3 hZ3 HO1 HZ1 HP2
        by_cases hlk:k<i
        · have hdk:decide ((k:Int)<i)=true:=by simp;omega
          obtain ⟨w3,hw3⟩:=x9 (wr:World)
          rw[<-hw3] at hB3 hz3 HO3 HZ3 hQ3⊢
          clear hw3
          go_wp2
          go_loopw [10] (fun v wr=>∃(j:Nat) (X:B9y),j<=L a/\v=.int .i64 j/\OS wr w.heap.size (.slice (some ⟨g0,0,none⟩) i c0) i V L X/\PX i (L 0) nl F T S a k j X/\OB wr wo.heap.size g i cg Z/\wo.heap.size<=wr.heap.size/\Below w.heap.size w wr) (fun v _=>L a - (intOf v).toNat)
          case atStart=>exact ⟨0,X3,by omega,rfl,HO3.out,HP3.out,HZ3.out,hQ3,hB3⟩
          case round=>
           obtain ⟨j,X4,hj,rfl,hO4,hP4,hZ4,hQ4,hB4⟩:=hrel
           have hz4:=hB4.size
           have HO4:=Lib.hid hO4
           have HP4:=Lib.hid hP4
           have HZ4:=Lib.hid hZ4
           clear hO4 hP4 hZ4 HO3 HP3 HZ3
           obtain ⟨b,off,rfl,hb,hc⟩:=HX.out o9
           obtain ⟨R,C,e0,hl0,hX0⟩:=hc a hlt
           have c1:=(hB4.cell (p:=⟨b,_,none⟩) hb).trans e0
           have c2:=HZ4.out.cell hlk
           have HX0:=Lib.hid hX0
           have h600:=H6.out a hlt
           clear hc e0 hX0
           by_cases hlj:j<L a
           · have hdj:decide ((j:Int)<L a)=true:=by simp;omega
             rcases Bool.eq_false_or_eq_true (Z k) with hzk|hzk
             · have HLk:=Lib.hid ((HLD.out k hlk).1 hzk)
               rw[hzk] at c2
               clear hzk
               have hlak:L k=L a:=by rw[HL.out k hlk,HL.out a hlt]
               have hjk:j<L k:=by omega
               have hj0:j<L 0:=by have:=HL.out k hlk;omega
               obtain ⟨bb,oo,rfl,hbb,hcc⟩:=HX0.out o9
               have c3:=(hB4.cell (p:=⟨bb,_,none⟩) hbb).trans (hcc j hlj)
               obtain ⟨r,cr,hV,hr1,hr2,_,_⟩:=Qif (HO4.out.row k hlk) o9
               have hOB:OB wr w.heap.size r (L k) cr (X4 k):=by
                have:=HO4.out.row k hlk
                rw[hV] at this
                exact this
               have c4:=hOB.cell hjk
               have f4:=hOB.frozen j
               have hst:=fun (bv:Bool)=>(World.ownsRow.stored hOB j (.bool bv)).2
               have hset:=fun (bv:Bool)=>hOB.set j bv
               obtain ⟨g',c'',e1,c5,_⟩:=Own2.at_ HO4.out hlk
               cases e1
               rw[hV] at c5
               have hrg:r<wo.heap.size:=HV.out k hlk r (by rw[hV];rfl)
               have hgg:=HZ4.out.lt
               have KEY:∀bv,bv=(X4 k j||S a j)->OS (wr.setCell ⟨r,j,none⟩ (.bool bv)) w.heap.size (.slice (some ⟨g0,0,none⟩) i c0) i V L (Qhe X4 k (upd (X4 k) j (X4 k j||S a j)))/\
                OB (wr.setCell ⟨r,j,none⟩ (.bool bv)) wo.heap.size g i cg Z/\Below w.heap.size w (wr.setCell ⟨r,j,none⟩ (.bool bv)):=by
                intro bv hbv
                refine ⟨?_,HZ4.out.kept (hst bv) (by intro q;injection q with q;omega),hB4.setCell hr1 _⟩
                refine (Own2.turn HO4.out hlk (by rw[hV];exact hst bv) (ys:=bl (L k) (upd (X4 k) j bv)) (by rw[hV];exact hset bv)).congr fun x hx=>?_
                by_cases e:x=k
                · subst e;rw[Qkb,Qkb,hbv]
                · rw[Qbb e,Qbb e]
               have HPs:=Lib.hid (HP4.out.step hlk hj0 HLk.out)
               clear hV hcc hOB HX0 hst hset
               rcases Bool.eq_false_or_eq_true (X4 k j) with hx|hx
               · have K:=Lib.hid (KEY true (by simp[hx]))
                 rw[hx] at c4
                 have hsz:(wr.setCell ⟨r,j,none⟩ (.bool true)).heap.size=wr.heap.size:=by simp[World.setCell]
                 have HSZ:=Lib.hid hsz
                 clear KEY hx hsz
                 go_wp2
                 go_region
                 go_wp2
                 go_roundw
                 case rel=>exact ⟨j+1,_,by omega,by go_num,Own2.drew K.out.1,HPs.out,K.out.2.1.drew,by have:=HSZ.out;simp only[World.drew];simpa using (by omega:wo.heap.size<=(wr.setCell ⟨r,j,none⟩ (.bool true)).heap.size),K.out.2.2.drew⟩
                 case measure=>simp[intOf];omega
               · have K:=Lib.hid (KEY (S a j) (by simp[hx]))
                 rw[hx] at c4
                 have hsz:(wr.setCell ⟨r,j,none⟩ (.bool (S a j))).heap.size=wr.heap.size:=by simp[World.setCell]
                 have HSZ:=Lib.hid hsz
                 clear KEY hx hsz
                 go_wp2
                 go_region
                 go_wp2
                 go_roundw
                 case rel=>exact ⟨j+1,_,by omega,by go_num,Own2.drew K.out.1,HPs.out,K.out.2.1.drew,by have:=HSZ.out;simp only[World.drew];simpa using (by omega:wo.heap.size<=(wr.setCell ⟨r,j,none⟩ (.bool (S a j))).heap.size),K.out.2.2.drew⟩
                 case measure=>simp[intOf];omega
             · have hnl:¬Leads nl F T a k:=fun h=>by rw[(HLD.out k hlk).2 h] at hzk;cases hzk
               have HP5:=Lib.hid (HP4.out.row (.inr hnl))
               rw[hzk] at c2
               clear hnl hzk
               go_wp2
               go_roundw
               case rel=>exact ⟨k+1,X4,by omega,by go_num,HO4.out,HP5.out,HZ4.out,hQ4,hB4⟩
               case measure=>simp[intOf];omega
           · have hje:j=L a:=by omega
             have HP5:=Lib.hid (HP4.out.row (.inl (by rw[hje,HL.out a hlt])))
             subst hje
             have hdj:decide ((L a:Int)<L a)=false:=by simp
             clear hlj
             go_wp2
             go_roundw
             case rel=>exact ⟨k+1,X4,by omega,by go_num,HO4.out,HP5.out,HZ4.out,hQ4,hB4⟩
             case measure=>simp[intOf];omega
        · have:k=i:=by omega
          subst this
          have hdk:decide ((k:Int)<k)=false:=by simp
          clear hlk
          go_wp2
          go_roundw
          case rel=>exact ⟨a+1,X3,by omega,by go_num,HO3.out,HP3.out.done,hQ3,hB3⟩
          case measure=>simp[intOf];omega
     · have:a=i:=by omega
       subst this
       have hda:decide ((a:Int)<a)=false:=by simp
       clear hlt HO
       go_wp2
       go_ret
       exact ⟨u5,V,X,rfl,HO2.out,HP2.out.sol,hB⟩
def Q16 {α:Type} (i:Nat) (f:Nat->α) (d:α) (j:Nat):α:=if j<i then f j else d
theorem Qgu {α:Type} {i:Nat} {f:Nat->α} {d:α} (j:Nat):Qhe (Q16 i f d) i (f i) j=Q16 (i+1) f d j:=by
 unfold Q16
 by_cases e:j=i
 · subst e;rw[Qkb,if_pos o9]
 · rw[Qbb e]
   by_cases h:j<i
   · rw[if_pos h,if_pos o9]
   · rw[if_neg h,if_neg o9]
theorem Qzz {α:Type} {i j:Nat} {f:Nat->α} {d:α} (h:j<i):Q16 i f d j=f j:=if_pos h
def tot (X:B9y) (m:Nat):Nat->Nat
 | 0=>0
 | n+1=>tot X m n+Qfh (X n) m
theorem Qa9 (X:B9y) (m n:Nat):tot X m n<=n * m:=by
 induction n with
 | zero=>simp[tot]
 | succ n ih=>
   have:=Q6v (X n) m
   rw[tot,Nat.succ_mul]
   omega
theorem Qwz {X X':B9y} {m n:Nat} (h:∀a,a<n->∀j,j<m->X a j=X' a j):tot X m n=tot X' m n:=by
 induction n with
 | zero=>rfl
 | succ n ih=>rw[tot,tot,ih fun a ha=>h a o9,Q0o (h n o9)]
theorem Qb9 {X X':B9y} {m n k:Nat} (hk:k<n) (h:∀a,a<n->a≠k->∀j,j<m->X a j=X' a j) (hc:Qfh (X k) m<Qfh (X' k) m):tot X m n<tot X' m n:=by
 induction n with
 | zero=>omega
 | succ n ih=>
   rw[tot,tot]
   by_cases e:k=n
   · subst e
     have:tot X m k=tot X' m k:=Qwz fun a ha=>h a o9 o9
     omega
   · have:=ih o9 fun a ha hne=>h a o9 hne
     have h2:=Q0o (h n o9 (fun q=>e q.symm))
     omega
theorem Qd4 {X Y:B9z} {m:Nat} (h:∀j,j<m->X j=true->Y j=true) {j:Nat} (hj:j<m) (h1:X j=false) (h2:Y j=true):Qfh X m<Qfh Y m:=by
 have hs:=Qds (X:=X) (Y:=upd X j true) hj h1 Qym (fun k hk=>Qsj hk)
 have hm:Qfh (upd X j true) m<=Qfh Y m:=Q0f fun k hk hx=>by
  by_cases e:k=j
  · subst e;exact h2
  · rw[Qsj e] at hx;exact h k hk hx
 omega
def frl (F T:I9z) (t:Nat):Nat->List Nat
 | 0=>[]
 | k+1=>if (T k).toNat=t then frl F T t k++[(F k).toNat] else frl F T t k
theorem Qm4 {F T:I9z} {t k c:Nat} (hc:c<k) (h:(T c).toNat=t):(F c).toNat∈frl F T t k:=by
 induction k with
 | zero=>omega
 | succ k ih=>
   rw[frl]
   by_cases e:c=k
   · subst e;rw[if_pos h];simp
   · have:=ih o9
     split
     · simp[this]
     · exact this
theorem Qo7 {F T:I9z} {t k f:Nat} (h:f∈frl F T t k):∃c,c<k/\(T c).toNat=t/\(F c).toNat=f:=by
 induction k with
 | zero=>simp[frl] at h
 | succ k ih=>
   rw[frl] at h
   split at h
   · rename_i ht
     rcases List.mem_append.1 h with h|h
     · obtain ⟨c,hc,h1,h2⟩:=ih h
       exact ⟨c,by omega,h1,h2⟩
     · simp at h
       exact ⟨k,by omega,ht,h.symm⟩
   · obtain ⟨c,hc,h1,h2⟩:=ih h
     exact ⟨c,by omega,h1,h2⟩
theorem Qgw (F T:I9z) (t k:Nat):(frl F T t k).length<=k:=by
 induction k with
 | zero=>simp[frl]
 | succ k ih=>
   rw[frl]
   split
   · simp;omega
   · omega
def Waits (n m nl:Nat) (F T:I9z) (X:B9y) (t:Nat) (fs ws:List Nat):Prop:=
 ∀c,c<nl->(T c).toNat∈ws\/((T c).toNat=t/\(F c).toNat∈fs)\/∀j,j<m->X (T c).toNat j=true->X (F c).toNat j=true
def Found (n m nl:Nat) (F T:I9z) (S X:B9y):Prop:=
 (∀k,k<n->∀j,j<m->S k j=true->X k j=true)/\∀k,k<n->∀j,j<m->X k j=true->∃i,i<n/\Leads nl F T i k/\S i j=true
section
variable {n m nl:Nat} {F T:I9z} {S X:B9y} {t f:Nat} {fs ws:List Nat}
theorem Waits.begin_ (h:Waits n m nl F T X t [] (t::ws)):Waits n m nl F T X t (frl F T t nl) ws:=by
 intro c hc
 rcases h c hc with h1|⟨_,h1⟩|h1
 · rcases List.mem_cons.1 h1 with h2|h2
   · exact .inr (.inl ⟨h2,by exact Qm4 hc h2⟩)
   · exact .inl h2
 · simp at h1
 · exact .inr (.inr h1)
theorem Waits.other (h:Waits n m nl F T X t [] ws) (t':Nat):Waits n m nl F T X t' [] ws:=by
 intro c hc
 rcases h c hc with h1|⟨_,h1⟩|h1
 · exact .inl h1
 · simp at h1
 · exact .inr (.inr h1)
def Qzc (X:B9y) (f t:Nat):Nat->Nat->Bool:=Qhe X f (fun j=>X f j||X t j)
theorem Qcf {k j:Nat} (h:X k j=true):Qzc X f t k j=true:=by
 unfold Qzc
 by_cases e:k=f
 · subst e;rw[Qkb];simp[h]
 · rw[Qbb e];exact h
theorem Waits.more (h:Waits n m nl F T X t (f::fs) ws) (hne:f≠t):Waits n m nl F T (Qzc X f t) t fs (ws++[f]):=by
 intro c hc
 rcases h c hc with h1|⟨h1,h2⟩|h1
 · exact .inl (by simp[h1])
 · rcases List.mem_cons.1 h2 with h3|h3
   · refine .inr (.inr fun j _ hx=>?_)
     unfold Qzc at hx⊢
     rw[h1,Qbb (fun q=>hne q.symm)] at hx
     rw[h3,Qkb]
     simp[hx]
   · exact .inr (.inl ⟨h1,h3⟩)
 · by_cases e:(T c).toNat=f
   · exact .inl (by simp[e])
   · refine .inr (.inr fun j hj hx=>Qcf (h1 j hj ?_))
     unfold Qzc at hx
     rw[Qbb e] at hx
     exact hx
theorem Found.join (h:Found n m nl F T S X) {c:Nat} (hc:c<nl) (hf:Qnv n nl F T) (ht:(T c).toNat=t) (hff:(F c).toNat=f):Found n m nl F T S (Qzc X f t):=by
 refine ⟨fun k hk j hj hs=>Qcf (h.1 k hk j hj hs),fun k hk j hj hx=>?_⟩
 unfold Qzc at hx
 by_cases e:k=f
 · rw[e,Qkb] at hx
   rw[Bool.or_eq_true] at hx
   rcases hx with hx|hx
   · rw[e];exact h.2 f o9 j hj hx
   · have hb:=hf c hc
     obtain ⟨i,hi,h1,h2⟩:=h.2 t o9 j hj hx
     refine ⟨i,hi,?_,h2⟩
     rw[e,<-hff]
     exact .step c hc h1 o9
 · rw[Qbb e] at hx
   exact h.2 k hk j hj hx
theorem Found.sol (h:Found n m nl F T S X) (hw:Waits n m nl F T X t [] []):IsSol n m nl F T S X:=by
 refine IsSol.mk h.1 (fun c hc j hj hx=>?_) h.2
 rcases hw c hc with h1|⟨_,h1⟩|h1
 · simp at h1
 · simp at h1
 · exact h1 j hj hx
theorem Found.start:Found n m nl F T S S:=⟨fun _ _ _ _ h=>h,fun k hk j _ h=>⟨k,hk,.refl _,h⟩⟩
theorem Waits.start (hf:Qnv n nl F T) (t:Nat):Waits n m nl F T S t [] (List.range n):=by
 intro c hc
 have:=hf c hc
 exact .inl (by simp;omega)
theorem Quu {k:Nat} (hk:f<n) (h:∃j,j<m/\X t j=true/\X f j=false):tot X m n<tot (Qzc X f t) m n:=by
 obtain ⟨j,hj,h1,h2⟩:=h
 refine Qb9 hk (fun a _ hne b _=>by unfold Qzc;rw[Qbb hne]) ?_
 refine Qd4 (fun b _ hx=>Qcf hx) hj h2 ?_
 unfold Qzc
 rw[Qkb]
 simp[h1]
end
def il (l:List Nat):List Value:=l.map fun (f:Nat)=>Value.int .i64 ((f:Nat):Int)
theorem Q2w {l:List Nat} {k:Nat} (h:k<l.length):(il l)[k]? =some (.int .i64 (l[k]:Int)):=by simp[il,h]
theorem Qar (l:List Nat) (a:Nat):il l++[.int .i64 (a:Int)]=il (l++[a]):=by simp[il]
theorem Qx0:(Tryz.prog.info? 3).map (fun i=>(i.zero,i.size,i.bytes))=some (some (.int .i64 0),1,8):=by kernel_rfl
theorem Q5w:(Tryz.prog.info? 70).map (fun i=>(i.zero,i.size,i.bytes))=some (some (.slice none 0 0),1,24):=by kernel_rfl
theorem Qhq:70≠3:=by decide
theorem Own2.made {w:World} {B:Nat} {E e:TypeId} (n:Nat) (hB:B<=w.heap.size) (hn:n<=maxLen) (hne:E≠e):
 Own2 (w.alloc (.cells (madeCells #[.slice none 0 0] n) E)) B E e (.slice (some ⟨w.heap.size,0,none⟩) n n) n (fun _=>.slice none 0 0) (fun _=>0) (fun _=>[]):=by
 have h:=World.ownsRow_lit (base:=B) (e:=E) (size:=1) w (madeCells #[.slice none 0 0] n) n hB hn (by rw[size_madeCells];omega)
 rw[toList_madeCells_one] at h
 refine ⟨?_,fun i _=>World.ownsRow_nil _ _ _ _,fun i j _ _ _=>.inl rfl,hne⟩
 have e:(List.range n).map (fun _=>Value.slice none 0 0)=List.replicate n (Value.slice none 0 0):=by
  refine List.ext_getElem? fun j=>?_
  by_cases hj:j<n
  · simp[hj]
  · rw[List.getElem?_eq_none (by simp;omega),List.getElem?_eq_none (by simp;omega)]
 rw[e]
 exact h
theorem Q1x {P:Program} (hP:P=Tryz.prog) (n:Nat) (hn:n<=1000000) (w:World):
 (Instr.makeSlice 98 (.int .i64 (n:Int)) (.int .i64 (n:Int))).run P w=.ok (.slice (some ⟨w.heap.size,0,none⟩) n n) (w.alloc (.cells (madeCells #[.slice none 0 0] n) 103)):=by
 subst hP
 exact run_make_row' 98 103 (.slice none 0 0) 24 Tryz.underlying98 Qsm rfl .i64 .i64 n o9 o9 w
theorem Qyu {P:Program} (hP:P=Tryz.prog) (n:Nat) (hn:n<=1000000) (w:World):
 (Instr.makeSlice 132 (.int .i64 (n:Int)) (.int .i64 (n:Int))).run P w=.ok (.slice (some ⟨w.heap.size,0,none⟩) n n) (w.alloc (.cells (madeCells #[.slice none 0 0] n) 70)):=by
 subst hP
 exact run_make_row' 132 70 (.slice none 0 0) 24 Tryz.underlying132 Q5w rfl .i64 .i64 n o9 o9 w
end Go.Proofs.YtemnfncbgalljaaGreat
