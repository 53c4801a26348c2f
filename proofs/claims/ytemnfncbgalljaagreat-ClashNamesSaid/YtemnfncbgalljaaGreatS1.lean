/- Lemmas. No condition. -/
import Derived.Test.YtemnfncbgalljaaGreatM1
import Derived.Laws.OwnMore
import Derived.Laws.Rows
import Derived.Deep.AppendLies
import Derived.Deep.Draws
import Derived.Maps.AppendAt
import Derived.RegionTactic
import Derived.OwnWalk
namespace Go.Proofs.YtemnfncbgalljaaGreat
set_option linter.all false
set_option maxHeartbeats 64000000
inductive Leads (nl:Nat) (F T:I9z):Nat->Nat->Prop
 | refl (a:Nat):Leads nl F T a a
 | step {a b:Nat} (c:Nat) (hc:c<nl) (h:Leads nl F T a b) (e:T c=(b:Int)):Leads nl F T a (F c).toNat
theorem Leads.trans {nl:Nat} {F T:I9z} {a b c:Nat} (h1:Leads nl F T a b) (h2:Leads nl F T b c):Leads nl F T a c:=by
 induction h2 with
 | refl=>exact h1
 | step c hc _ e ih=>exact .step c hc ih e
theorem Leads.one {nl:Nat} {F T:I9z} {c:Nat} (hc:c<nl) (h:0<=T c):Leads nl F T (T c).toNat (F c).toNat:=.step c hc (.refl _) o9
def Qnv (n nl:Nat) (F T:I9z):Prop:=∀c,c<nl->0<=F c/\F c<n/\0<=T c/\T c<n
def IsSol (n m nl:Nat) (F T:I9z) (S S':B9y):Prop:=
 ∀k,k<n->∀j,j<m->(S' k j=true↔∃i,i<n/\Leads nl F T i k/\S i j=true)
def Closed (m nl:Nat) (F T:I9z) (X:B9y):Prop:=∀c,c<nl->∀j,j<m->X (T c).toNat j=true->X (F c).toNat j=true
theorem Closed.leads {m nl:Nat} {F T:I9z} {X:B9y} (hc:Closed m nl F T X) {i k j:Nat} (hj:j<m) (h:Leads nl F T i k) (hi:X i j=true):X k j=true:=by
 induction h with
 | refl=>exact hi
 | step c h' _ e ih=>exact hc c h' j hj (by rw[e];simpa using ih)
theorem IsSol.mk {n m nl:Nat} {F T:I9z} {S X:B9y} (h0:∀k,k<n->∀j,j<m->S k j=true->X k j=true) (h1:Closed m nl F T X)
 (h2:∀k,k<n->∀j,j<m->X k j=true->∃i,i<n/\Leads nl F T i k/\S i j=true):IsSol n m nl F T S X:=
 fun k hk j hj=>⟨h2 k hk j hj,fun ⟨i,hi,hl,hs⟩=>h1.leads hj hl (h0 i hi j hj hs)⟩
theorem IsSol.mono {n m nl nl':Nat} {F T F' T':I9z} {S S' X X':B9y} (h:IsSol n m nl F T S X) (h':IsSol n m nl' F' T' S' X') (hs:∀k,k<n->∀j,j<m->S k j=true->S' k j=true)
 (hl:∀a b,Leads nl F T a b->Leads nl' F' T' a b):∀k,k<n->∀j,j<m->X k j=true->X' k j=true:=by
 intro k hk j hj hx
 obtain ⟨i,hi,h1,h2⟩:=(h k hk j hj).1 hx
 exact (h' k hk j hj).2 ⟨i,hi,hl _ _ h1,hs i hi j hj h2⟩
def Q70 (n nl:Nat) (L:N9z):Bool:=decide (592<n)||decide (1152<nl)||decide (∃i,i<n/\600<L i)
def Qj4 (n nl:Nat) (L:N9z) (F T:I9z):Bool:=decide (∀i,i<n->L i=L 0)&&decide (∀c,c<nl->0<=F c/\F c<n/\0<=T c/\T c<n)
def Qb2 (n nl:Nat) (L:N9z) (F T:I9z):Int:=if Q70 n nl L=true then 4 else if Qj4 n nl L F T=true then 0 else 2
theorem Q1m {n nl:Nat} {L:N9z} {F T:I9z} (h:592<n\/1152<nl\/∃i,i<n/\600<L i):Qb2 n nl L F T=4:=by
 rw[Qb2,if_pos]
 simp only[Q70,Bool.or_eq_true,decide_eq_true_eq]
 rcases h with h|h|h
 · exact .inl (.inl h)
 · exact .inl (.inr h)
 · exact .inr h
theorem Qrv {n nl:Nat} {L:N9z} {F T:I9z} (h1:n<=592) (h2:nl<=1152) (h3:∀i,i<n->L i<=600) (h:(∃i,i<n/\L i≠L 0)\/∃c,c<nl/\¬(0<=F c/\F c<n/\0<=T c/\T c<n)):Qb2 n nl L F T=2:=by
 rw[Qb2,if_neg,if_neg]
 · simp only[Qj4,Bool.and_eq_true,decide_eq_true_eq,not_and]
   rintro h4 h5
   rcases h with ⟨i,hi,h⟩|⟨c,hc,h⟩
   · exact h (h4 i hi)
   · exact h (h5 c hc)
 · simp only[Q70,Bool.or_eq_true,decide_eq_true_eq,not_or]
   exact ⟨⟨by omega,by omega⟩,fun ⟨i,hi,h⟩=>by have:=h3 i hi;omega⟩
theorem Qc2 {n nl:Nat} {L:N9z} {F T:I9z} (h1:n<=592) (h2:nl<=1152) (h3:∀i,i<n->L i<=600) (h4:∀i,i<n->L i=L 0) (h5:Qnv n nl F T):Qb2 n nl L F T=0:=by
 rw[Qb2,if_neg,if_pos]
 · simp only[Qj4,Bool.and_eq_true,decide_eq_true_eq]
   exact ⟨h4,h5⟩
 · simp only[Q70,Bool.or_eq_true,decide_eq_true_eq,not_or]
   exact ⟨⟨by omega,by omega⟩,fun ⟨i,hi,h⟩=>by have:=h3 i hi;omega⟩
def Qfh (X:B9z):Nat->Nat
 | 0=>0
 | n+1=>Qfh X n+if X n=true then 1 else 0
theorem Q6v (X:B9z) (n:Nat):Qfh X n<=n:=by
 induction n with
 | zero=>exact Nat.le_refl _
 | succ n ih=>rw[Qfh];split<;>omega
theorem Q0f {X Y:B9z} {n:Nat} (h:∀j,j<n->X j=true->Y j=true):Qfh X n<=Qfh Y n:=by
 induction n with
 | zero=>exact Nat.le_refl _
 | succ n ih=>
   have:=ih fun j hj=>h j o9
   have h':=h n o9
   rw[Qfh,Qfh]
   by_cases hx:X n=true
   · rw[if_pos hx,if_pos (h' hx)];omega
   · rw[if_neg hx];omega
theorem Qds {X Y:B9z} {n i:Nat} (hi:i<n) (h:X i=false) (h':Y i=true) (ho:∀j,j≠i->Y j=X j):Qfh Y n=Qfh X n+1:=by
 induction n with
 | zero=>omega
 | succ n ih=>
   rw[Qfh,Qfh]
   by_cases e:i=n
   · subst e
     have:Qfh Y i=Qfh X i:=by
      apply Nat.le_antisymm
      · exact Q0f fun j hj hy=>by rw[<-ho j o9];exact hy
      · exact Q0f fun j hj hx=>by rw[ho j o9];exact hx
     rw[this,h,h'];simp
   · rw[ih o9,ho n o9];omega
section
open Go.RowKit
theorem Qij (a:Addr) (n:Nat):(a.add n).block=a.block:=by unfold Addr.add;split<;>rfl
theorem Qju (a:Addr) (i j:Nat):(a.add i).add j=a.add (i+j):=by
 unfold Addr.add
 by_cases hi:i=0<;>by_cases hj:j=0<;>simp[hi,hj,Nat.add_assoc]
def Reads (w:World) (B size:Nat) (A:Option Addr) (n:Nat) (xs:List Value):Prop:=
 xs.length=n * size/\(0<n->∃ad,A=some ad/\ad.block<B/\∀j u,xs[j]? =some u->w.cell? (ad.add j)=some u)
section
variable {w w':World} {B B' size n:Nat} {A:Option Addr} {xs:List Value}
theorem Reads.none_:Reads w B size A 0 []:=⟨by simp,fun h=>absurd h o9⟩
theorem Reads.at_ {k:Nat} (h:Reads w B 1 A n xs) (hk:k<n):∃ad u,A=some ad/\ad.block<B/\xs[k]? =some u/\w.cell? (ad.add k)=some u:=by
 obtain ⟨ad,e,hb,hc⟩:=h.2 o9
 have hl:k<xs.length:=by have:=h.1;omega
 exact ⟨ad,xs[k],e,hb,List.getElem?_eq_getElem hl,hc k _ (List.getElem?_eq_getElem hl)⟩
theorem Reads.keep (h:Reads w B size A n xs) (hk:∀p:Addr,p.block<B->w'.cell? p=w.cell? p):Reads w' B size A n xs:=
 ⟨h.1,fun hn=>by
  obtain ⟨ad,e,hb,hc⟩:=h.2 hn
  exact ⟨ad,e,hb,fun j u hu=>(hk _ (by rw[Qij];exact hb)).trans (hc j u hu)⟩⟩
theorem Reads.below (h:Reads w B size A n xs) (hb:Below B w w'):Reads w' B size A n xs:=h.keep fun _ hp=>hb.cell hp
theorem Reads.alloc (h:Reads w B size A n xs) (hB:B<=w.heap.size) (o:Obj):Reads (w.alloc o) B size A n xs:=h.keep fun p hp=>World.cell?_alloc_lt w o p o9
theorem Reads.cut (h:Reads w B size A n xs) {k cap:Nat} (hk:k<=n) (hc:n<=cap):
 Reads w B size (if cap=k then A else A.map (·.add (k * size))) (n - k) (xs.drop (k * size)):=by
 refine ⟨by rw[List.length_drop,h.1,Nat.sub_mul],fun hn=>?_⟩
 obtain ⟨ad,rfl,hb,hcell⟩:=h.2 o9
 rw[if_neg o9]
 refine ⟨ad.add (k * size),rfl,by rw[Qij];exact hb,fun j u hu=>?_⟩
 rw[Qju]
 exact hcell _ u (by rw[<-hu,List.getElem?_drop])
end
def Blk (w:World) (g:Nat) (t:TypeId) (cs:Array Value):Prop:=w.heap[g]? =some (.cells cs t (0,0))
section
variable {w w':World} {g:Nat} {t:TypeId} {cs:Array Value}
theorem Blk.below {B:Nat} (h:Blk w g t cs) (hb:Below B w w') (hg:g<B):Blk w' g t cs:=(hb.block g hg).trans h
theorem Blk.ne_ {g':Nat} {t':TypeId} {cs':Array Value} (h:Blk w g t cs) (h':Blk w g' t' cs') (hne:t≠t'):g≠g':=by
 rintro rfl
 unfold Blk at h h'
 rw[h] at h'
 injection h' with h'
 injection h' with _ ht
 exact hne ht
theorem Q3u {base:Nat} {e:TypeId} {size n:Nat} {v:Value} {xs:List Value} (h:w.ownsRow base e size v n xs) (hg:Blk w g t cs) (hne:e≠t):v.ownBlock≠some g:=by
 rcases h.2 with ⟨rfl,_⟩|⟨g',cap,cur,rfl,_,hh,_⟩
 · simp[Value.ownBlock]
 · intro he
   have:g'=g:=by simpa [Value.ownBlock] using he
   subst this
   exact Blk.ne_ (t:=e) hh hg hne rfl
end
section
variable {P:Program} (w:World)
theorem Qgj (base:Nat) (t ty e:TypeId) (i:TypeInfo) (size:Nat) (ht:P.underlying t=some (.slice e)) (hi:P.info? e=some i)
 (v:Value) (n:Nat) (xs:List Value) (hown:w.ownsRow base e size v n xs) (c:Nat):(Builtin.append_ #[t,t] ty #[v,.slice none 0 c]).run P w=.ok v w:=by
 rcases hown.2 with ⟨rfl,rfl⟩|⟨g,cap,cur,rfl,_,_,hnc,_⟩
 · simp[Builtin.append_,run_underlying ht,sizeOf,typeInfo,hi,Builtin.lenOf,Builtin.firstCells]
 · simp[Builtin.append_,run_underlying ht,sizeOf,typeInfo,hi,Builtin.lenOf,Builtin.firstCells,hnc,storeCells]
theorem Q3l (base:Nat) (t ty e:TypeId) (i:TypeInfo) (z:Value) (size bytes:Nat) (ht:P.underlying t=some (.slice e)) (hi:P.info? e=some i) (hz:i.zero=some z)
 (hsize:i.size=size) (hby:i.bytes=bytes) (hzs:z.cells.size=size) (hsz:0<size)
 (v:Value) (n:Nat) (xs:List Value) (hown:w.ownsRow base e size v n xs)
 (B:Nat) (A:Option Addr) (m c:Nat) (news:List Value) (hr:Reads w B size A m news) (h1:∀u∈news,u.oneCell'=true)
 (h63:n+m<=maxLen) (hbytes:(n+m) * bytes<=140737488355328) (hbase:base<=w.heap.size):
 ∃v' w',(Builtin.append_ #[t,t] ty #[v,.slice A m c]).run P w=.ok v' w'/\w'.ownsRow base e size v' (n+m) (xs++news)/\w.grownBy w' v.ownBlock/\
  (v'.ownBlock=v.ownBlock\/v'.ownBlock=some w.heap.size):=by
 rcases A with _|ad
 · have hm:m=0:=by
    rcases Nat.eq_zero_or_pos m with h0|h0
    · exact h0
    · obtain ⟨ad,h,_⟩:=hr.2 h0
      cases h
   subst hm
   have hn:news=[]:=List.eq_nil_of_length_eq_zero (by simpa using hr.1)
   subst hn
   exact ⟨v,w,Qgj w base t ty e i size ht hi v n xs hown c,by simpa using hown,World.grownBy.refl w _,.inl rfl⟩
 · have hcells:∀j u,news[j]? =some u->w.cell? (ad.add j)=some u:=by
    intro j u hu
    rcases Nat.eq_zero_or_pos m with h0|h0
    · subst h0
      have hn:news=[]:=List.eq_nil_of_length_eq_zero (by simpa using hr.1)
      subst hn
      simp at hu
    · obtain ⟨ad',h,_,hc⟩:=hr.2 h0
      injection h with h
      subst h
      exact hc j u hu
   obtain ⟨v',w',hrun,h2,h3,_,h5⟩:=run_append_own_at (P:=P) w base t ty e i z size bytes ht hi hz hsize hby hzs hsz v n xs hown ad m c news hr.1 hcells h1 h63 hbytes hbase
   exact ⟨v',w',hrun,h2,h3,h5⟩
theorem Qoi {o:Oper} {a:Act} {K:Act->World->Prop} {Q:E9z} (s x:Operand) (t:TypeId)
 (ho:o.op=.call { callee:=.builtin .append,args:=#[s,x],argTypes:=#[t,t] })
 (base:Nat) (e:TypeId) (i:TypeInfo) (z:Value) (size bytes:Nat) (ht:P.underlying t=some (.slice e)) (hi:P.info? e=some i) (hz:i.zero=some z)
 (hsize:i.size=size) (hby:i.bytes=bytes) (hzs:z.cells.size=size) (hsz:0<size)
 (v:Value) (n:Nat) (xs:List Value) (hs:a.eval s=v) (hown:w.ownsRow base e size v n xs)
 (B:Nat) (A:Option Addr) (m c:Nat) (news:List Value) (hx:a.eval x=.slice A m c) (hr:Reads w B size A m news) (h1:∀u∈news,u.oneCell'=true)
 (h63:n+m<=maxLen) (hbytes:(n+m) * bytes<=140737488355328) (hbase:base<=w.heap.size)
 (h:∀v' w',w'.ownsRow base e size v' (n+m) (xs++news)->w.grownBy w' v.ownBlock->(v'.ownBlock=v.ownBlock\/v'.ownBlock=some w.heap.size)->K (a.put o.dst v') w'):o.wp P a w K Q:=by
 obtain ⟨v',w',hrun,h2,h3,h4⟩:=Q3l (P:=P) w base t o.type e i z size bytes ht hi hz hsize hby hzs hsz v n xs hown B A m c news hr h1 h63 hbytes hbase
 unfold Oper.wp execOp
 simp only[ho,resolve,invoke,builtin,Sem.run_bind,Sem.run_pure,Result.andThen_ok,List.map_toArray,List.map_cons,List.map_nil,hs,hx,hrun]
 exact h v' w' h2 h3 h4
theorem Qsc {ops:Array Oper} {rest:List Oper} {o:Oper} {a:Act} {Q:E9z} (hgd:o.guard=none) (s x:Operand) (t:TypeId)
 (ho:o.op=.call { callee:=.builtin .append,args:=#[s,x],argTypes:=#[t,t] })
 (base:Nat) (e:TypeId) (i:TypeInfo) (z:Value) (size bytes:Nat) (ht:P.underlying t=some (.slice e)) (hi:P.info? e=some i) (hz:i.zero=some z)
 (hsize:i.size=size) (hby:i.bytes=bytes) (hzs:z.cells.size=size) (hsz:0<size)
 (v:Value) (n:Nat) (xs:List Value) (hs:a.eval s=v) (hown:w.ownsRow base e size v n xs)
 (B:Nat) (A:Option Addr) (m c:Nat) (news:List Value) (hx:a.eval x=.slice A m c) (hr:Reads w B size A m news) (h1:∀u∈news,u.oneCell'=true)
 (h63:n+m<=maxLen) (hbytes:(n+m) * bytes<=140737488355328) (hbase:base<=w.heap.size)
 (h:∀v' w',w'.ownsRow base e size v' (n+m) (xs++news)->w.grownBy w' v.ownBlock->(v'.ownBlock=v.ownBlock\/v'.ownBlock=some w.heap.size)->wpList P ops Q rest (a.put o.dst v') w'):wpList P ops Q (o::rest) a w:=
 wpList_plain hgd fun _ hK=>Qoi w s x t ho base e i z size bytes ht hi hz hsize hby hzs hsz v n xs hs hown B A m c news hx hr h1 h63 hbytes hbase fun v' w' h2 h3 h4=>hK _ _ (h v' w' h2 h3 h4)
theorem Qll {ops:Array Oper} {o:Oper} {a:Act} {K:Act->World->Prop} {Q:E9z} {E:Prop} (hgd:o.guard=none) (s x:Operand) (t:TypeId)
 (ho:o.op=.call { callee:=.builtin .append,args:=#[s,x],argTypes:=#[t,t] })
 (base:Nat) (e:TypeId) (i:TypeInfo) (z:Value) (size bytes:Nat) (ht:P.underlying t=some (.slice e)) (hi:P.info? e=some i) (hz:i.zero=some z)
 (hsize:i.size=size) (hby:i.bytes=bytes) (hzs:z.cells.size=size) (hsz:0<size)
 (v:Value) (n:Nat) (xs:List Value) (hs:a.eval s=v) (hown:w.ownsRow base e size v n xs)
 (B:Nat) (A:Option Addr) (m c:Nat) (news:List Value) (hx:a.eval x=.slice A m c) (hr:Reads w B size A m news) (h1:∀u∈news,u.oneCell'=true)
 (h63:n+m<=maxLen) (hbytes:(n+m) * bytes<=140737488355328) (hbase:base<=w.heap.size)
 (h:∀v' w',w'.ownsRow base e size v' (n+m) (xs++news)->w.grownBy w' v.ownBlock->(v'.ownBlock=v.ownBlock\/v'.ownBlock=some w.heap.size)->K (a.put o.dst v') w'):
 if Region.wanted o (yielded ops a.tmps)=true then Oper.wp P o a w K Q else E:=by
 have hw:Region.wanted o (yielded ops a.tmps)=true:=by simp[Region.wanted,hgd]
 rw[if_pos hw]
 exact Qoi w s x t ho base e i z size bytes ht hi hz hsize hby hzs hsz v n xs hs hown B A m c news hx hr h1 h63 hbytes hbase h
end
end
section
open Go.RowKit
def Bits (w:World) (A:Option Addr) (n:Nat) (X:B9z):Prop:=
 0<n->∃b off,A=some ⟨b,off,none⟩/\b<w.heap.size/\∀j,j<n->w.cell? ⟨b,off+j,none⟩=some (.bool (X j))
theorem Bits.below {w w':World} {A:Option Addr} {n:Nat} {X:B9z} {B:Nat} (h:Bits w A n X) (hb:Below B w w') (hB:w.heap.size<=B):Bits w' A n X:=by
 intro hn
 obtain ⟨b,off,rfl,hlt,hc⟩:=h hn
 exact ⟨b,off,rfl,Nat.lt_of_lt_of_le hlt hb.size,fun i hi=>(hb.cell (p:=⟨b,_,none⟩) (by simp;omega)).trans (hc i hi)⟩
theorem Bits.below' {w w':World} {A:Option Addr} {n:Nat} {X:B9z} (h:Bits w A n X) (hb:Below w.heap.size w w'):Bits w' A n X:=h.below hb (Nat.le_refl _)
theorem Bits.later {w:World} {A:Option Addr} {n:Nat} {X:B9z} (h:Bits w A n X) (x:Later w):Bits x.wd A n X:=h.below' x.below
theorem Bits.of_none {w:World} {X:B9z}:Bits w none 0 X:=fun h=>absurd h o9
def Sets (w:World) (A:Option Addr) (n:Nat) (L:N9z) (S:B9y):Prop:=
 0<n->∃b off,A=some ⟨b,off,none⟩/\b<w.heap.size/\∀i,i<n->∃R C,w.cell? ⟨b,off+i,none⟩=some (.slice R (L i) C)/\L i<=maxLen/\Bits w R (L i) (S i)
theorem Sets.below {w w':World} {A:Option Addr} {n:Nat} {L:N9z} {S:B9y} {B:Nat} (h:Sets w A n L S) (hb:Below B w w') (hB:w.heap.size<=B):Sets w' A n L S:=by
 intro hn
 obtain ⟨b,off,rfl,hlt,hc⟩:=h hn
 refine ⟨b,off,rfl,Nat.lt_of_lt_of_le hlt hb.size,fun i hi=>?_⟩
 obtain ⟨R,C,h1,h2,h3⟩:=hc i hi
 exact ⟨R,C,(hb.cell (p:=⟨b,_,none⟩) (by simp;omega)).trans h1,h2,h3.below hb hB⟩
theorem Sets.below' {w w':World} {A:Option Addr} {n:Nat} {L:N9z} {S:B9y} (h:Sets w A n L S) (hb:Below w.heap.size w w'):Sets w' A n L S:=h.below hb (Nat.le_refl _)
theorem Sets.later {w:World} {A:Option Addr} {n:Nat} {L:N9z} {S:B9y} (h:Sets w A n L S) (x:Later w):Sets x.wd A n L S:=h.below' x.below
end
section
open Go.RowKit
def bl (n:Nat) (X:B9z):List Value:=(List.range n).map fun j=>.bool (X j)
theorem Qnk (n:Nat) (X:B9z):(bl n X).length=n:=by simp[bl]
theorem Qmk {n:Nat} {X:B9z} {j:Nat} (h:j<n):(bl n X)[j]? =some (.bool (X j)):=by simp only[bl,List.getElem?_map,List.getElem?_range h,Option.map_some]
theorem Q99 {n:Nat} {X:B9z} {j:Nat} {u:Value} (h:(bl n X)[j]? =some u):j<n/\u=.bool (X j):=by
 have hj:j<n:=by
  rcases Nat.lt_or_ge j n with h1|h1
  · exact h1
  · rw[List.getElem?_eq_none (by rw[Qnk];exact h1)] at h;cases h
 rw[Qmk hj] at h
 injection h with h
 exact ⟨hj,h.symm⟩
theorem Qb7 {n:Nat} {X:B9z}:∀u∈bl n X,u.oneCell'=true:=by
 intro u hu
 obtain ⟨j,hj,rfl⟩:=List.mem_map.1 hu
 rfl
theorem Q9r {n:Nat} {X Y:B9z} (h:∀j,j<n->X j=Y j):bl n X=bl n Y:=by
 refine List.map_congr_left fun j hj=>?_
 rw[h j (List.mem_range.1 hj)]
theorem add_plain (b off j:Nat):(⟨b,off,none⟩:Addr).add j=⟨b,off+j,none⟩:=by
 unfold Addr.add
 split
 · rename_i h;simp[h]
 · rfl
theorem Bits.reads {w:World} {A:Option Addr} {n:Nat} {X:B9z} (h:Bits w A n X):Reads w w.heap.size 1 A n (bl n X):=by
 refine ⟨by rw[Qnk];omega,fun hn=>?_⟩
 obtain ⟨b,off,rfl,hlt,hc⟩:=h hn
 refine ⟨_,rfl,hlt,fun j u hu=>?_⟩
 obtain ⟨hj,rfl⟩:=Q99 hu
 rw[add_plain]
 exact hc j hj
theorem Q6e {w:World} {base:Nat} {e:TypeId} {v:Value} {n:Nat} {X:B9z} (h:w.ownsRow base e 1 v n (bl n X)):∃A c,v=.slice A n c/\n<=c/\c<=maxLen/\Bits w A n X:=by
 rcases h.2 with ⟨rfl,h0⟩|⟨g,cap,cur,rfl,hg,hh,hnc,hcm,hsz,htk⟩
 · subst h0
   exact ⟨none,0,rfl,by omega,by simp[maxLen],Bits.of_none⟩
 · refine ⟨_,_,rfl,hnc,hcm,fun hn=>⟨g,0,rfl,(h.lt g rfl).2,fun i hi=>?_⟩⟩
   have hc:=h.cells (g:=g) rfl i _ (Qmk hi)
   rw[add_plain] at hc
   exact hc
theorem Qpr {W:World} {B g:Nat} {u:Value} {e:TypeId} (hg:g=W.heap.size) (hB:g<B):Reads (W.alloc (.cells #[u] e)) B 1 (some ⟨g,0,none⟩) 1 [u]:=by
 subst hg
 refine ⟨rfl,fun _=>⟨_,rfl,hB,fun j x hx=>?_⟩⟩
 match j,hx with
 | 0,hx=>simp at hx;subst hx;rw[add_plain];go_simp
theorem Qso:(Tryz.prog.info? 4).map (fun i=>(i.zero,i.size,i.bytes))=some (some (.bool false),1,1):=by kernel_rfl
end
section
open Go.RowKit
def Cons (w:World) (A:Option Addr) (n:Nat) (F T N Y:I9z):Prop:=
 0<n->∃b off,A=some ⟨b,off,none⟩/\b<w.heap.size/\∀i,i<n->
  w.cell? ⟨b,off+i * 4,none⟩=some (.int .i64 (F i))/\w.cell? ⟨b,off+i * 4+1,none⟩=some (.int .i64 (T i))/\w.cell? ⟨b,off+i * 4+2,none⟩=some (.int .i64 (N i))/\w.cell? ⟨b,off+i * 4+3,none⟩=some (.int .u8 (Y i))
theorem Cons.below {w w':World} {A:Option Addr} {n:Nat} {F T N Y:I9z} {B:Nat} (h:Cons w A n F T N Y) (hb:Below B w w') (hB:w.heap.size<=B):Cons w' A n F T N Y:=by
 intro hn
 obtain ⟨b,off,rfl,hlt,hc⟩:=h hn
 refine ⟨b,off,rfl,Nat.lt_of_lt_of_le hlt hb.size,fun i hi=>?_⟩
 obtain ⟨c1,c2,c3,c4⟩:=hc i hi
 exact ⟨(hb.cell (p:=⟨b,_,none⟩) (by simp;omega)).trans c1,(hb.cell (p:=⟨b,_,none⟩) (by simp;omega)).trans c2,(hb.cell (p:=⟨b,_,none⟩) (by simp;omega)).trans c3,(hb.cell (p:=⟨b,_,none⟩) (by simp;omega)).trans c4⟩
theorem Cons.below' {w w':World} {A:Option Addr} {n:Nat} {F T N Y:I9z} (h:Cons w A n F T N Y) (hb:Below w.heap.size w w'):Cons w' A n F T N Y:=h.below hb (Nat.le_refl _)
theorem Qbv (A A':Option Addr) (n nl c c':Nat) (L:N9z) (S:B9y) (F T N Y:I9z) (w:World) (hn:n<=maxLen) (hl:nl<=maxLen) (hX:Sets w A n L S) (hY:Cons w A' nl F T N Y):
 Calls Tryz.prog 249 #[.slice A n c,.slice A' nl c'] w (Ret w (.int .i64 (Qb2 n nl L F T))):=by
 unfold maxLen at hn hl
 by_cases h1:592<n
 · have H:=Lib.hid (Q1m (L:=L) (F:=F) (T:=T) (nl:=nl) (.inl h1))
   have q1:decide (592<(n:Int))=true:=by simp;omega
   go_enter Tryz.func249,Tryz.ntmps249
   go_wp2
   go_ret
   rw[H.out]
   exact ⟨rfl,(by repeat (first|exact Below.refl _ _|(refine Below.setCell ?_ (by first|omega|(simp;done)|(simp;omega)) _)|(refine Below.alloc ?_ (by first|omega|(simp;done)|(simp;omega)) _)|refine Below.drew ?_))⟩
 have q1:decide (592<(n:Int))=false:=by simp;omega
 by_cases h2:1152<nl
 · have H:=Lib.hid (Q1m (L:=L) (F:=F) (T:=T) (n:=n) (.inr (.inl h2)))
   have q2:decide (1152<(nl:Int))=true:=by simp;omega
   go_enter Tryz.func249,Tryz.ntmps249
   go_wp2
   go_ret
   rw[H.out]
   exact ⟨rfl,(by repeat (first|exact Below.refl _ _|(refine Below.setCell ?_ (by first|omega|(simp;done)|(simp;omega)) _)|(refine Below.alloc ?_ (by first|omega|(simp;done)|(simp;omega)) _)|refine Below.drew ?_))⟩
 have q2:decide (1152<(nl:Int))=false:=by simp;omega
 have H1:n<=592:=by omega
 have H2:nl<=1152:=by omega
 clear h1 h2
 have HX:=Lib.hid hX
 have HY:=Lib.hid hY
 clear hX hY
 go_enter Tryz.func249,Tryz.ntmps249
 go_wp2
 go_loopw [21] (fun v wr=>∃i:Nat,i<=n/\v=.int .i64 i/\(∀j,j<i->L j<=600)/\Below w.heap.size w wr) (fun v _=>n - (intOf v).toNat)
 case atStart=>exact ⟨0,by omega,rfl,fun j hj=>by omega,Below.refl _ _⟩
 case round=>
  obtain ⟨i,hi,rfl,hok,hB⟩:=hrel
  have Hok:=Lib.hid hok
  clear hok
  have hz:=hB.size
  by_cases hlt:i<n
  · have hdi:decide ((i:Int)<n)=true:=by simp;omega
    obtain ⟨b,off,rfl,hb,hc⟩:=HX.out o9
    obtain ⟨R,C,e0,hl0,hX0⟩:=hc i hlt
    have c0:=(hB.cell (p:=⟨b,_,none⟩) hb).trans e0
    clear hc HX e0 hX0
    by_cases h6:600<L i
    · have q3:decide (600<(L i:Int))=true:=by simp;omega
      have H:=Lib.hid (Q1m (L:=L) (F:=F) (T:=T) (n:=n) (nl:=nl) (.inr (.inr ⟨i,hlt,h6⟩)))
      clear h6
      go_wp2
      go_ret
      rw[H.out]
      exact ⟨rfl,hB⟩
    · have q3:decide (600<(L i:Int))=false:=by simp;omega
      have Hs:=Lib.hid (show ∀j,j<i+1->L j<=600 from by
       intro j hj
       rcases Nat.lt_or_eq_of_le (Nat.le_of_lt_succ hj) with h'|rfl
       · exact Hok.out j h'
       · omega)
      clear h6
      go_wp2
      go_roundw
      case rel=>exact ⟨i+1,by omega,by go_num,Hs.out,hB⟩
      case measure=>simp[intOf];omega
  · have:i=n:=by omega
    subst this
    have hdi:decide ((i:Int)<i)=false:=by simp
    clear hlt
    obtain ⟨wo,ho⟩:=x9 (wr:World)
    subst ho
    go_wp2
    go_loopw [31] (fun v wr=>∃k:Nat,k<=i/\v=.int .i64 k/\(∀j,j<k->L j=L 0)/\Below w.heap.size w wr) (fun v _=>i - (intOf v).toNat)
    case atStart=>exact ⟨0,by omega,rfl,fun j hj=>by omega,hB⟩
    case round=>
     obtain ⟨k,hk,rfl,hok,hB⟩:=hrel
     have Hok2:=Lib.hid hok
     clear hok
     have hz:=hB.size
     by_cases hlt:k<i
     · have hdi:decide ((k:Int)<i)=true:=by simp;omega
       have hd0:0<i:=by omega
       obtain ⟨b,off,rfl,hb,hc⟩:=HX.out o9
       obtain ⟨R,C,e0,hl0,hX0⟩:=hc k hlt
       obtain ⟨R1,C1,e1,hl1,hX1⟩:=hc 0 hd0
       have c0:=(hB.cell (p:=⟨b,_,none⟩) hb).trans e0
       have c1:=(hB.cell (p:=⟨b,_,none⟩) hb).trans e1
       simp only[Nat.add_zero] at c1
       clear hc HX e0 hX0 e1 hX1
       by_cases h6:L k=L 0
       · have q3:((L k:Int) !=L 0)=false:=by simp;omega
         have Hs:=Lib.hid (show ∀j,j<k+1->L j=L 0 from by
          intro j hj
          rcases Nat.lt_or_eq_of_le (Nat.le_of_lt_succ hj) with h'|rfl
          · exact Hok2.out j h'
          · exact h6)
         clear h6
         go_wp2
         go_roundw
         case rel=>exact ⟨k+1,by omega,by go_num,Hs.out,hB⟩
         case measure=>simp[intOf];omega
       · have q3:((L k:Int) !=L 0)=true:=by simp;omega
         have H:=Lib.hid (Qrv (L:=L) (F:=F) (T:=T) H1 H2 Hok.out (.inl ⟨k,hlt,h6⟩))
         clear h6
         go_wp2
         go_ret
         rw[H.out]
         exact ⟨rfl,hB⟩
     · have:k=i:=by omega
       subst this
       have hdi:decide ((k:Int)<k)=false:=by simp
       clear hlt HX
       obtain ⟨wo,ho⟩:=x9 (wr:World)
       subst ho
       go_wp2
       go_loopw [45] (fun v wr=>∃m:Nat,m<=nl/\v=.int .i64 m/\(∀j,j<m->0<=F j/\F j<k/\0<=T j/\T j<k)/\Below w.heap.size w wr) (fun v _=>nl - (intOf v).toNat)
       case atStart=>exact ⟨0,by omega,rfl,fun j hj=>by omega,hB⟩
       case round=>
        obtain ⟨m,hm,rfl,hok,hB⟩:=hrel
        have Hok3:=Lib.hid hok
        clear hok
        have hz:=hB.size
        by_cases hlt:m<nl
        · have hdi:decide ((m:Int)<nl)=true:=by simp;omega
          obtain ⟨b,off,rfl,hb,hc⟩:=HY.out o9
          obtain ⟨e0,e1,e2,e3⟩:=hc m hlt
          have c0:=(hB.cell (p:=⟨b,_,none⟩) hb).trans e0
          have c1:=(hB.cell (p:=⟨b,_,none⟩) hb).trans e1
          have c2:=(hB.cell (p:=⟨b,_,none⟩) hb).trans e2
          have c3:=(hB.cell (p:=⟨b,_,none⟩) hb).trans e3
          clear hc HY e0 e1 e2 e3
          obtain ⟨f,hf⟩:=x9 (F m)
          obtain ⟨t,ht⟩:=x9 (T m)
          rw[<-hf] at c0
          rw[<-ht] at c1
          have Hf:=Lib.hid hf
          have Ht:=Lib.hid ht
          clear hf ht
          by_cases h6:0<=f/\f<k/\0<=t/\t<k
          · obtain ⟨h61,h62,h63,h64⟩:=h6
            have Hs:=Lib.hid (show ∀j,j<m+1->0<=F j/\F j<k/\0<=T j/\T j<k from by
             intro j hj
             rcases Nat.lt_or_eq_of_le (Nat.le_of_lt_succ hj) with h'|rfl
             · exact Hok3.out j h'
             · rw[<-Hf.out,<-Ht.out];exact ⟨h61,h62,h63,h64⟩)
            have p1:decide (f<0)=false:=by simp;omega
            have p2:decide (t<0)=false:=by simp;omega
            have p3:decide ((k:Int)<=f)=false:=by simp;omega
            have p4:decide ((k:Int)<=t)=false:=by simp;omega
            clear Hf Ht
            rcases Int.lt_or_le f t with h7|h7
            · have p5:¬t<f:=by omega
              go_wp2
              go_roundw
              case rel=>exact ⟨m+1,by omega,by go_num,Hs.out,hB.alloc o9 _⟩
              case measure=>simp[intOf];omega
            · have p5:¬f<t:=by omega
              go_wp2
              all_goals
               go_roundw
               case rel=>exact ⟨m+1,by omega,by go_num,Hs.out,hB.alloc o9 _⟩
               case measure=>simp[intOf];omega
          · have H:=Lib.hid (Qrv (n:=k) (L:=L) (F:=F) (T:=T) H1 H2 Hok.out (.inr ⟨m,hlt,by rw[<-Hf.out,<-Ht.out];exact h6⟩))
            clear Hf Ht
            have p:decide (min f t<0)=true\/decide (min f t<0)=false/\decide ((k:Int)<=max f t)=true:=by
             by_cases g:min f t<0
             · exact .inl (by simpa using g)
             · exact .inr ⟨by simpa using g,by simp;omega⟩
            rcases Int.lt_trichotomy f t with h7|h7|h7
            · have p5:¬t<f:=by omega
              rw[show min f t=f from by omega,show max f t=t from by omega] at p
              clear h6
              rcases p with p|⟨p,p'⟩
              all_goals
               go_wp2
               go_ret
               rw[H.out]
               exact ⟨rfl,hB.alloc o9 _⟩
            · subst h7
              have p5:¬f<f:=by omega
              rw[show min f f=f from by omega,show max f f=f from by omega] at p
              clear h6
              rcases p with p|⟨p,p'⟩
              all_goals
               go_wp2
               go_ret
               rw[H.out]
               exact ⟨rfl,hB.alloc o9 _⟩
            · have p5:¬f<t:=by omega
              rw[show min f t=t from by omega,show max f t=f from by omega] at p
              clear h6
              rcases p with p|⟨p,p'⟩
              all_goals
               go_wp2
               go_ret
               rw[H.out]
               exact ⟨rfl,hB.alloc o9 _⟩
        · have:m=nl:=by omega
          subst this
          have hdi:decide ((m:Int)<m)=false:=by simp
          have H:=Lib.hid (Qc2 (L:=L) H1 H2 Hok.out Hok2.out Hok3.out)
          clear hlt
          go_wp2
          go_ret
          rw[H.out]
          exact ⟨rfl,hB⟩
end
end Go.Proofs.YtemnfncbgalljaaGreat
