/- Lemmas. No condition. -/
import Derived.Test.YtemnfncbgalljaaGreatG2
namespace Go.Proofs.YtemnfncbgalljaaGreat
open Go.RowKit
set_option linter.all false
def mk (S:B9z):Nat->Nat
 | 0=>0
 | n+1=>mk S n+if S n=true then 2 ^ n else 0
theorem Qj5 (S:B9z):∀n,mk S n<2 ^ n
 | 0=>by simp[mk]
 | n+1=>by have:=Qj5 S n;simp only[mk,Nat.pow_succ];split<;>omega
theorem Qze (S:B9z):∀n l,(mk S n).testBit l=(decide (l<n)&&S l)
 | 0,l=>by simp[mk]
 | n+1,l=>by
   have ih:=Qze S n
   have hlt:=Qj5 S n
   simp only[mk]
   by_cases h:S n=true
   · have e2:=Nat.two_pow_add_eq_or_of_lt hlt 1
     rw[Nat.mul_one] at e2
     rw[if_pos h,Nat.add_comm,e2,Nat.testBit_or,ih,Nat.testBit_two_pow]
     by_cases g:n=l
     · subst g;simp[h]
     · have e:decide (l<n+1)=decide (l<n):=by
        rw[Bool.eq_iff_iff];simp only[decide_eq_true_eq];omega
       rw[e];simp[g]
   · rw[if_neg h,Nat.add_zero,ih]
     by_cases g:n=l
     · subst g;simp[h]
     · have e:decide (l<n+1)=decide (l<n):=by
        rw[Bool.eq_iff_iff];simp only[decide_eq_true_eq];omega
       rw[e]
theorem Q9s {S T:B9z} {n:Nat} (h:∀l,l<n->S l=T l):mk S n=mk T n:=by
 refine Nat.eq_of_testBit_eq fun l=>?_
 rw[Qze,Qze]
 by_cases g:l<n
 · rw[h l g]
 · simp[g]
theorem Q97 {S T:B9z} {n:Nat} (h:mk S n=mk T n) {l:Nat} (hl:l<n):S l=T l:=by
 have:=congrArg (fun x=>x.testBit l) h
 simpa [Qze,hl] using this
theorem Q4x {S:B9z} {n:Nat} (hn:n<=32):mk S n<2 ^ 32:=Nat.lt_of_lt_of_le (Qj5 S n) (Nat.pow_le_pow_right (by decide) hn)
theorem Q2e (a:Nat):BitVec.ofInt 32 (Int.ofNat a)=BitVec.ofNat 32 a:=by simp[Int.ofNat_eq_natCast]
theorem Qjk {a:Nat} (h:a<2 ^ 32):IntKind.u32.wrap (Int.ofNat a)=Int.ofNat a:=by
 show _=(a:Int)
 have e:IntKind.u32.wrap (Int.ofNat a)=(a:Int) % (2 ^ 32:Int):=by
  simp[IntKind.wrap,IntKind.bits,IntKind.signed]
 rw[e];omega
section
variable {ar:A9z} (har:ar=rAr) {a b:Nat}
include har
theorem Qu6 (ha:a<2 ^ 32) (hb:b<2 ^ 32):ar .and .u32 (.ofNat a) (.ofNat b)=.ofNat (a&&&b):=by
 rw[har]
 show IntKind.u32.wrap (Int.ofNat (BitVec.ofInt 32 (Int.ofNat a)&&&BitVec.ofInt 32 (Int.ofNat b)).toNat)=_
 rw[Q2e,Q2e,BitVec.toNat_and,BitVec.toNat_ofNat,BitVec.toNat_ofNat,Nat.mod_eq_of_lt ha,Nat.mod_eq_of_lt hb]
 exact Qjk (Nat.lt_of_le_of_lt Nat.and_le_left ha)
theorem Qd9 (ha:a<2 ^ 32) (hb:b<2 ^ 32):ar .or .u32 (.ofNat a) (.ofNat b)=.ofNat (a|||b):=by
 rw[har]
 show IntKind.u32.wrap (Int.ofNat (BitVec.ofInt 32 (Int.ofNat a)|||BitVec.ofInt 32 (Int.ofNat b)).toNat)=_
 rw[Q2e,Q2e,BitVec.toNat_or,BitVec.toNat_ofNat,BitVec.toNat_ofNat,Nat.mod_eq_of_lt ha,Nat.mod_eq_of_lt hb]
 exact Qjk (Nat.or_lt_two_pow ha hb)
theorem Qkv (ha:a<2 ^ 32) (hb:b<2 ^ 32):∃c:Nat,ar .andNot .u32 (.ofNat a) (.ofNat b)=.ofNat c/\c<2 ^ 32/\∀l,c.testBit l=(a.testBit l&&!b.testBit l):=by
 refine ⟨(BitVec.ofNat 32 a&&& ~~~BitVec.ofNat 32 b).toNat,?_,BitVec.isLt _,fun l=>?_⟩
 · rw[har]
   show IntKind.u32.wrap (Int.ofNat (BitVec.ofInt 32 (Int.ofNat a)&&& ~~~BitVec.ofInt 32 (Int.ofNat b)).toNat)=_
   rw[Q2e,Q2e]
   exact Qjk (BitVec.isLt _)
 · rw[BitVec.testBit_toNat,BitVec.getLsbD_and,BitVec.getLsbD_not,BitVec.getLsbD_ofNat,BitVec.getLsbD_ofNat]
   by_cases g:l<32
   · simp[g]
   · have:a.testBit l=false:=Nat.testBit_lt_two_pow (Nat.lt_of_lt_of_le ha (Nat.pow_le_pow_right (by decide) o9))
     simp[g,this]
theorem Qyz (hb:b<32):ar .shl .u32 1 (.ofNat b)=.ofNat (2 ^ b):=by
 rw[har]
 show IntKind.u32.wrap ((1:Int) * 2 ^ (min (Int.ofNat b).toNat 32))=_
 have e:min (Int.ofNat b).toNat 32=b:=by simp only[Int.ofNat_eq_natCast,Int.toNat_natCast];omega
 rw[e,Int.one_mul,show ((2:Int) ^ b)=Int.ofNat (2 ^ b) from by simp]
 exact Qjk (Nat.pow_lt_pow_right (by decide) hb)
theorem Qv6 (hb:b<=32):ar .shr .u32 (.ofNat a) (.ofNat b)=.ofNat (a / 2 ^ b):=by
 rw[har]
 show Int.fdiv (Int.ofNat a) ((2:Int) ^ (min (Int.ofNat b).toNat 32))=_
 have e:min (Int.ofNat b).toNat 32=b:=by simp only[Int.ofNat_eq_natCast,Int.toNat_natCast];omega
 rw[e,show ((2:Int) ^ b)=Int.ofNat (2 ^ b) from by simp]
 show Int.fdiv (a:Int) ((2 ^ b:Nat):Int)=((a / 2 ^ b:Nat):Int)
 rw[Int.fdiv_eq_ediv_of_nonneg _ (Int.natCast_nonneg _)]
 exact (Int.natCast_ediv a (2 ^ b)).symm
variable {n:Nat} (hn:n<=32) (S T:B9z)
include hn
theorem Q60:ar .or .u32 (.ofNat (mk S n)) (.ofNat (mk T n))=.ofNat (mk (fun l=>S l||T l) n):=by
 rw[Qd9 har (Q4x hn) (Q4x hn)]
 congr 1
 refine Nat.eq_of_testBit_eq fun l=>?_
 rw[Nat.testBit_or,Qze,Qze,Qze]
 cases decide (l<n)<;>simp
theorem Q5x:ar .andNot .u32 (.ofNat (mk S n)) (.ofNat (mk T n))=.ofNat (mk (fun l=>S l&&!T l) n):=by
 obtain ⟨c,h1,h2,h3⟩:=Qkv har (Q4x (S:=S) hn) (Q4x (S:=T) hn)
 rw[h1]
 congr 1
 refine Nat.eq_of_testBit_eq fun l=>?_
 rw[h3,Qze,Qze,Qze]
 cases decide (l<n)<;>simp
end
theorem Qz2 {b n:Nat} (h:b<n):2 ^ b=mk (fun l=>decide (l=b)) n:=by
 refine Nat.eq_of_testBit_eq fun l=>?_
 rw[Qze,Nat.testBit_two_pow]
 by_cases g:b=l
 · subst g;simp[h]
 · simp[g,Ne.symm g]
theorem Q6x {n:Nat}:0=mk (fun _=>false) n:=by
 refine Nat.eq_of_testBit_eq fun l=>?_
 rw[Qze];simp
theorem Qa8 {S:B9z} {n l:Nat}:(mk S n / 2 ^ l) % 2=if decide (l<n)&&S l then 1 else 0:=by
 have:=Qze S n l
 rw[Nat.testBit_eq_decide_div_mod_eq] at this
 by_cases h:mk S n / 2 ^ l % 2=1
 · rw[h];rw[decide_eq_true h] at this;rw[<-this];rfl
 · rw[decide_eq_false h] at this;rw[<-this];simp;omega
section
inductive Cl (Z:Nat->Prop) (R:Nat->Nat->Prop):Nat->Prop where
 | zero {n:Nat}:Z n->Cl Z R n
 | step {m n:Nat}:Cl Z R m->R m n->Cl Z R n
open Classical in
noncomputable def clB (Z:Nat->Prop) (R:Nat->Nat->Prop) (n:Nat):Bool:=decide (Cl Z R n)
theorem Qmb {Z:Nat->Prop} {R:Nat->Nat->Prop} {n:Nat}:clB Z R n=true↔Cl Z R n:=by unfold clB;simp
theorem Qdaa {Z:Nat->Prop} {R:Nat->Nat->Prop} {S:B9z} (hs:∀n,S n=true->Cl Z R n) (hz:∀n,Z n->S n=true) (hc:∀m n,S m=true->R m n->S n=true) (n:Nat):S n=clB Z R n:=by
 have key:Cl Z R n->S n=true:=fun h=>by
  induction h with
  | zero h=>exact hz _ h
  | step _ h ih=>exact hc _ _ ih h
 have h2:=Qmb (Z:=Z) (R:=R) (n:=n)
 cases h:S n<;>cases g:clB Z R n
 · rfl
 · rw[key (h2.1 g)] at h;cases h
 · rw[h2.2 (hs n h)] at g;cases g
 · rfl
theorem Qh7 {Z:Nat->Prop} {R:Nat->Nat->Prop} {S:B9z} {N:Nat} (hZ:∀n,Z n->n<N) (hR:∀m n,R m n->n<N) (hs:∀n,n<N->S n=true->Cl Z R n) (hz:∀n,n<N->Z n->S n=true) (hc:∀m n,m<N->n<N->S m=true->R m n->S n=true) {n:Nat} (hn:n<N):S n=clB Z R n:=by
 have e:=Qdaa (Z:=Z) (R:=R) (S:=fun n=>decide (n<N)&&S n) (fun n h=>by
  simp only[Bool.and_eq_true,decide_eq_true_eq] at h;exact hs n h.1 h.2) (fun n h=>by
  simp only[Bool.and_eq_true,decide_eq_true_eq];exact ⟨hZ n h,hz n (hZ n h) h⟩) (fun m n h r=>by
  simp only[Bool.and_eq_true,decide_eq_true_eq] at h⊢;exact ⟨hR m n r,hc m n h.1 (hR m n r) h.2 r⟩) n
 rw[<-e];simp[hn]
structure FlowG where
 ln:Nat
 N:Nat
 sc:Nat->List Nat
 gS:Nat->Nat->Bool
 uS:Nat->Nat->Bool
 i0:Nat->Bool
namespace FlowG
variable (G:FlowG)
def Z (l n:Nat):Prop:=(n=0/\G.i0 l=false)\/∃m,ReachG G.sc m/\G.gS m l=false/\G.uS m l=true/\n∈G.sc m
def R (l m n:Nat):Prop:=ReachG G.sc m/\G.gS m l=false/\n∈G.sc m
abbrev FS:=(Nat->Nat->Bool)×(Nat->Bool)×List Nat
def cnt (S:B9z):Nat->Nat
 | 0=>0
 | n+1=>cnt S n+if S n=true then 1 else 0
theorem cnt_le (S:B9z):∀n,cnt S n<=n
 | 0=>Nat.le_refl _
 | n+1=>by have:=cnt_le S n;simp only[cnt];split<;>omega
theorem cnt_mono {S T:B9z} (h:∀l,S l=true->T l=true):∀n,cnt S n<=cnt T n
 | 0=>Nat.le_refl _
 | n+1=>by
   have:=cnt_mono h n
   simp only[cnt]
   by_cases g:S n=true
   · rw[if_pos g,if_pos (h n g)];omega
   · rw[if_neg g];omega
theorem cnt_lt {S T:B9z} (h:∀l,S l=true->T l=true) {k:Nat} (h1:S k=false) (h2:T k=true):∀n,k<n->cnt S n<cnt T n
 | n+1,hk=>by
   simp only[cnt]
   by_cases g:k=n
   · subst g
     have:=cnt_mono h k
     rw[h1,h2];simp;omega
   · have:=cnt_lt h h1 h2 n o9
     by_cases g:S n=true
     · rw[if_pos g,if_pos (h n g)];omega
     · rw[if_neg g];omega
def left (O:B9y) (V:B9z):Nat->Nat
 | 0=>0
 | n+1=>left O V n+cnt (O n) G.ln+if V n=true then 0 else 1
structure RelOk (M:B9z) (L:List Nat) (x y:FS):Prop where
 up:∀b,x.2.1 b=true->y.2.1 b=true
 dn:∀n l,x.1 n l=false->y.1 n l=false
 all:∀n∈L,y.2.1 n=true/\∀l,l<G.ln->M l=false->y.1 n l=false
 old:∀b,y.2.1 b=true->x.2.1 b=true\/b∈L
 chg:∀b,y.2.1 b=true->(x.2.1 b=true/\∀l,l<G.ln->y.1 b l=x.1 b l)\/b∈y.2.2
 sub:∀b∈x.2.2,b∈y.2.2
 new:∀b∈y.2.2,b∈x.2.2\/b∈L
 snd:∀n l,l<G.ln->y.1 n l=false->x.1 n l=false\/(n∈L/\M l=false)
 m:(∀n∈L,n<G.N)->left G y.1 y.2.1 G.N+y.2.2.length<=left G x.1 x.2.1 G.N+x.2.2.length
theorem RelOk.nil (M:B9z) (x:FS):RelOk G M [] x x:=⟨fun _ h=>h,fun _ _ h=>h,fun _ h=>by simp at h,fun _ h=>.inl h,fun b hb=>.inl ⟨hb,fun _ _=>rfl⟩,fun _ h=>h,fun _ h=>.inl h,fun _ _ _ h=>.inl h,fun _=>Nat.le_refl _⟩
variable {G}
end FlowG
end
section
theorem Qli {S T:B9z} (h:∀j,S j=true->T j=true):∀m,Q5b T m<=Q5b S m
 | 0=>Nat.le_refl _
 | m+1=>by
   have:=Qli h m
   simp only[Q5b]
   by_cases g:S m=true
   · rw[if_pos g,if_pos (h m g)];omega
   · rw[if_neg g];split<;>omega
structure WyG where
 N:Nat
 p:Nat
 sc:Nat->List Nat
 rg:Nat->Bool
 kl:Nat->Bool
 tw:Nat->Bool
namespace WyG
variable (G:WyG)
def R (n m:Nat):Prop:=G.kl n=false/\m∈G.sc n/\G.rg m=true
noncomputable def inB (m:Nat):Bool:=clB (fun m=>G.R G.p m) G.R m
noncomputable def usB (m:Nat):Bool:=clB (fun m=>∃n,G.inB n=true/\G.tw n=true/\G.R n m) G.R m
variable {G}
theorem in0 {m:Nat} (h:G.R G.p m):G.inB m=true:=Qmb.2 (.zero h)
theorem in1 {n m:Nat} (h:G.inB n=true) (g:G.R n m):G.inB m=true:=Qmb.2 (.step (Qmb.1 h) g)
theorem us0 {n m:Nat} (h:G.inB n=true) (t:G.tw n=true) (g:G.R n m):G.usB m=true:=Qmb.2 (.zero ⟨n,h,t,g⟩)
theorem us1 {n m:Nat} (h:G.usB n=true) (g:G.R n m):G.usB m=true:=Qmb.2 (.step (Qmb.1 h) g)
theorem us_in {m:Nat} (h:G.usB m=true):G.inB m=true:=by
 replace h:=Qmb.1 h
 induction h with
 | zero h=>obtain ⟨n,h1,_,h3⟩:=h;exact in1 h1 h3
 | step _ g ih=>exact in1 ih g
variable (G)
structure Snd (I U:B9z):Prop where
 i:∀m,I m=true->G.inB m=true
 u:∀m,U m=true->G.usB m=true
def Dn (I U:B9z) (n:Nat):Prop:=n=G.p\/I n=true->∀m,G.R n m->I m=true/\((U n=true\/(I n=true/\G.tw n=true))->U m=true)
variable {G}
theorem fin {I U:B9z} (h:Snd G I U) (hd:∀n,Dn G I U n) (m:Nat):I m=G.inB m/\U m=G.usB m:=by
 have k1:∀m,G.inB m=true->I m=true:=fun m h=>by
  replace h:=Qmb.1 h
  induction h with
  | zero h=>exact (hd _ (.inl rfl) _ h).1
  | step _ g ih=>exact (hd _ (.inr ih) _ g).1
 have k2:∀m,G.usB m=true->U m=true:=fun m h2=>by
  replace h2:=Qmb.1 h2
  induction h2 with
  | zero g=>
    obtain ⟨n,g1,g2,g3⟩:=g
    exact (hd _ (.inr (k1 _ g1)) _ g3).2 (.inr ⟨k1 _ g1,g2⟩)
  | @step a b h g ih=>
    exact (hd _ (.inr (k1 _ (us_in (Qmb.2 h)))) _ g).2 (.inl ih)
 refine ⟨?_,?_⟩
 · rw[Bool.eq_iff_iff];exact ⟨h.i m,k1 m⟩
 · rw[Bool.eq_iff_iff];exact ⟨h.u m,k2 m⟩
variable (G)
structure WI (i n:Nat) (a:N9z) (u I U:B9z):Prop where
 pos:0<n
 le:i<=n
 h0:a 0=G.p/\u 0=false
 sub:∀m,U m=true->I m=true
 sd:Snd G I U
 w:∀j,j<n->a j<G.N/\(0<j->I (a j)=true/\(u j=true->U (a j)=true))
 cI:∀m,I m=true->∃j,0<j/\j<n/\a j=m
 cU:∀m,U m=true->∃j,0<j/\j<n/\a j=m/\u j=true
 cl:∀j,j<i->∀m,G.R (a j) m->I m=true/\(u j=true\/(0<j/\G.tw (a j)=true)->U m=true)
 len:n+Q5b I G.N+Q5b U G.N<=2 * G.N+1
structure WJ (i k n:Nat) (a:N9z) (u I U:B9z):Prop extends WI G i n a u I U where
 lt:i<n
 nk:G.kl (a i)=false
 pt:∀t,t<k->G.rg ((G.sc (a i)).getD t 0)=true->I ((G.sc (a i)).getD t 0)=true/\(u i=true\/(0<i/\G.tw (a i)=true)->U ((G.sc (a i)).getD t 0)=true)
variable {G}
theorem WI.first (hp:G.p<G.N):WI G 0 1 (fun _=>G.p) (fun _=>false) (fun _=>false) (fun _=>false):=by
 refine ⟨by omega,by omega,⟨rfl,rfl⟩,fun _ h=>(by cases h),⟨fun _ h=>(by cases h),fun _ h=>(by cases h)⟩,fun j hj=>⟨hp,fun h=>by omega⟩,fun _ h=>(by cases h),fun _ h=>(by cases h),fun j hj=>by omega,?_⟩
 have:=Qfu (fun _=>false) G.N
 omega
theorem WI.skip {i n:Nat} {a:N9z} {u I U:B9z} (h:WI G i n a u I U) (hi:i<n) (hk:G.kl (a i)=true):WI G (i+1) n a u I U:=by
 refine ⟨h.pos,hi,h.h0,h.sub,h.sd,h.w,h.cI,h.cU,fun j hj m hm=>?_,h.len⟩
 rcases Nat.lt_or_eq_of_le (Nat.le_of_lt_succ hj) with g|rfl
 · exact h.cl j g m hm
 · rw[hm.1] at hk;cases hk
theorem WI.enter {i n:Nat} {a:N9z} {u I U:B9z} (h:WI G i n a u I U) (hi:i<n) (hk:G.kl (a i)=false):WJ G i 0 n a u I U:=⟨h,hi,hk,fun t ht=>by omega⟩
theorem WJ.next {i k n:Nat} {a:N9z} {u I U:B9z} (h:WJ G i k n a u I U) (hk:(G.sc (a i)).length<=k):WI G (i+1) n a u I U:=by
 refine ⟨h.pos,h.lt,h.h0,h.sub,h.sd,h.w,h.cI,h.cU,fun j hj m hm=>?_,h.len⟩
 rcases Nat.lt_or_eq_of_le (Nat.le_of_lt_succ hj) with g|rfl
 · exact h.cl j g m hm
 · obtain ⟨_,h2,h3⟩:=hm
   obtain ⟨t,ht,rfl⟩:=List.mem_iff_getElem.1 h2
   have:=h.pt t o9
   rw[List.getD,List.getElem?_eq_getElem ht] at this
   exact this h3
theorem WJ.same {i k n:Nat} {a:N9z} {u I U:B9z} (h:WJ G i k n a u I U) (hs:G.rg ((G.sc (a i)).getD k 0)=true->I ((G.sc (a i)).getD k 0)=true/\(u i=true\/(0<i/\G.tw (a i)=true)->U ((G.sc (a i)).getD k 0)=true)):WJ G i (k+1) n a u I U:=
 ⟨h.toWI,h.lt,h.nk,fun t ht=>by
  rcases Nat.lt_or_eq_of_le (Nat.le_of_lt_succ ht) with g|rfl
  · exact h.pt t g
  · exact hs⟩
theorem turn_up {S:B9z} {m j:Nat} (h:S j=true):turn S m true j=true:=by
 unfold turn;split
 · rfl
 · exact h
theorem turn_at {α:Type} {S:Nat->α} {m:Nat} {x:α}:turn S m x m=x:=by unfold turn;rw[if_pos rfl]
theorem turn_ne {α:Type} {S:Nat->α} {m j:Nat} {x:α} (h:j≠m):turn S m x j=S j:=by unfold turn;rw[if_neg h]
theorem turn_old {S:B9z} {m j:Nat} (h:turn S m true j=true):j=m\/S j=true:=by
 unfold turn at h;split at h
 · rename_i e;exact .inl e
 · exact .inr h
theorem WJ.push {i k n:Nat} {a:N9z} {u I U U':B9z} (h:WJ G i k n a u I U) (hk:k<(G.sc (a i)).length) (hN:∀m∈G.sc (a i),m<G.N) (hr:G.rg ((G.sc (a i)).getD k 0)=true) (x:Bool) (hx:x=true↔u i=true\/(0<i/\G.tw (a i)=true))
 (hU:(x=true/\U ((G.sc (a i)).getD k 0)=false/\U'=turn U ((G.sc (a i)).getD k 0) true)\/(x=false/\I ((G.sc (a i)).getD k 0)=false/\U'=U)):
 WJ G i (k+1) (n+1) (turn a n ((G.sc (a i)).getD k 0)) (turn u n x) (turn I ((G.sc (a i)).getD k 0) true) U':=by
 obtain ⟨m,hm⟩:=x9 ((G.sc (a i)).getD k 0)
 have hmem:m∈G.sc (a i):=by rw[hm,List.getD,List.getElem?_eq_getElem hk];exact List.getElem_mem hk
 rw[<-hm] at hr hU⊢
 have hlt:=h.lt
 have hpos:=h.pos
 have ea:∀j,j<n->turn a n m j=a j:=fun j hj=>turn_ne o9
 have eu':∀j,j<n->turn u n x j=u j:=fun j hj=>turn_ne o9
 have ea0:turn a n m n=m:=turn_at
 have eu0:turn u n x n=x:=turn_at
 have hR:G.R (a i) m:=⟨h.nk,hmem,hr⟩
 have ei:turn a n m i=a i:=turn_ne o9
 have eu:turn u n x i=u i:=turn_ne o9
 have uU:∀j,U j=true->U' j=true:=fun j hj=>by
  rcases hU with ⟨_,_,rfl⟩|⟨_,_,rfl⟩
  · exact turn_up hj
  · exact hj
 have uO:∀j,U' j=true->(j=m/\x=true)\/U j=true:=fun j hj=>by
  rcases hU with ⟨hx,_,rfl⟩|⟨_,_,rfl⟩
  · rcases turn_old hj with g|g
    · exact .inl ⟨g,hx⟩
    · exact .inr g
  · exact .inr hj
 have uM:x=true->U' m=true:=fun g=>by
  rcases hU with ⟨_,_,rfl⟩|⟨hx,_,_⟩
  · exact turn_at
  · rw[g] at hx;cases hx
 have sI:G.inB m=true:=by
  by_cases g:0<i
  · exact in1 (h.sd.i _ ((h.w i hlt).2 g).1) hR
  · have e:i=0:=by omega
    subst e
    have:=h.h0.1
    rw[this] at hR
    exact in0 hR
 have sU:x=true->G.usB m=true:=fun g=>by
  rcases hx.1 g with g|⟨g,g2⟩
  · have gi:0<i:=by
     rcases Nat.eq_zero_or_pos i with e|e
     · subst e;rw[h.h0.2] at g;cases g
     · exact e
    exact us1 (h.sd.u _ (((h.w i hlt).2 gi).2 g)) hR
  · exact us0 (h.sd.i _ ((h.w i hlt).2 g).1) g2 hR
 have hle:=h.len
 have hu1:Q5b (turn I m true) G.N<=Q5b I G.N:=Qli (fun j hj=>turn_up hj) G.N
 have hu2:Q5b U' G.N<=Q5b U G.N:=Qli uU G.N
 have hu3:Q5b (turn I m true) G.N+Q5b U' G.N+1<=Q5b I G.N+Q5b U G.N:=by
  have hmN:=hN m hmem
  rcases hU with ⟨_,hU0,rfl⟩|⟨_,hI0,rfl⟩
  · have:Q5b (turn U m true) G.N+(if m<G.N then 1 else 0)=Q5b U G.N:=Qmi hU0 G.N
    rw[if_pos hmN] at this;omega
  · have:Q5b (turn I m true) G.N+(if m<G.N then 1 else 0)=Q5b I G.N:=Qmi hI0 G.N
    rw[if_pos hmN] at this;omega
 refine ⟨⟨by omega,by omega,⟨?_,?_⟩,fun j hj=>?_,⟨fun j hj=>?_,fun j hj=>?_⟩,fun j hj=>?_,fun j hj=>?_,fun j hj=>?_,fun j hj q hq=>?_,by omega⟩,by omega,by rw[ei];exact h.nk,fun t ht=>?_⟩
 · rw[ea 0 o9];exact h.h0.1
 · rw[eu' 0 o9];exact h.h0.2
 · rcases uO j hj with ⟨rfl,_⟩|g
   · exact turn_at
   · exact turn_up (h.sub j g)
 · rcases turn_old hj with rfl|g
   · exact sI
   · exact h.sd.i j g
 · rcases uO j hj with ⟨rfl,g⟩|g
   · exact sU g
   · exact h.sd.u j g
 · by_cases e:j=n
   · subst e
     rw[ea0,eu0]
     exact ⟨hN m hmem,fun _=>⟨turn_at,uM⟩⟩
   · rw[ea j o9,eu' j o9]
     have:=h.w j o9
     exact ⟨this.1,fun g=>⟨turn_up (this.2 g).1,fun g2=>uU _ ((this.2 g).2 g2)⟩⟩
 · rcases turn_old hj with rfl|g
   · exact ⟨n,by omega,by omega,turn_at⟩
   · obtain ⟨t,t1,t2,t3⟩:=h.cI j g
     exact ⟨t,t1,by omega,by rw[ea t t2];exact t3⟩
 · rcases uO j hj with ⟨rfl,g⟩|g
   · exact ⟨n,by omega,by omega,ea0,by rw[eu0];exact g⟩
   · obtain ⟨t,t1,t2,t3,t4⟩:=h.cU j g
     exact ⟨t,t1,by omega,by rw[ea t t2];exact t3,by rw[eu' t t2];exact t4⟩
 · rw[ea j o9] at hq⊢
   rw[eu' j o9]
   have:=h.cl j hj q hq
   exact ⟨turn_up this.1,fun g=>uU _ (this.2 g)⟩
 · rw[ei,eu]
   rcases Nat.lt_or_eq_of_le (Nat.le_of_lt_succ ht) with g|rfl
   · intro g2
     have:=h.pt t g g2
     exact ⟨turn_up this.1,fun g=>uU _ (this.2 g)⟩
   · rw[<-hm]
     exact fun _=>⟨turn_at,fun g=>uM (hx.2 g)⟩
theorem WI.fin {i n:Nat} {a:N9z} {u I U:B9z} (h:WI G i n a u I U) (hi:n<=i) (m:Nat):I m=G.inB m/\U m=G.usB m:=by
 have hp:=h.pos
 refine WyG.fin h.sd (fun q hq r hr=>?_) m
 have key:I q=true->I r=true/\(U q=true\/(I q=true/\G.tw q=true)->U r=true):=fun g=>by
  obtain ⟨j,j1,j2,j3⟩:=h.cI q g
  subst j3
  have h1:=h.cl j o9 r hr
  refine ⟨h1.1,fun g2=>?_⟩
  rcases g2 with g2|g2
  · obtain ⟨t,t1,t2,t3,t4⟩:=h.cU _ g2
    exact (h.cl t o9 r (by rw[t3];exact hr)).2 (.inl t4)
  · exact h1.2 (.inr ⟨j1,g2.2⟩)
 rcases hq with rfl|hq
 · by_cases g:I G.p=true
   · exact key g
   · have h1:=h.cl 0 o9 r (by rw[h.h0.1];exact hr)
     exact ⟨h1.1,fun g2=>absurd (g2.elim (h.sub _) (fun x=>x.1)) g⟩
 · exact key hq
abbrev XS:=Bool×(Nat->Bool)×(Nat->Bool)
variable (G)
def xput (was:Bool) (x:XS) (m:Nat):XS:=if G.rg m=true then (x.1||(!x.2.1 m||(was&&!x.2.2 m)),turn x.2.1 m true,turn x.2.2 m (x.2.2 m||was)) else x
def xpart (was:Bool) (x:XS) (n k:Nat):XS:=((G.sc n).take k).foldl (xput G was) x
def xwas (x:XS) (n:Nat):Bool:=x.2.2 n||(x.2.1 n&&G.tw n)
def xnode (x:XS) (n:Nat):XS:=if (decide (n=G.p)||x.2.1 n)=true/\G.kl n=false then (G.sc n).foldl (xput G (xwas G x n)) x else x
def xsw (I U:B9z):Nat->XS
 | 0=>(false,I,U)
 | n+1=>xnode G (xsw I U n) n
theorem xpart_zero (was:Bool) (x:XS) (n:Nat):xpart G was x n 0=x:=by simp[xpart]
theorem xpart_succ (was:Bool) {x:XS} {n k:Nat} (hk:k<(G.sc n).length):xpart G was x n (k+1)=xput G was (xpart G was x n k) ((G.sc n).getD k 0):=by
 unfold xpart
 rw[List.take_add_one,List.foldl_append]
 simp only[List.getElem?_eq_getElem hk,Option.toList_some,List.foldl_cons,List.foldl_nil,List.getD,Option.getD_some]
theorem xpart_end (was:Bool) (x:XS) (n:Nat):xpart G was x n (G.sc n).length=(G.sc n).foldl (xput G was) x:=by simp[xpart]
structure XOk' (was:Bool) (L:List Nat) (x y:XS):Prop where
 uI:∀j,x.2.1 j=true->y.2.1 j=true
 uU:∀j,x.2.2 j=true->y.2.2 j=true
 all:∀q∈L,G.rg q=true->y.2.1 q=true/\(was=true->y.2.2 q=true)
 oI:∀j,y.2.1 j=true->x.2.1 j=true\/(j∈L/\G.rg j=true)
 oU:∀j,y.2.2 j=true->x.2.2 j=true\/(j∈L/\G.rg j=true/\was=true)
 mo:x.1=true->y.1=true
 no:y.1=false->∀j,y.2.1 j=x.2.1 j/\y.2.2 j=x.2.2 j
 le:Q5b y.2.1 G.N+Q5b y.2.2 G.N<=Q5b x.2.1 G.N+Q5b x.2.2 G.N
 lt:(∀q∈L,q<G.N)->y.1=true->x.1=true\/Q5b y.2.1 G.N+Q5b y.2.2 G.N<Q5b x.2.1 G.N+Q5b x.2.2 G.N
variable {G}
theorem XOk'.nil (was:Bool) (x:XS):XOk' G was [] x x:=⟨fun _ h=>h,fun _ h=>h,fun _ h=>by simp at h,fun _ h=>.inl h,fun _ h=>.inl h,fun h=>h,fun _ _=>⟨rfl,rfl⟩,Nat.le_refl _,fun _ h=>.inl h⟩
theorem XOk'.one (was:Bool) (x:XS) (q:Nat):XOk' G was [q] x (xput G was x q):=by
 by_cases g:G.rg q=true
 · have e:xput G was x q=(x.1||(!x.2.1 q||(was&&!x.2.2 q)),turn x.2.1 q true,turn x.2.2 q (x.2.2 q||was)):=by unfold xput;rw[if_pos g]
   rw[e]
   have uI:∀j,x.2.1 j=true->turn x.2.1 q true j=true:=fun j h=>turn_up h
   have uU:∀j,x.2.2 j=true->turn x.2.2 q (x.2.2 q||was) j=true:=fun j h=>by
    by_cases e:j=q
    · subst e;rw[turn_at,h];rfl
    · rw[turn_ne e];exact h
   have l1:=Qli uI G.N
   have l2:=Qli uU G.N
   refine ⟨uI,uU,fun j hj _=>?_,fun j h=>?_,fun j h=>?_,fun h=>by simp[h],fun h j=>?_,by simpa using Nat.add_le_add l1 l2,fun hN h=>?_⟩
   · obtain rfl:=List.mem_singleton.1 hj
     refine ⟨turn_at,fun h=>?_⟩
     show turn x.2.2 j (x.2.2 j||was) j=true
     rw[turn_at,h,Bool.or_true]
   · rcases turn_old h with e|e
     · subst e;exact .inr ⟨by simp,g⟩
     · exact .inl e
   · by_cases e:j=q
     · subst e
       have h:turn x.2.2 j (x.2.2 j||was) j=true:=h
       rw[turn_at,Bool.or_eq_true] at h
       rcases h with h|h
       · exact .inl h
       · exact .inr ⟨by simp,g,h⟩
     · have h:turn x.2.2 q (x.2.2 q||was) j=true:=h
       rw[turn_ne e] at h;exact .inl h
   · simp only[Bool.or_eq_false_iff,Bool.not_eq_false',Bool.and_eq_false_iff] at h
     obtain ⟨_,h1,h2⟩:=h
     by_cases e:j=q
     · subst e
       refine ⟨?_,?_⟩
       · show turn x.2.1 j true j=_
         rw[turn_at,h1]
       · show turn x.2.2 j (x.2.2 j||was) j=_
         rw[turn_at]
         rcases h2 with h2|h2
         · rw[h2,Bool.or_false]
         · rw[h2];rfl
     · exact ⟨turn_ne e,turn_ne e⟩
   · simp only[Bool.or_eq_true,Bool.not_eq_true',Bool.and_eq_true] at h
     have hq:=hN q (by simp)
     rcases h with h|h|⟨h0,h⟩
     · exact .inl h
     · have:Q5b (turn x.2.1 q true) G.N+(if q<G.N then 1 else 0)=Q5b x.2.1 G.N:=Qmi h G.N
       rw[if_pos hq] at this
       refine .inr ?_
       simp only;omega
     · have:Q5b (turn x.2.2 q true) G.N+(if q<G.N then 1 else 0)=Q5b x.2.2 G.N:=Qmi h G.N
       rw[if_pos hq] at this
       refine .inr ?_
       have e:turn x.2.2 q (x.2.2 q||was)=turn x.2.2 q true:=by rw[h0,Bool.or_true]
       simp only[e];omega
 · have e:xput G was x q=x:=by unfold xput;rw[if_neg g]
   rw[e]
   exact ⟨fun _ h=>h,fun _ h=>h,fun j hj h=>by obtain rfl:=List.mem_singleton.1 hj;exact absurd h g,fun _ h=>.inl h,fun _ h=>.inl h,fun h=>h,fun _ _=>⟨rfl,rfl⟩,Nat.le_refl _,fun _ h=>.inl h⟩
theorem XOk'.trans {was:Bool} {L L':List Nat} {x y z:XS} (h1:XOk' G was L x y) (h2:XOk' G was L' y z):XOk' G was (L++L') x z:=by
 have hy:z.1=false->y.1=false:=fun h=>by
  cases hy:y.1
  · rfl
  · rw[h2.mo hy] at h;cases h
 refine ⟨fun j h=>h2.uI j (h1.uI j h),fun j h=>h2.uU j (h1.uU j h),fun q hq g=>?_,fun j h=>?_,fun j h=>?_,fun h=>h2.mo (h1.mo h),fun h j=>?_,Nat.le_trans h2.le h1.le,fun hN h=>?_⟩
 · rcases List.mem_append.1 hq with hq|hq
   · have:=h1.all q hq g
     exact ⟨h2.uI q this.1,fun h=>h2.uU q (this.2 h)⟩
   · exact h2.all q hq g
 · rcases h2.oI j h with h|h
   · rcases h1.oI j h with h|h
     · exact .inl h
     · exact .inr ⟨List.mem_append_left _ h.1,h.2⟩
   · exact .inr ⟨List.mem_append_right _ h.1,h.2⟩
 · rcases h2.oU j h with h|h
   · rcases h1.oU j h with h|h
     · exact .inl h
     · exact .inr ⟨List.mem_append_left _ h.1,h.2⟩
   · exact .inr ⟨List.mem_append_right _ h.1,h.2⟩
 · have g2:=h2.no h j
   have g1:=h1.no (hy h) j
   exact ⟨g2.1.trans g1.1,g2.2.trans g1.2⟩
 · have l1:=h1.le
   have l2:=h2.le
   rcases h2.lt (fun q hq=>hN q (List.mem_append_right _ hq)) h with h|h
   · rcases h1.lt (fun q hq=>hN q (List.mem_append_left _ hq)) h with h|h
     · exact .inl h
     · exact .inr o9
   · exact .inr o9
theorem XOk'.all_ (was:Bool):∀(L:List Nat) (x:XS),XOk' G was L x (L.foldl (xput G was) x)
 | [],x=>.nil was x
 | q::L,x=>by
   rw[List.foldl_cons,show q::L=[q]++L from rfl]
   exact (XOk'.one was x q).trans (XOk'.all_ was L _)
structure XSw (I U:B9z) (n:Nat):Prop where
 sd:Snd G (xsw G I U n).2.1 (xsw G I U n).2.2
 sub:∀j,(xsw G I U n).2.2 j=true->(xsw G I U n).2.1 j=true
 no:(xsw G I U n).1=false->(∀j,(xsw G I U n).2.1 j=I j/\(xsw G I U n).2.2 j=U j)/\∀m,m<n->Dn G I U m
 le:Q5b (xsw G I U n).2.1 G.N+Q5b (xsw G I U n).2.2 G.N<=Q5b I G.N+Q5b U G.N
 lt:(xsw G I U n).1=true->Q5b (xsw G I U n).2.1 G.N+Q5b (xsw G I U n).2.2 G.N<Q5b I G.N+Q5b U G.N
theorem xsw_ok (hl:∀m,m<G.N->∀q∈G.sc m,q<G.N) {I U:B9z} (h:Snd G I U) (hs:∀j,U j=true->I j=true):∀n,n<=G.N->XSw (G:=G) I U n
 | 0,_=>⟨h,hs,fun _=>⟨fun _=>⟨rfl,rfl⟩,fun m hm=>by omega⟩,Nat.le_refl _,fun h=>by simp[xsw] at h⟩
 | n+1,hn=>by
   have ih:=xsw_ok hl h hs n o9
   have e:xsw G I U (n+1)=xnode G (xsw G I U n) n:=rfl
   by_cases g:(decide (n=G.p)||(xsw G I U n).2.1 n)=true/\G.kl n=false
   · have e2:xsw G I U (n+1)=(G.sc n).foldl (xput G (xwas G (xsw G I U n) n)) (xsw G I U n):=by rw[e];unfold xnode;rw[if_pos g]
     have hp:=XOk'.all_ (G:=G) (xwas G (xsw G I U n) n) (G.sc n) (xsw G I U n)
     rw[<-e2] at hp
     have l1:=hp.le
     have l2:=ih.le
     have hR:∀q,q∈G.sc n->G.rg q=true->G.R n q:=fun q h1 h2=>⟨g.2,h1,h2⟩
     have hI:∀q,G.R n q->G.inB q=true:=fun q hq=>by
      rcases Bool.or_eq_true _ _▸g.1 with g1|g1
      · rw[of_decide_eq_true g1] at hq;exact in0 hq
      · exact in1 (ih.sd.i _ g1) hq
     have hU:xwas G (xsw G I U n) n=true->∀q,G.R n q->G.usB q=true:=fun hw q hq=>by
      simp only[xwas,Bool.or_eq_true,Bool.and_eq_true] at hw
      rcases hw with hw|hw
      · exact us1 (ih.sd.u _ hw) hq
      · exact us0 (ih.sd.i _ hw.1) hw.2 hq
     refine ⟨⟨fun j hj=>?_,fun j hj=>?_⟩,fun j hj=>?_,fun h2=>?_,by omega,fun h2=>?_⟩
     · rcases hp.oI j hj with g1|g1
       · exact ih.sd.i j g1
       · exact hI j (hR j g1.1 g1.2)
     · rcases hp.oU j hj with g1|g1
       · exact ih.sd.u j g1
       · exact hU g1.2.2 j (hR j g1.1 g1.2.1)
     · rcases hp.oU j hj with g1|g1
       · exact hp.uI j (ih.sub j g1)
       · exact (hp.all j g1.1 g1.2.1).1
     · have h3:(xsw G I U n).1=false:=by
        cases hy:(xsw G I U n).1
        · rfl
        · rw[hp.mo hy] at h2;cases h2
       obtain ⟨g1,g2⟩:=ih.no h3
       have g3:=hp.no h2
       refine ⟨fun j=>⟨(g3 j).1.trans (g1 j).1,(g3 j).2.trans (g1 j).2⟩,fun m hm hc q hq=>?_⟩
       rcases Nat.lt_or_eq_of_le (Nat.le_of_lt_succ hm) with hm|rfl
       · exact g2 m hm hc q hq
       · have:=hp.all q hq.2.1 hq.2.2
         rw[(g3 q).1,(g1 q).1,(g3 q).2,(g1 q).2] at this
         refine ⟨this.1,fun hw=>this.2 ?_⟩
         simp only[xwas,Bool.or_eq_true,Bool.and_eq_true,(g1 m).1,(g1 m).2]
         exact hw
     · rcases hp.lt (hl n o9) h2 with g1|g1
       · have:=ih.lt g1;omega
       · omega
   · have e2:xsw G I U (n+1)=xsw G I U n:=by rw[e];unfold xnode;rw[if_neg g]
     refine ⟨by rw[e2];exact ih.sd,by rw[e2];exact ih.sub,fun h2=>?_,by rw[e2];exact ih.le,fun h2=>by rw[e2] at h2⊢;exact ih.lt h2⟩
     rw[e2] at h2⊢
     obtain ⟨g1,g2⟩:=ih.no h2
     refine ⟨g1,fun m hm hc q hq=>?_⟩
     rcases Nat.lt_or_eq_of_le (Nat.le_of_lt_succ hm) with hm|rfl
     · exact g2 m hm hc q hq
     · refine absurd ⟨?_,hq.1⟩ g
       rw[Bool.or_eq_true]
       rcases hc with hc|hc
       · exact .inl (decide_eq_true hc)
       · exact .inr ((g1 m).1.trans hc)
structure XI (b:Bool) (I U:B9z):Prop where
 sd:Snd G I U
 sub:∀j,U j=true->I j=true
 dn:b=false->∀m,m<G.N->Dn G I U m
theorem XI.first:XI (G:=G) true (fun _=>false) (fun _=>false):=⟨⟨fun _ h=>(by cases h),fun _ h=>(by cases h)⟩,fun _ h=>(by cases h),fun h=>(by cases h)⟩
theorem XI.round (hl:∀m,m<G.N->∀q∈G.sc m,q<G.N) {b:Bool} {I U:B9z} (h:XI (G:=G) b I U):XI (G:=G) (xsw G I U G.N).1 (xsw G I U G.N).2.1 (xsw G I U G.N).2.2:=by
 have hs:=xsw_ok hl h.sd h.sub G.N (Nat.le_refl _)
 refine ⟨hs.sd,hs.sub,fun hb m hm hc q hq=>?_⟩
 obtain ⟨g1,g2⟩:=hs.no hb
 rw[(g1 q).1,(g1 q).2,(g1 m).1,(g1 m).2]
 rw[(g1 m).1] at hc
 exact g2 m hm hc q hq
def mu (G:WyG) (b:Bool) (I U:B9z):Nat:=2 * (Q5b I G.N+Q5b U G.N)+if b=true then 1 else 0
theorem XI.less (hl:∀m,m<G.N->∀q∈G.sc m,q<G.N) {I U:B9z} (h:XI (G:=G) true I U):mu G (xsw G I U G.N).1 (xsw G I U G.N).2.1 (xsw G I U G.N).2.2<mu G true I U:=by
 have hs:=xsw_ok hl h.sd h.sub G.N (Nat.le_refl _)
 have:=hs.le
 unfold mu
 cases hb:(xsw G I U G.N).1 with
 | false=>simp only[Bool.false_eq_true,if_false,if_true];omega
 | true=>
   have:=hs.lt hb
   simp only[if_true];omega
theorem XI.fin {I U:B9z} (h:XI (G:=G) false I U) (hp:G.p<G.N) (hi:∀m,G.inB m=true->m<G.N) (m:Nat):I m=G.inB m/\U m=G.usB m:=by
 refine WyG.fin h.sd (fun n hc=>?_) m
 refine h.dn rfl n ?_ hc
 rcases hc with rfl|hc
 · exact hp
 · exact hi n (h.sd.i n hc)
theorem inB_lt (hp:G.p<G.N) (hl:∀m,m<G.N->∀q∈G.sc m,q<G.N) {m:Nat} (h:G.inB m=true):m<G.N:=by
 replace h:=Qmb.1 h
 induction h with
 | zero h=>exact hl _ hp _ h.2.1
 | step _ g ih=>exact hl _ ih _ g.2.1
end WyG
end
end Go.Proofs.YtemnfncbgalljaaGreat
