/- Lemmas. No condition. -/
import Derived.Test.YtemnfncbgalljabG2
namespace Go.Proofs.Ytemnfncbgalljab
open Go.RowKit
set_option linter.all false
def mk (S:B9z):Nat->Nat
 | 0=>0
 | n+1=>mk S n+if S n=true then 2 ^ n else 0
theorem Qj5 (S:B9z):∀n,mk S n<2 ^ n
 | 0=>by simp[mk]
 | n+1=>by have:=Qj5 S n;simp only[mk,Nat.pow_succ];split<;>omega
theorem Qze (S:B9z):∀n l,(mk S n).testBit l=(decide (l<n)&&S l)
 | 0,l=>by simp[mk]
 | n+1,l=>by
   have ih:=Qze S n
   have hlt:=Qj5 S n
   simp only[mk]
   by_cases h:S n=true
   · have e2:=Nat.two_pow_add_eq_or_of_lt hlt 1
     rw[Nat.mul_one] at e2
     rw[if_pos h,Nat.add_comm,e2,Nat.testBit_or,ih,Nat.testBit_two_pow]
     by_cases g:n=l
     · subst g;simp[h]
     · have e:decide (l<n+1)=decide (l<n):=by
        rw[Bool.eq_iff_iff];simp only[decide_eq_true_eq];omega
       rw[e];simp[g]
   · rw[if_neg h,Nat.add_zero,ih]
     by_cases g:n=l
     · subst g;simp[h]
     · have e:decide (l<n+1)=decide (l<n):=by
        rw[Bool.eq_iff_iff];simp only[decide_eq_true_eq];omega
       rw[e]
theorem Q9s {S T:B9z} {n:Nat} (h:∀l,l<n->S l=T l):mk S n=mk T n:=by
 refine Nat.eq_of_testBit_eq fun l=>?_
 rw[Qze,Qze]
 by_cases g:l<n
 · rw[h l g]
 · simp[g]
theorem Q97 {S T:B9z} {n:Nat} (h:mk S n=mk T n) {l:Nat} (hl:l<n):S l=T l:=by
 have:=congrArg (fun x=>x.testBit l) h
 simpa [Qze,hl] using this
theorem Q4x {S:B9z} {n:Nat} (hn:n<=32):mk S n<2 ^ 32:=Nat.lt_of_lt_of_le (Qj5 S n) (Nat.pow_le_pow_right (by decide) hn)
theorem Q2e (a:Nat):BitVec.ofInt 32 (Int.ofNat a)=BitVec.ofNat 32 a:=by simp[Int.ofNat_eq_natCast]
theorem Qjk {a:Nat} (h:a<2 ^ 32):IntKind.u32.wrap (Int.ofNat a)=Int.ofNat a:=by
 show _=(a:Int)
 have e:IntKind.u32.wrap (Int.ofNat a)=(a:Int) % (2 ^ 32:Int):=by
  simp[IntKind.wrap,IntKind.bits,IntKind.signed]
 rw[e];omega
section
variable {ar:A9z} (har:ar=rAr) {a b:Nat}
include har
theorem Qu6 (ha:a<2 ^ 32) (hb:b<2 ^ 32):ar .and .u32 (.ofNat a) (.ofNat b)=.ofNat (a&&&b):=by
 rw[har]
 show IntKind.u32.wrap (Int.ofNat (BitVec.ofInt 32 (Int.ofNat a)&&&BitVec.ofInt 32 (Int.ofNat b)).toNat)=_
 rw[Q2e,Q2e,BitVec.toNat_and,BitVec.toNat_ofNat,BitVec.toNat_ofNat,Nat.mod_eq_of_lt ha,Nat.mod_eq_of_lt hb]
 exact Qjk (Nat.lt_of_le_of_lt Nat.and_le_left ha)
theorem Qd9 (ha:a<2 ^ 32) (hb:b<2 ^ 32):ar .or .u32 (.ofNat a) (.ofNat b)=.ofNat (a|||b):=by
 rw[har]
 show IntKind.u32.wrap (Int.ofNat (BitVec.ofInt 32 (Int.ofNat a)|||BitVec.ofInt 32 (Int.ofNat b)).toNat)=_
 rw[Q2e,Q2e,BitVec.toNat_or,BitVec.toNat_ofNat,BitVec.toNat_ofNat,Nat.mod_eq_of_lt ha,Nat.mod_eq_of_lt hb]
 exact Qjk (Nat.or_lt_two_pow ha hb)
theorem Qkv (ha:a<2 ^ 32) (hb:b<2 ^ 32):∃c:Nat,ar .andNot .u32 (.ofNat a) (.ofNat b)=.ofNat c/\c<2 ^ 32/\∀l,c.testBit l=(a.testBit l&&!b.testBit l):=by
 refine ⟨(BitVec.ofNat 32 a&&& ~~~BitVec.ofNat 32 b).toNat,?_,BitVec.isLt _,fun l=>?_⟩
 · rw[har]
   show IntKind.u32.wrap (Int.ofNat (BitVec.ofInt 32 (Int.ofNat a)&&& ~~~BitVec.ofInt 32 (Int.ofNat b)).toNat)=_
   rw[Q2e,Q2e]
   exact Qjk (BitVec.isLt _)
 · rw[BitVec.testBit_toNat,BitVec.getLsbD_and,BitVec.getLsbD_not,BitVec.getLsbD_ofNat,BitVec.getLsbD_ofNat]
   by_cases g:l<32
   · simp[g]
   · have:a.testBit l=false:=Nat.testBit_lt_two_pow (Nat.lt_of_lt_of_le ha (Nat.pow_le_pow_right (by decide) o9))
     simp[g,this]
theorem Qyz (hb:b<32):ar .shl .u32 1 (.ofNat b)=.ofNat (2 ^ b):=by
 rw[har]
 show IntKind.u32.wrap ((1:Int) * 2 ^ (min (Int.ofNat b).toNat 32))=_
 have e:min (Int.ofNat b).toNat 32=b:=by simp only[Int.ofNat_eq_natCast,Int.toNat_natCast];omega
 rw[e,Int.one_mul,show ((2:Int) ^ b)=Int.ofNat (2 ^ b) from by simp]
 exact Qjk (Nat.pow_lt_pow_right (by decide) hb)
theorem Q8ma (hb:b<=32) (h:a * 2 ^ b<2 ^ 32):ar .shl .u32 (.ofNat a) (.ofNat b)=.ofNat (a * 2 ^ b):=by
 rw[har]
 show IntKind.u32.wrap ((a:Int) * 2 ^ (min (Int.ofNat b).toNat 32))=_
 have e:min (Int.ofNat b).toNat 32=b:=by simp only[Int.ofNat_eq_natCast,Int.toNat_natCast];omega
 rw[e,show ((a:Int) * (2:Int) ^ b)=Int.ofNat (a * 2 ^ b) from by simp]
 exact Qjk h
theorem Qsma (h:b<=a) (ha:a<2 ^ 32):ar .sub .u32 (.ofNat a) (.ofNat b)=.ofNat (a - b):=by
 rw[har]
 show IntKind.u32.wrap ((a:Int) - (b:Int))=_
 rw[show ((a:Int) - (b:Int))=Int.ofNat (a - b) from by simp only[Int.ofNat_eq_natCast];omega]
 exact Qjk o9
variable {n:Nat} (hn:n<=32) (S T:B9z)
include hn
theorem Qgna:ar .and .u32 (.ofNat (mk S n)) (.ofNat (mk T n))=.ofNat (mk (fun l=>S l&&T l) n):=by
 rw[Qu6 har (Q4x hn) (Q4x hn)]
 congr 1
 refine Nat.eq_of_testBit_eq fun l=>?_
 rw[Nat.testBit_and,Qze,Qze,Qze]
 cases decide (l<n)<;>simp
theorem Q60:ar .or .u32 (.ofNat (mk S n)) (.ofNat (mk T n))=.ofNat (mk (fun l=>S l||T l) n):=by
 rw[Qd9 har (Q4x hn) (Q4x hn)]
 congr 1
 refine Nat.eq_of_testBit_eq fun l=>?_
 rw[Nat.testBit_or,Qze,Qze,Qze]
 cases decide (l<n)<;>simp
theorem Q5x:ar .andNot .u32 (.ofNat (mk S n)) (.ofNat (mk T n))=.ofNat (mk (fun l=>S l&&!T l) n):=by
 obtain ⟨c,h1,h2,h3⟩:=Qkv har (Q4x (S:=S) hn) (Q4x (S:=T) hn)
 rw[h1]
 congr 1
 refine Nat.eq_of_testBit_eq fun l=>?_
 rw[h3,Qze,Qze,Qze]
 cases decide (l<n)<;>simp
end
theorem Qz2 {b n:Nat} (h:b<n):2 ^ b=mk (fun l=>decide (l=b)) n:=by
 refine Nat.eq_of_testBit_eq fun l=>?_
 rw[Qze,Nat.testBit_two_pow]
 by_cases g:b=l
 · subst g;simp[h]
 · simp[g,Ne.symm g]
theorem mk_none {n:Nat}:0=mk (fun _=>false) n:=by
 refine Nat.eq_of_testBit_eq fun l=>?_
 rw[Qze];simp
theorem Quna {S:B9z} {n:Nat} (h:mk S n=0) {l:Nat} (hl:l<n):S l=false:=by
 have:=Q97 (h.trans (mk_none (n:=n))) hl
 exact this
theorem Qhoa {n:Nat}:2 ^ n - 1=mk (fun _=>true) n:=by
 refine Nat.eq_of_testBit_eq fun l=>?_
 rw[Qze,Nat.testBit_two_pow_sub_one];simp
section
inductive Cl (Z:Nat->Prop) (R:Nat->Nat->Prop):Nat->Prop where
 | zero {n:Nat}:Z n->Cl Z R n
 | step {m n:Nat}:Cl Z R m->R m n->Cl Z R n
open Classical in
noncomputable def clB (Z:Nat->Prop) (R:Nat->Nat->Prop) (n:Nat):Bool:=decide (Cl Z R n)
theorem Qmb {Z:Nat->Prop} {R:Nat->Nat->Prop} {n:Nat}:clB Z R n=true↔Cl Z R n:=by unfold clB;simp
theorem Qdaa {Z:Nat->Prop} {R:Nat->Nat->Prop} {S:B9z} (hs:∀n,S n=true->Cl Z R n) (hz:∀n,Z n->S n=true) (hc:∀m n,S m=true->R m n->S n=true) (n:Nat):S n=clB Z R n:=by
 have key:Cl Z R n->S n=true:=fun h=>by
  induction h with
  | zero h=>exact hz _ h
  | step _ h ih=>exact hc _ _ ih h
 have h2:=Qmb (Z:=Z) (R:=R) (n:=n)
 cases h:S n<;>cases g:clB Z R n
 · rfl
 · rw[key (h2.1 g)] at h;cases h
 · rw[h2.2 (hs n h)] at g;cases g
 · rfl
theorem Qh7 {Z:Nat->Prop} {R:Nat->Nat->Prop} {S:B9z} {N:Nat} (hZ:∀n,Z n->n<N) (hR:∀m n,R m n->n<N) (hs:∀n,n<N->S n=true->Cl Z R n) (hz:∀n,n<N->Z n->S n=true) (hc:∀m n,m<N->n<N->S m=true->R m n->S n=true) {n:Nat} (hn:n<N):S n=clB Z R n:=by
 have e:=Qdaa (Z:=Z) (R:=R) (S:=fun n=>decide (n<N)&&S n) (fun n h=>by
  simp only[Bool.and_eq_true,decide_eq_true_eq] at h;exact hs n h.1 h.2) (fun n h=>by
  simp only[Bool.and_eq_true,decide_eq_true_eq];exact ⟨hZ n h,hz n (hZ n h) h⟩) (fun m n h r=>by
  simp only[Bool.and_eq_true,decide_eq_true_eq] at h⊢;exact ⟨hR m n r,hc m n h.1 (hR m n r) h.2 r⟩) n
 rw[<-e];simp[hn]
structure FlowG where
 ln:Nat
 N:Nat
 sc:Nat->List Nat
 gS:Nat->Nat->Bool
 uS:Nat->Nat->Bool
 i0:Nat->Bool
namespace FlowG
variable (G:FlowG)
def be (m:Nat) (S:B9z) (l:Nat):Bool:=G.gS m l||(S l&&!G.uS m l)
def Z (l n:Nat):Prop:=(n=0/\G.i0 l=false)\/∃m,ReachG G.sc m/\G.gS m l=false/\G.uS m l=true/\n∈G.sc m
def R (l m n:Nat):Prop:=ReachG G.sc m/\G.gS m l=false/\n∈G.sc m
noncomputable def unB (l n:Nat):Bool:=clB (G.Z l) (G.R l) n
abbrev FS:=(Nat->Nat->Bool)×(Nat->Bool)×List Nat
def sameB (O:B9y) (M:B9z) (n:Nat):Bool:=Qed G.ln fun l=>decide ((O n l&&M l)=O n l)
def relax (M:B9z) (x:FS) (n:Nat):FS:=if (sameB G x.1 M n&&x.2.1 n)=true then x else (fun j l=>if j=n then x.1 n l&&M l else x.1 j l,fun j=>if j=n then true else x.2.1 j,x.2.2++[n])
def cnt (S:B9z):Nat->Nat
 | 0=>0
 | n+1=>cnt S n+if S n=true then 1 else 0
theorem cnt_le (S:B9z):∀n,cnt S n<=n
 | 0=>Nat.le_refl _
 | n+1=>by have:=cnt_le S n;simp only[cnt];split<;>omega
theorem cnt_mono {S T:B9z} (h:∀l,S l=true->T l=true):∀n,cnt S n<=cnt T n
 | 0=>Nat.le_refl _
 | n+1=>by
   have:=cnt_mono h n
   simp only[cnt]
   by_cases g:S n=true
   · rw[if_pos g,if_pos (h n g)];omega
   · rw[if_neg g];omega
theorem cnt_lt {S T:B9z} (h:∀l,S l=true->T l=true) {k:Nat} (h1:S k=false) (h2:T k=true):∀n,k<n->cnt S n<cnt T n
 | n+1,hk=>by
   simp only[cnt]
   by_cases g:k=n
   · subst g
     have:=cnt_mono h k
     rw[h1,h2];simp;omega
   · have:=cnt_lt h h1 h2 n o9
     by_cases g:S n=true
     · rw[if_pos g,if_pos (h n g)];omega
     · rw[if_neg g];omega
def left (O:B9y) (V:B9z):Nat->Nat
 | 0=>0
 | n+1=>left O V n+cnt (O n) G.ln+if V n=true then 0 else 1
theorem left_le (O:B9y) (V:B9z):∀n,left G O V n<=n * (G.ln+1)
 | 0=>by simp[left]
 | n+1=>by
   have:=left_le O V n
   have:=cnt_le (O n) G.ln
   simp only[left,Nat.succ_mul];split<;>omega
theorem left_eq {O O':B9y} {V V':B9z}:∀n,(∀j,j<n->O j=O' j/\V j=V' j)->left G O V n=left G O' V' n
 | 0,_=>rfl
 | n+1,h=>by
   simp only[left,left_eq n (fun j hj=>h j o9),(h n o9).1,(h n o9).2]
theorem left_relax {M:B9z} {x:FS} {n:Nat} (h:(sameB G x.1 M n&&x.2.1 n)=false):∀m,n<m->left G (relax G M x n).1 (relax G M x n).2.1 m<left G x.1 x.2.1 m:=by
 have hr:relax G M x n=(fun j l=>if j=n then x.1 n l&&M l else x.1 j l,fun j=>if j=n then true else x.2.1 j,x.2.2++[n]):=by unfold relax;rw[if_neg (by simp[h])]
 rw[hr]
 intro m
 induction m with
 | zero=>intro h;omega
 | succ m ih=>
   intro hnm
   simp only[left]
   by_cases g:n=m
   · subst g
     rw[left_eq G (O':=x.1) (V':=x.2.1) n (fun j hj=>⟨funext fun l=>by rw[if_neg o9],by rw[if_neg o9]⟩)]
     simp only[if_true]
     have hm:=cnt_mono (S:=fun l=>x.1 n l&&M l) (T:=x.1 n) (fun l hl=>by simp only[Bool.and_eq_true] at hl;exact hl.1) G.ln
     by_cases v:x.2.1 n=true
     · rw[v,Bool.and_true] at h
       have:∃k,k<G.ln/\(x.1 n k&&M k)≠x.1 n k:=by
        refine Classical.byContradiction fun hh=>?_
        rw[show sameB G x.1 M n=true from Qla.2 fun k hk=>decide_eq_true (Classical.byContradiction fun h3=>hh ⟨k,hk,h3⟩)] at h
        cases h
       obtain ⟨k,hk,h3⟩:=this
       have h4:(x.1 n k&&M k)=false/\x.1 n k=true:=by
        cases h5:x.1 n k<;>cases h6:M k<;>simp_all
       have:=cnt_lt (S:=fun l=>x.1 n l&&M l) (T:=x.1 n) (fun l hl=>by simp only[Bool.and_eq_true] at hl;exact hl.1) h4.1 h4.2 G.ln hk
       rw[if_pos v];omega
     · rw[if_neg v];omega
   · have:=ih o9
     rw[show (fun l=>if m=n then x.1 n l&&M l else x.1 m l)=x.1 m from funext fun l=>by rw[if_neg o9]]
     have gm:¬m=n:=by omega
     simp only[if_neg gm]
     simp only at this
     omega
structure RelOk (M:B9z) (L:List Nat) (x y:FS):Prop where
 up:∀b,x.2.1 b=true->y.2.1 b=true
 dn:∀n l,x.1 n l=false->y.1 n l=false
 all:∀n∈L,y.2.1 n=true/\∀l,l<G.ln->M l=false->y.1 n l=false
 old:∀b,y.2.1 b=true->x.2.1 b=true\/b∈L
 chg:∀b,y.2.1 b=true->(x.2.1 b=true/\∀l,l<G.ln->y.1 b l=x.1 b l)\/b∈y.2.2
 sub:∀b∈x.2.2,b∈y.2.2
 new:∀b∈y.2.2,b∈x.2.2\/b∈L
 snd:∀n l,l<G.ln->y.1 n l=false->x.1 n l=false\/(n∈L/\M l=false)
 m:(∀n∈L,n<G.N)->left G y.1 y.2.1 G.N+y.2.2.length<=left G x.1 x.2.1 G.N+x.2.2.length
theorem relax_one (M:B9z) (x:FS) (n:Nat):RelOk G M [n] x (relax G M x n):=by
 by_cases h:(sameB G x.1 M n&&x.2.1 n)=true
 · have e:relax G M x n=x:=by unfold relax;rw[if_pos h]
   rw[e]
   simp only[Bool.and_eq_true] at h
   refine ⟨fun _ h=>h,fun _ _ h=>h,fun k hk=>?_,fun _ h=>.inl h,fun b hb=>.inl ⟨hb,fun _ _=>rfl⟩,fun _ h=>h,fun _ h=>.inl h,fun _ _ _ h=>.inl h,fun _=>Nat.le_refl _⟩
   obtain rfl:=List.mem_singleton.1 hk
   refine ⟨h.2,fun l hl hM=>?_⟩
   have:=of_decide_eq_true (Qla.1 h.1 l hl)
   rw[hM,Bool.and_false] at this;exact this.symm
 · have hf:(sameB G x.1 M n&&x.2.1 n)=false:=by simpa using h
   have hl:=left_relax G hf
   have e:relax G M x n=(fun j l=>if j=n then x.1 n l&&M l else x.1 j l,fun j=>if j=n then true else x.2.1 j,x.2.2++[n]):=by unfold relax;rw[if_neg h]
   rw[e] at hl⊢
   refine ⟨fun b hb=>?_,fun k l hk=>?_,fun k hk=>?_,fun b hb=>?_,fun b hb=>?_,fun b hb=>by simp[hb],fun b hb=>?_,fun k l hl' hk=>?_,fun hN=>?_⟩
   · simp only;split
     · rfl
     · exact hb
   · simp only;split
     · rename_i g;subst g;rw[hk];rfl
     · exact hk
   · obtain rfl:=List.mem_singleton.1 hk
     simp only[if_true]
     exact ⟨trivial,fun l _ hM=>by rw[hM];simp⟩
   · simp only at hb
     split at hb
     · rename_i g;subst g;exact .inr (by simp)
     · exact .inl hb
   · simp only at hb⊢
     split at hb
     · rename_i g;subst g;exact .inr (by simp)
     · rename_i g;exact .inl ⟨hb,fun l _=>by rw[if_neg g]⟩
   · simp only[List.mem_append,List.mem_singleton] at hb
     rcases hb with hb|rfl
     · exact .inl hb
     · exact .inr (by simp)
   · simp only at hk
     split at hk
     · rename_i g
       subst g
       rw[Bool.and_eq_false_iff] at hk
       rcases hk with hk|hk
       · exact .inl hk
       · exact .inr ⟨by simp,hk⟩
     · exact .inl hk
   · have:=hl G.N (hN n (by simp))
     simp only[List.length_append,List.length_cons,List.length_nil] at this⊢
     omega
theorem RelOk.trans {M:B9z} {L L':List Nat} {x y z:FS} (h1:RelOk G M L x y) (h2:RelOk G M L' y z):RelOk G M (L++L') x z:=by
 refine ⟨fun b h=>h2.up b (h1.up b h),fun n l h=>h2.dn n l (h1.dn n l h),fun n hn=>?_,fun b hb=>?_,fun b hb=>?_,fun b h=>h2.sub b (h1.sub b h),fun b hb=>?_,fun n l hl h=>?_,fun hN=>?_⟩
 · rcases List.mem_append.1 hn with hn|hn
   · exact ⟨h2.up n (h1.all n hn).1,fun l hl hM=>h2.dn n l ((h1.all n hn).2 l hl hM)⟩
   · exact h2.all n hn
 · rcases h2.old b hb with h|h
   · rcases h1.old b h with h|h
     · exact .inl h
     · exact .inr (List.mem_append_left _ h)
   · exact .inr (List.mem_append_right _ h)
 · rcases h2.chg b hb with ⟨h,g⟩|h
   · rcases h1.chg b h with ⟨h',g'⟩|h'
     · exact .inl ⟨h',fun l hl=>(g l hl).trans (g' l hl)⟩
     · exact .inr (h2.sub b h')
   · exact .inr h
 · rcases h2.new b hb with h|h
   · rcases h1.new b h with h|h
     · exact .inl h
     · exact .inr (List.mem_append_left _ h)
   · exact .inr (List.mem_append_right _ h)
 · rcases h2.snd n l hl h with h|⟨h,g⟩
   · rcases h1.snd n l hl h with h|⟨h,g⟩
     · exact .inl h
     · exact .inr ⟨List.mem_append_left _ h,g⟩
   · exact .inr ⟨List.mem_append_right _ h,g⟩
 · exact Nat.le_trans (h2.m fun n hn=>hN n (List.mem_append_right _ hn)) (h1.m fun n hn=>hN n (List.mem_append_left _ hn))
theorem RelOk.nil (M:B9z) (x:FS):RelOk G M [] x x:=⟨fun _ h=>h,fun _ _ h=>h,fun _ h=>by simp at h,fun _ h=>.inl h,fun b hb=>.inl ⟨hb,fun _ _=>rfl⟩,fun _ h=>h,fun _ h=>.inl h,fun _ _ _ h=>.inl h,fun _=>Nat.le_refl _⟩
theorem relax_all (M:B9z):∀(L:List Nat) (x:FS),RelOk G M L x (L.foldl (relax G M) x)
 | [],x=>.nil G M x
 | n::L,x=>by
   rw[List.foldl_cons,show n::L=[n]++L from rfl]
   exact (relax_one G M x n).trans G (relax_all M L _)
structure Inv (x:FS):Prop where
 z:x.2.1 0=true
 r:∀b,x.2.1 b=true->ReachG G.sc b/\b<G.N
 t:∀b∈x.2.2,x.2.1 b=true
 snd:∀n l,l<G.ln->x.1 n l=false->n<G.N->Cl (G.Z l) (G.R l) n
 s0:∀l,l<G.ln->G.i0 l=false->x.1 0 l=false
 c:∀b,x.2.1 b=true->b∈x.2.2\/∀n∈G.sc b,x.2.1 n=true/\∀l,l<G.ln->G.be b (x.1 b) l=false->x.1 n l=false
 m:left G x.1 x.2.1 G.N+x.2.2.length<=G.N * (G.ln+1)+1
variable {G}
def fst (G:FlowG):FS:=(fun n l=>if n=0 then G.i0 l else true,fun n=>decide (n=0),[0])
theorem inv_first (hN:0<G.N):Inv G (fst G):=by
 refine ⟨by simp[fst],fun b hb=>?_,fun b hb=>by simpa [fst] using hb,fun n l hl h hn=>?_,fun l _ h=>by simpa [fst] using h,fun b hb=>?_,?_⟩
 · have:b=0:=of_decide_eq_true hb
   subst this;exact ⟨.zero,hN⟩
 · simp only[fst] at h
   split at h
   · rename_i g;subst g;exact .zero (.inl ⟨rfl,h⟩)
   · cases h
 · have:b=0:=of_decide_eq_true hb
   subst this;exact .inl (by simp[fst])
 · have:=left_le G (fst G).1 (fst G).2.1 G.N
   simp only[fst,List.length_cons,List.length_nil] at this⊢
   omega
theorem inv_step {O:B9y} {V:B9z} {b:Nat} {T:List Nat} (h:Inv G (O,V,b::T)) (hl:∀n∈G.sc b,n<G.N):
 Inv G ((G.sc b).foldl (relax G (G.be b (O b))) (O,V,T))/\left G ((G.sc b).foldl (relax G (G.be b (O b))) (O,V,T)).1 ((G.sc b).foldl (relax G (G.be b (O b))) (O,V,T)).2.1 G.N+((G.sc b).foldl (relax G (G.be b (O b))) (O,V,T)).2.2.length<left G O V G.N+(b::T).length:=by
 have hv:=relax_all G (G.be b (O b)) (G.sc b) (O,V,T)
 generalize (G.sc b).foldl (relax G (G.be b (O b))) (O,V,T)=y at hv
 have hVb:V b=true:=h.t b List.mem_cons_self
 have hRb:=h.r b hVb
 have hm:=hv.m hl
 have hm0:=h.m
 simp only[List.length_cons] at hm0 hm⊢
 refine ⟨⟨hv.up 0 h.z,fun n hn=>?_,fun n hn=>?_,fun n l hl' hn hN=>?_,fun l hl' h0=>hv.dn 0 l (h.s0 l hl' h0),fun n hn=>?_,by omega⟩,by omega⟩
 · rcases hv.old n hn with g|g
   · exact h.r n g
   · exact ⟨.step hRb.1 g,hl n g⟩
 · rcases hv.new n hn with g|g
   · exact hv.up n (h.t n (List.mem_cons_of_mem _ g))
   · exact (hv.all n g).1
 · rcases hv.snd n l hl' hn with g|⟨g,gM⟩
   · exact h.snd n l hl' g hN
   · simp only[be,Bool.or_eq_false_iff,Bool.and_eq_false_iff,Bool.not_eq_false'] at gM
     rcases gM.2 with h2|h2
     · exact .step (h.snd b l hl' h2 hRb.2) ⟨hRb.1,gM.1,g⟩
     · exact .zero (.inr ⟨b,hRb.1,gM.1,h2,g⟩)
 · rcases hv.chg n hn with ⟨g1,g2⟩|g
   · have be_eq:∀l,l<G.ln->G.be n (y.1 n) l=G.be n (O n) l:=fun l hl'=>by simp only[be,g2 l hl']
     by_cases e:n=b
     · subst e
       refine .inr fun k hk=>⟨(hv.all k hk).1,fun l hl' hb=>(hv.all k hk).2 l hl' ?_⟩
       rw[<-be_eq l hl'];exact hb
     · rcases h.c n g1 with g|g
       · rcases List.mem_cons.1 g with g|g
         · exact absurd g e
         · exact .inl (hv.sub n g)
       · refine .inr fun k hk=>⟨hv.up k (g k hk).1,fun l hl' hb=>hv.dn k l ((g k hk).2 l hl' ?_)⟩
         rw[<-be_eq l hl'];exact hb
   · exact .inl g
theorem inv_end {O : Nat -> Nat -> Bool} {V : Nat -> Bool} (h : Inv G (O, V, [])) {n l : Nat} (hn : n < G.N) (hl : l < G.ln) : O n l = !G.unB l n := by
  have hV : ∀ b, ReachG G.sc b -> V b = true := fun b hb => by
    induction hb with
    | zero => exact h.z
    | step _ hn ih => rcases h.c _ ih with g | g
                      · simp at g
                      · exact (g _ hn).1
  have hC : ∀ b, V b = true -> ∀ n ∈ G.sc b, ∀ l, l < G.ln -> G.be b (O b) l = false -> O n l = false := fun b hb n hn l hl hh => by
    rcases h.c b hb with g | g
    · simp at g
    · exact (g n hn).2 l hl hh
  have key : ∀ n, Cl (G.Z l) (G.R l) n -> O n l = false := fun n hn => by
    induction hn with
    | zero hz =>
      rcases hz with ⟨rfl, h0⟩ | ⟨m, h1, h2, h3, h4⟩
      · exact h.s0 l hl h0
      · exact hC m (hV m h1) _ h4 l hl (by simp [be, h2, h3])
    | step _ hr ih => exact hC _ (hV _ hr.1) _ hr.2.2 l hl (by simp [be, hr.2.1, ih])
  have h2 := Qmb (Z := G.Z l) (R := G.R l) (n := n)
  unfold unB
  cases g : O n l <;> cases g2 : clB (G.Z l) (G.R l) n
  · rw [h2.2 (h.snd n l hl g hn)] at g2; cases g2
  · rfl
  · rfl
  · rw [key n (h2.1 g2)] at g; cases g
end FlowG
end
section
theorem Qli {S T:B9z} (h:∀j,S j=true->T j=true):∀m,Q5b T m<=Q5b S m
 | 0=>Nat.le_refl _
 | m+1=>by
   have:=Qli h m
   simp only[Q5b]
   by_cases g:S m=true
   · rw[if_pos g,if_pos (h m g)];omega
   · rw[if_neg g];split<;>omega
structure WyG where
 N:Nat
 p:Nat
 sc:Nat->List Nat
 rg:Nat->Bool
 kl:Nat->Bool
 tw:Nat->Bool
namespace WyG
variable (G:WyG)
def R (n m:Nat):Prop:=G.kl n=false/\m∈G.sc n/\G.rg m=true
noncomputable def inB (m:Nat):Bool:=clB (fun m=>G.R G.p m) G.R m
noncomputable def usB (m:Nat):Bool:=clB (fun m=>∃n,G.inB n=true/\G.tw n=true/\G.R n m) G.R m
variable {G}
variable (G)
structure Snd (I U:B9z):Prop where
 i:∀m,I m=true->G.inB m=true
 u:∀m,U m=true->G.usB m=true
def Dn (I U:B9z) (n:Nat):Prop:=n=G.p\/I n=true->∀m,G.R n m->I m=true/\((U n=true\/(I n=true/\G.tw n=true))->U m=true)
variable {G}
variable (G)
structure WI (i n:Nat) (a:N9z) (u I U:B9z):Prop where
 pos:0<n
 le:i<=n
 h0:a 0=G.p/\u 0=false
 sub:∀m,U m=true->I m=true
 sd:Snd G I U
 w:∀j,j<n->a j<G.N/\(0<j->I (a j)=true/\(u j=true->U (a j)=true))
 cI:∀m,I m=true->∃j,0<j/\j<n/\a j=m
 cU:∀m,U m=true->∃j,0<j/\j<n/\a j=m/\u j=true
 cl:∀j,j<i->∀m,G.R (a j) m->I m=true/\(u j=true\/(0<j/\G.tw (a j)=true)->U m=true)
 len:n+Q5b I G.N+Q5b U G.N<=2 * G.N+1
variable {G}
theorem WI.first (hp:G.p<G.N):WI G 0 1 (fun _=>G.p) (fun _=>false) (fun _=>false) (fun _=>false):=by
 refine ⟨by omega,by omega,⟨rfl,rfl⟩,fun _ h=>(by cases h),⟨fun _ h=>(by cases h),fun _ h=>(by cases h)⟩,fun j hj=>⟨hp,fun h=>by omega⟩,fun _ h=>(by cases h),fun _ h=>(by cases h),fun j hj=>by omega,?_⟩
 have:=Qfu (fun _=>false) G.N
 omega
theorem WI.skip {i n:Nat} {a:N9z} {u I U:B9z} (h:WI G i n a u I U) (hi:i<n) (hk:G.kl (a i)=true):WI G (i+1) n a u I U:=by
 refine ⟨h.pos,hi,h.h0,h.sub,h.sd,h.w,h.cI,h.cU,fun j hj m hm=>?_,h.len⟩
 rcases Nat.lt_or_eq_of_le (Nat.le_of_lt_succ hj) with g|rfl
 · exact h.cl j g m hm
 · rw[hm.1] at hk;cases hk
theorem turn_up {S:B9z} {m j:Nat} (h:S j=true):turn S m true j=true:=by
 unfold turn;split
 · rfl
 · exact h
theorem turn_at {α:Type} {S:Nat->α} {m:Nat} {x:α}:turn S m x m=x:=by unfold turn;rw[if_pos rfl]
theorem turn_ne {α:Type} {S:Nat->α} {m j:Nat} {x:α} (h:j≠m):turn S m x j=S j:=by unfold turn;rw[if_neg h]
theorem turn_old {S:B9z} {m j:Nat} (h:turn S m true j=true):j=m\/S j=true:=by
 unfold turn at h;split at h
 · rename_i e;exact .inl e
 · exact .inr h
abbrev XS:=Bool×(Nat->Bool)×(Nat->Bool)
variable (G)
def xput (was:Bool) (x:XS) (m:Nat):XS:=if G.rg m=true then (x.1||(!x.2.1 m||(was&&!x.2.2 m)),turn x.2.1 m true,turn x.2.2 m (x.2.2 m||was)) else x
structure XOk' (was:Bool) (L:List Nat) (x y:XS):Prop where
 uI:∀j,x.2.1 j=true->y.2.1 j=true
 uU:∀j,x.2.2 j=true->y.2.2 j=true
 all:∀q∈L,G.rg q=true->y.2.1 q=true/\(was=true->y.2.2 q=true)
 oI:∀j,y.2.1 j=true->x.2.1 j=true\/(j∈L/\G.rg j=true)
 oU:∀j,y.2.2 j=true->x.2.2 j=true\/(j∈L/\G.rg j=true/\was=true)
 mo:x.1=true->y.1=true
 no:y.1=false->∀j,y.2.1 j=x.2.1 j/\y.2.2 j=x.2.2 j
 le:Q5b y.2.1 G.N+Q5b y.2.2 G.N<=Q5b x.2.1 G.N+Q5b x.2.2 G.N
 lt:(∀q∈L,q<G.N)->y.1=true->x.1=true\/Q5b y.2.1 G.N+Q5b y.2.2 G.N<Q5b x.2.1 G.N+Q5b x.2.2 G.N
variable {G}
theorem XOk'.nil (was:Bool) (x:XS):XOk' G was [] x x:=⟨fun _ h=>h,fun _ h=>h,fun _ h=>by simp at h,fun _ h=>.inl h,fun _ h=>.inl h,fun h=>h,fun _ _=>⟨rfl,rfl⟩,Nat.le_refl _,fun _ h=>.inl h⟩
theorem XOk'.one (was:Bool) (x:XS) (q:Nat):XOk' G was [q] x (xput G was x q):=by
 by_cases g:G.rg q=true
 · have e:xput G was x q=(x.1||(!x.2.1 q||(was&&!x.2.2 q)),turn x.2.1 q true,turn x.2.2 q (x.2.2 q||was)):=by unfold xput;rw[if_pos g]
   rw[e]
   have uI:∀j,x.2.1 j=true->turn x.2.1 q true j=true:=fun j h=>turn_up h
   have uU:∀j,x.2.2 j=true->turn x.2.2 q (x.2.2 q||was) j=true:=fun j h=>by
    by_cases e:j=q
    · subst e;rw[turn_at,h];rfl
    · rw[turn_ne e];exact h
   have l1:=Qli uI G.N
   have l2:=Qli uU G.N
   refine ⟨uI,uU,fun j hj _=>?_,fun j h=>?_,fun j h=>?_,fun h=>by simp[h],fun h j=>?_,by simpa using Nat.add_le_add l1 l2,fun hN h=>?_⟩
   · obtain rfl:=List.mem_singleton.1 hj
     refine ⟨turn_at,fun h=>?_⟩
     show turn x.2.2 j (x.2.2 j||was) j=true
     rw[turn_at,h,Bool.or_true]
   · rcases turn_old h with e|e
     · subst e;exact .inr ⟨by simp,g⟩
     · exact .inl e
   · by_cases e:j=q
     · subst e
       have h:turn x.2.2 j (x.2.2 j||was) j=true:=h
       rw[turn_at,Bool.or_eq_true] at h
       rcases h with h|h
       · exact .inl h
       · exact .inr ⟨by simp,g,h⟩
     · have h:turn x.2.2 q (x.2.2 q||was) j=true:=h
       rw[turn_ne e] at h;exact .inl h
   · simp only[Bool.or_eq_false_iff,Bool.not_eq_false',Bool.and_eq_false_iff] at h
     obtain ⟨_,h1,h2⟩:=h
     by_cases e:j=q
     · subst e
       refine ⟨?_,?_⟩
       · show turn x.2.1 j true j=_
         rw[turn_at,h1]
       · show turn x.2.2 j (x.2.2 j||was) j=_
         rw[turn_at]
         rcases h2 with h2|h2
         · rw[h2,Bool.or_false]
         · rw[h2];rfl
     · exact ⟨turn_ne e,turn_ne e⟩
   · simp only[Bool.or_eq_true,Bool.not_eq_true',Bool.and_eq_true] at h
     have hq:=hN q (by simp)
     rcases h with h|h|⟨h0,h⟩
     · exact .inl h
     · have:Q5b (turn x.2.1 q true) G.N+(if q<G.N then 1 else 0)=Q5b x.2.1 G.N:=Qmi h G.N
       rw[if_pos hq] at this
       refine .inr ?_
       simp only;omega
     · have:Q5b (turn x.2.2 q true) G.N+(if q<G.N then 1 else 0)=Q5b x.2.2 G.N:=Qmi h G.N
       rw[if_pos hq] at this
       refine .inr ?_
       have e:turn x.2.2 q (x.2.2 q||was)=turn x.2.2 q true:=by rw[h0,Bool.or_true]
       simp only[e];omega
 · have e:xput G was x q=x:=by unfold xput;rw[if_neg g]
   rw[e]
   exact ⟨fun _ h=>h,fun _ h=>h,fun j hj h=>by obtain rfl:=List.mem_singleton.1 hj;exact absurd h g,fun _ h=>.inl h,fun _ h=>.inl h,fun h=>h,fun _ _=>⟨rfl,rfl⟩,Nat.le_refl _,fun _ h=>.inl h⟩
theorem XOk'.trans {was:Bool} {L L':List Nat} {x y z:XS} (h1:XOk' G was L x y) (h2:XOk' G was L' y z):XOk' G was (L++L') x z:=by
 have hy:z.1=false->y.1=false:=fun h=>by
  cases hy:y.1
  · rfl
  · rw[h2.mo hy] at h;cases h
 refine ⟨fun j h=>h2.uI j (h1.uI j h),fun j h=>h2.uU j (h1.uU j h),fun q hq g=>?_,fun j h=>?_,fun j h=>?_,fun h=>h2.mo (h1.mo h),fun h j=>?_,Nat.le_trans h2.le h1.le,fun hN h=>?_⟩
 · rcases List.mem_append.1 hq with hq|hq
   · have:=h1.all q hq g
     exact ⟨h2.uI q this.1,fun h=>h2.uU q (this.2 h)⟩
   · exact h2.all q hq g
 · rcases h2.oI j h with h|h
   · rcases h1.oI j h with h|h
     · exact .inl h
     · exact .inr ⟨List.mem_append_left _ h.1,h.2⟩
   · exact .inr ⟨List.mem_append_right _ h.1,h.2⟩
 · rcases h2.oU j h with h|h
   · rcases h1.oU j h with h|h
     · exact .inl h
     · exact .inr ⟨List.mem_append_left _ h.1,h.2⟩
   · exact .inr ⟨List.mem_append_right _ h.1,h.2⟩
 · have g2:=h2.no h j
   have g1:=h1.no (hy h) j
   exact ⟨g2.1.trans g1.1,g2.2.trans g1.2⟩
 · have l1:=h1.le
   have l2:=h2.le
   rcases h2.lt (fun q hq=>hN q (List.mem_append_right _ hq)) h with h|h
   · rcases h1.lt (fun q hq=>hN q (List.mem_append_left _ hq)) h with h|h
     · exact .inl h
     · exact .inr o9
   · exact .inr o9
structure XI (b:Bool) (I U:B9z):Prop where
 sd:Snd G I U
 sub:∀j,U j=true->I j=true
 dn:b=false->∀m,m<G.N->Dn G I U m
theorem XI.first:XI (G:=G) true (fun _=>false) (fun _=>false):=⟨⟨fun _ h=>(by cases h),fun _ h=>(by cases h)⟩,fun _ h=>(by cases h),fun h=>(by cases h)⟩
end WyG
end
end Go.Proofs.Ytemnfncbgalljab
