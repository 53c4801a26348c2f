/- Texts joined: MkA InA. No condition. -/
import Derived.Test.YtamcjkgedgocfaaGreatM2
import Derived.Test.YtamcjkgedgocfaaGreatG2
namespace Go.Proofs.YtamcjkgedgocfaaGreat
open Go.RowKit
set_option linter.all false
section
def mk (S:Nat→Bool):Nat→Nat
 | 0=>0
 | n+1=>mk S n+if S n=true then 2 ^ n else 0
theorem Qj5 (S:Nat→Bool):∀n,mk S n<2 ^ n
 | 0=>by simp[mk]
 | n+1=>by have:=Qj5 S n;simp only[mk,Nat.pow_succ];split<;>omega
theorem Qze (S:Nat→Bool):∀n l,(mk S n).testBit l=(decide (l<n)&&S l)
 | 0,l=>by simp[mk]
 | n+1,l=>by
   have ih:=Qze S n
   have hlt:=Qj5 S n
   simp only[mk]
   by_cases h:S n=true
   · have e2:=Nat.two_pow_add_eq_or_of_lt hlt 1
     rw[Nat.mul_one] at e2
     rw[if_pos h,Nat.add_comm,e2,Nat.testBit_or,ih,Nat.testBit_two_pow]
     by_cases g:n=l
     · subst g;simp[h]
     · have e:decide (l<n+1)=decide (l<n):=by
        rw[Bool.eq_iff_iff];simp only[decide_eq_true_eq];omega
       rw[e];simp[g]
   · rw[if_neg h,Nat.add_zero,ih]
     by_cases g:n=l
     · subst g;simp[h]
     · have e:decide (l<n+1)=decide (l<n):=by
        rw[Bool.eq_iff_iff];simp only[decide_eq_true_eq];omega
       rw[e]
theorem Q9s {S T:Nat→Bool} {n:Nat} (h:∀l,l<n→S l=T l):mk S n=mk T n:=by
 refine Nat.eq_of_testBit_eq fun l=>?_
 rw[Qze,Qze]
 by_cases g:l<n
 · rw[h l g]
 · simp[g]
theorem Q97 {S T:Nat→Bool} {n:Nat} (h:mk S n=mk T n) {l:Nat} (hl:l<n):S l=T l:=by
 have:=congrArg (fun x=>x.testBit l) h
 simpa [Qze,hl] using this
theorem Q4x {S:Nat→Bool} {n:Nat} (hn:n≤32):mk S n<2 ^ 32:=Nat.lt_of_lt_of_le (Qj5 S n) (Nat.pow_le_pow_right (by decide) hn)
theorem Q2e (a:Nat):BitVec.ofInt 32 (Int.ofNat a)=BitVec.ofNat 32 a:=by simp[Int.ofNat_eq_natCast]
theorem Qjk {a:Nat} (h:a<2 ^ 32):IntKind.u32.wrap (Int.ofNat a)=Int.ofNat a:=by
 show _=(a:Int)
 have e:IntKind.u32.wrap (Int.ofNat a)=(a:Int) % (2 ^ 32:Int):=by
  simp[IntKind.wrap,IntKind.bits,IntKind.signed]
 rw[e];omega
section
variable {ar:BinOp→IntKind→Int→Int→Int} (har:ar=rAr) {a b:Nat}
include har
theorem Qu6 (ha:a<2 ^ 32) (hb:b<2 ^ 32):ar .and .u32 (.ofNat a) (.ofNat b)=.ofNat (a&&&b):=by
 rw[har]
 show IntKind.u32.wrap (Int.ofNat (BitVec.ofInt 32 (Int.ofNat a)&&&BitVec.ofInt 32 (Int.ofNat b)).toNat)=_
 rw[Q2e,Q2e,BitVec.toNat_and,BitVec.toNat_ofNat,BitVec.toNat_ofNat,Nat.mod_eq_of_lt ha,Nat.mod_eq_of_lt hb]
 exact Qjk (Nat.lt_of_le_of_lt Nat.and_le_left ha)
theorem Qd9 (ha:a<2 ^ 32) (hb:b<2 ^ 32):ar .or .u32 (.ofNat a) (.ofNat b)=.ofNat (a|||b):=by
 rw[har]
 show IntKind.u32.wrap (Int.ofNat (BitVec.ofInt 32 (Int.ofNat a)|||BitVec.ofInt 32 (Int.ofNat b)).toNat)=_
 rw[Q2e,Q2e,BitVec.toNat_or,BitVec.toNat_ofNat,BitVec.toNat_ofNat,Nat.mod_eq_of_lt ha,Nat.mod_eq_of_lt hb]
 exact Qjk (Nat.or_lt_two_pow ha hb)
theorem Qkv (ha:a<2 ^ 32) (hb:b<2 ^ 32):∃c:Nat,ar .andNot .u32 (.ofNat a) (.ofNat b)=.ofNat c∧c<2 ^ 32∧∀l,c.testBit l=(a.testBit l&&!b.testBit l):=by
 refine ⟨(BitVec.ofNat 32 a&&& ~~~BitVec.ofNat 32 b).toNat,?_,BitVec.isLt _,fun l=>?_⟩
 · rw[har]
   show IntKind.u32.wrap (Int.ofNat (BitVec.ofInt 32 (Int.ofNat a)&&& ~~~BitVec.ofInt 32 (Int.ofNat b)).toNat)=_
   rw[Q2e,Q2e]
   exact Qjk (BitVec.isLt _)
 · rw[BitVec.testBit_toNat,BitVec.getLsbD_and,BitVec.getLsbD_not,BitVec.getLsbD_ofNat,BitVec.getLsbD_ofNat]
   by_cases g:l<32
   · simp[g]
   · have:a.testBit l=false:=Nat.testBit_lt_two_pow (Nat.lt_of_lt_of_le ha (Nat.pow_le_pow_right (by decide) (by omega)))
     simp[g,this]
theorem Qyz (hb:b<32):ar .shl .u32 1 (.ofNat b)=.ofNat (2 ^ b):=by
 rw[har]
 show IntKind.u32.wrap ((1:Int) * 2 ^ (min (Int.ofNat b).toNat 32))=_
 have e:min (Int.ofNat b).toNat 32=b:=by simp only[Int.ofNat_eq_natCast,Int.toNat_natCast];omega
 rw[e,Int.one_mul,show ((2:Int) ^ b)=Int.ofNat (2 ^ b) from by simp]
 exact Qjk (Nat.pow_lt_pow_right (by decide) hb)
theorem Qv6 (hb:b≤32):ar .shr .u32 (.ofNat a) (.ofNat b)=.ofNat (a / 2 ^ b):=by
 rw[har]
 show Int.fdiv (Int.ofNat a) ((2:Int) ^ (min (Int.ofNat b).toNat 32))=_
 have e:min (Int.ofNat b).toNat 32=b:=by simp only[Int.ofNat_eq_natCast,Int.toNat_natCast];omega
 rw[e,show ((2:Int) ^ b)=Int.ofNat (2 ^ b) from by simp]
 show Int.fdiv (a:Int) ((2 ^ b:Nat):Int)=((a / 2 ^ b:Nat):Int)
 rw[Int.fdiv_eq_ediv_of_nonneg _ (Int.natCast_nonneg _)]
 exact (Int.natCast_ediv a (2 ^ b)).symm
variable {n:Nat} (hn:n≤32) (S T:Nat→Bool)
include hn
theorem Q60:ar .or .u32 (.ofNat (mk S n)) (.ofNat (mk T n))=.ofNat (mk (fun l=>S l||T l) n):=by
 rw[Qd9 har (Q4x hn) (Q4x hn)]
 congr 1
 refine Nat.eq_of_testBit_eq fun l=>?_
 rw[Nat.testBit_or,Qze,Qze,Qze]
 cases decide (l<n)<;>simp
theorem Q5x:ar .andNot .u32 (.ofNat (mk S n)) (.ofNat (mk T n))=.ofNat (mk (fun l=>S l&&!T l) n):=by
 obtain ⟨c,h1,h2,h3⟩:=Qkv har (Q4x (S:=S) hn) (Q4x (S:=T) hn)
 rw[h1]
 congr 1
 refine Nat.eq_of_testBit_eq fun l=>?_
 rw[h3,Qze,Qze,Qze]
 cases decide (l<n)<;>simp
end
theorem Qz2 {b n:Nat} (h:b<n):2 ^ b=mk (fun l=>decide (l=b)) n:=by
 refine Nat.eq_of_testBit_eq fun l=>?_
 rw[Qze,Nat.testBit_two_pow]
 by_cases g:b=l
 · subst g;simp[h]
 · simp[g,Ne.symm g]
theorem Q6x {n:Nat}:0=mk (fun _=>false) n:=by
 refine Nat.eq_of_testBit_eq fun l=>?_
 rw[Qze];simp
theorem Qa8 {S:Nat→Bool} {n l:Nat}:(mk S n / 2 ^ l) % 2=if decide (l<n)&&S l then 1 else 0:=by
 have:=Qze S n l
 rw[Nat.testBit_eq_decide_div_mod_eq] at this
 by_cases h:mk S n / 2 ^ l % 2=1
 · rw[h];rw[decide_eq_true h] at this;rw[←this];rfl
 · rw[decide_eq_false h] at this;rw[←this];simp;omega
end
section
inductive Cl (Z:Nat→Prop) (R:Nat→Nat→Prop):Nat→Prop where
 | zero {n:Nat}:Z n→Cl Z R n
 | step {m n:Nat}:Cl Z R m→R m n→Cl Z R n
open Classical in
noncomputable def clB (Z:Nat→Prop) (R:Nat→Nat→Prop) (n:Nat):Bool:=decide (Cl Z R n)
theorem Qmb {Z:Nat→Prop} {R:Nat→Nat→Prop} {n:Nat}:clB Z R n=true↔Cl Z R n:=by unfold clB;simp
theorem Qdaa {Z:Nat→Prop} {R:Nat→Nat→Prop} {S:Nat→Bool} (hs:∀n,S n=true→Cl Z R n) (hz:∀n,Z n→S n=true) (hc:∀m n,S m=true→R m n→S n=true) (n:Nat):S n=clB Z R n:=by
 have key:Cl Z R n→S n=true:=fun h=>by
  induction h with
  | zero h=>exact hz _ h
  | step _ h ih=>exact hc _ _ ih h
 have h2:=Qmb (Z:=Z) (R:=R) (n:=n)
 cases h:S n<;>cases g:clB Z R n
 · rfl
 · rw[key (h2.1 g)] at h;cases h
 · rw[h2.2 (hs n h)] at g;cases g
 · rfl
theorem Qh7 {Z:Nat→Prop} {R:Nat→Nat→Prop} {S:Nat→Bool} {N:Nat} (hZ:∀n,Z n→n<N) (hR:∀m n,R m n→n<N) (hs:∀n,n<N→S n=true→Cl Z R n) (hz:∀n,n<N→Z n→S n=true) (hc:∀m n,m<N→n<N→S m=true→R m n→S n=true) {n:Nat} (hn:n<N):S n=clB Z R n:=by
 have e:=Qdaa (Z:=Z) (R:=R) (S:=fun n=>decide (n<N)&&S n) (fun n h=>by
  simp only[Bool.and_eq_true,decide_eq_true_eq] at h;exact hs n h.1 h.2) (fun n h=>by
  simp only[Bool.and_eq_true,decide_eq_true_eq];exact ⟨hZ n h,hz n (hZ n h) h⟩) (fun m n h r=>by
  simp only[Bool.and_eq_true,decide_eq_true_eq] at h⊢;exact ⟨hR m n r,hc m n h.1 (hR m n r) h.2 r⟩) n
 rw[←e];simp[hn]
structure FlowG where
 ln:Nat
 N:Nat
 sc:Nat→List Nat
 gS:Nat→Nat→Bool
 uS:Nat→Nat→Bool
 i0:Nat→Bool
namespace FlowG
variable (G:FlowG)
def be (m:Nat) (S:Nat→Bool) (l:Nat):Bool:=G.gS m l||(S l&&!G.uS m l)
def Z (l n:Nat):Prop:=(n=0∧G.i0 l=false)∨∃m,ReachG G.sc m∧G.gS m l=false∧G.uS m l=true∧n∈G.sc m
def R (l m n:Nat):Prop:=ReachG G.sc m∧G.gS m l=false∧n∈G.sc m
noncomputable def unB (l n:Nat):Bool:=clB (G.Z l) (G.R l) n
abbrev FS:=(Nat→Nat→Bool)×(Nat→Bool)×List Nat
def sameB (O:Nat→Nat→Bool) (M:Nat→Bool) (n:Nat):Bool:=Qed G.ln fun l=>decide ((O n l&&M l)=O n l)
def relax (M:Nat→Bool) (x:FS) (n:Nat):FS:=if (sameB G x.1 M n&&x.2.1 n)=true then x else (fun j l=>if j=n then x.1 n l&&M l else x.1 j l,fun j=>if j=n then true else x.2.1 j,x.2.2++[n])
def cnt (S:Nat→Bool):Nat→Nat
 | 0=>0
 | n+1=>cnt S n+if S n=true then 1 else 0
theorem cnt_le (S:Nat→Bool):∀n,cnt S n≤n
 | 0=>Nat.le_refl _
 | n+1=>by have:=cnt_le S n;simp only[cnt];split<;>omega
theorem cnt_mono {S T:Nat→Bool} (h:∀l,S l=true→T l=true):∀n,cnt S n≤cnt T n
 | 0=>Nat.le_refl _
 | n+1=>by
   have:=cnt_mono h n
   simp only[cnt]
   by_cases g:S n=true
   · rw[if_pos g,if_pos (h n g)];omega
   · rw[if_neg g];omega
theorem cnt_lt {S T:Nat→Bool} (h:∀l,S l=true→T l=true) {k:Nat} (h1:S k=false) (h2:T k=true):∀n,k<n→cnt S n<cnt T n
 | n+1,hk=>by
   simp only[cnt]
   by_cases g:k=n
   · subst g
     have:=cnt_mono h k
     rw[h1,h2];simp;omega
   · have:=cnt_lt h h1 h2 n (by omega)
     by_cases g:S n=true
     · rw[if_pos g,if_pos (h n g)];omega
     · rw[if_neg g];omega
def left (O:Nat→Nat→Bool) (V:Nat→Bool):Nat→Nat
 | 0=>0
 | n+1=>left O V n+cnt (O n) G.ln+if V n=true then 0 else 1
theorem left_le (O:Nat→Nat→Bool) (V:Nat→Bool):∀n,left G O V n≤n * (G.ln+1)
 | 0=>by simp[left]
 | n+1=>by
   have:=left_le O V n
   have:=cnt_le (O n) G.ln
   simp only[left,Nat.succ_mul];split<;>omega
theorem left_eq {O O':Nat→Nat→Bool} {V V':Nat→Bool}:∀n,(∀j,j<n→O j=O' j∧V j=V' j)→left G O V n=left G O' V' n
 | 0,_=>rfl
 | n+1,h=>by
   simp only[left,left_eq n (fun j hj=>h j (by omega)),(h n (by omega)).1,(h n (by omega)).2]
theorem left_relax {M:Nat→Bool} {x:FS} {n:Nat} (h:(sameB G x.1 M n&&x.2.1 n)=false):∀m,n<m→left G (relax G M x n).1 (relax G M x n).2.1 m<left G x.1 x.2.1 m:=by
 have hr:relax G M x n=(fun j l=>if j=n then x.1 n l&&M l else x.1 j l,fun j=>if j=n then true else x.2.1 j,x.2.2++[n]):=by unfold relax;rw[if_neg (by simp[h])]
 rw[hr]
 intro m
 induction m with
 | zero=>intro h;omega
 | succ m ih=>
   intro hnm
   simp only[left]
   by_cases g:n=m
   · subst g
     rw[left_eq G (O':=x.1) (V':=x.2.1) n (fun j hj=>⟨funext fun l=>by rw[if_neg (by omega)],by rw[if_neg (by omega)]⟩)]
     simp only[if_true]
     have hm:=cnt_mono (S:=fun l=>x.1 n l&&M l) (T:=x.1 n) (fun l hl=>by simp only[Bool.and_eq_true] at hl;exact hl.1) G.ln
     by_cases v:x.2.1 n=true
     · rw[v,Bool.and_true] at h
       have:∃k,k<G.ln∧(x.1 n k&&M k)≠x.1 n k:=by
        refine Classical.byContradiction fun hh=>?_
        rw[show sameB G x.1 M n=true from Qla.2 fun k hk=>decide_eq_true (Classical.byContradiction fun h3=>hh ⟨k,hk,h3⟩)] at h
        cases h
       obtain ⟨k,hk,h3⟩:=this
       have h4:(x.1 n k&&M k)=false∧x.1 n k=true:=by
        cases h5:x.1 n k<;>cases h6:M k<;>simp_all
       have:=cnt_lt (S:=fun l=>x.1 n l&&M l) (T:=x.1 n) (fun l hl=>by simp only[Bool.and_eq_true] at hl;exact hl.1) h4.1 h4.2 G.ln hk
       rw[if_pos v];omega
     · rw[if_neg v];omega
   · have:=ih (by omega)
     rw[show (fun l=>if m=n then x.1 n l&&M l else x.1 m l)=x.1 m from funext fun l=>by rw[if_neg (by omega)]]
     have gm:¬m=n:=by omega
     simp only[if_neg gm]
     simp only at this
     omega
structure RelOk (M:Nat→Bool) (L:List Nat) (x y:FS):Prop where
 up:∀b,x.2.1 b=true→y.2.1 b=true
 dn:∀n l,x.1 n l=false→y.1 n l=false
 all:∀n∈L,y.2.1 n=true∧∀l,l<G.ln→M l=false→y.1 n l=false
 old:∀b,y.2.1 b=true→x.2.1 b=true∨b∈L
 chg:∀b,y.2.1 b=true→(x.2.1 b=true∧∀l,l<G.ln→y.1 b l=x.1 b l)∨b∈y.2.2
 sub:∀b∈x.2.2,b∈y.2.2
 new:∀b∈y.2.2,b∈x.2.2∨b∈L
 snd:∀n l,l<G.ln→y.1 n l=false→x.1 n l=false∨(n∈L∧M l=false)
 m:(∀n∈L,n<G.N)→left G y.1 y.2.1 G.N+y.2.2.length≤left G x.1 x.2.1 G.N+x.2.2.length
theorem relax_one (M:Nat→Bool) (x:FS) (n:Nat):RelOk G M [n] x (relax G M x n):=by
 by_cases h:(sameB G x.1 M n&&x.2.1 n)=true
 · have e:relax G M x n=x:=by unfold relax;rw[if_pos h]
   rw[e]
   simp only[Bool.and_eq_true] at h
   refine ⟨fun _ h=>h,fun _ _ h=>h,fun k hk=>?_,fun _ h=>.inl h,fun b hb=>.inl ⟨hb,fun _ _=>rfl⟩,fun _ h=>h,fun _ h=>.inl h,fun _ _ _ h=>.inl h,fun _=>Nat.le_refl _⟩
   obtain rfl:=List.mem_singleton.1 hk
   refine ⟨h.2,fun l hl hM=>?_⟩
   have:=of_decide_eq_true (Qla.1 h.1 l hl)
   rw[hM,Bool.and_false] at this;exact this.symm
 · have hf:(sameB G x.1 M n&&x.2.1 n)=false:=by simpa using h
   have hl:=left_relax G hf
   have e:relax G M x n=(fun j l=>if j=n then x.1 n l&&M l else x.1 j l,fun j=>if j=n then true else x.2.1 j,x.2.2++[n]):=by unfold relax;rw[if_neg h]
   rw[e] at hl⊢
   refine ⟨fun b hb=>?_,fun k l hk=>?_,fun k hk=>?_,fun b hb=>?_,fun b hb=>?_,fun b hb=>by simp[hb],fun b hb=>?_,fun k l hl' hk=>?_,fun hN=>?_⟩
   · simp only;split
     · rfl
     · exact hb
   · simp only;split
     · rename_i g;subst g;rw[hk];rfl
     · exact hk
   · obtain rfl:=List.mem_singleton.1 hk
     simp only[if_true]
     exact ⟨trivial,fun l _ hM=>by rw[hM];simp⟩
   · simp only at hb
     split at hb
     · rename_i g;subst g;exact .inr (by simp)
     · exact .inl hb
   · simp only at hb⊢
     split at hb
     · rename_i g;subst g;exact .inr (by simp)
     · rename_i g;exact .inl ⟨hb,fun l _=>by rw[if_neg g]⟩
   · simp only[List.mem_append,List.mem_singleton] at hb
     rcases hb with hb|rfl
     · exact .inl hb
     · exact .inr (by simp)
   · simp only at hk
     split at hk
     · rename_i g
       subst g
       rw[Bool.and_eq_false_iff] at hk
       rcases hk with hk|hk
       · exact .inl hk
       · exact .inr ⟨by simp,hk⟩
     · exact .inl hk
   · have:=hl G.N (hN n (by simp))
     simp only[List.length_append,List.length_cons,List.length_nil] at this⊢
     omega
theorem RelOk.trans {M:Nat→Bool} {L L':List Nat} {x y z:FS} (h1:RelOk G M L x y) (h2:RelOk G M L' y z):RelOk G M (L++L') x z:=by
 refine ⟨fun b h=>h2.up b (h1.up b h),fun n l h=>h2.dn n l (h1.dn n l h),fun n hn=>?_,fun b hb=>?_,fun b hb=>?_,fun b h=>h2.sub b (h1.sub b h),fun b hb=>?_,fun n l hl h=>?_,fun hN=>?_⟩
 · rcases List.mem_append.1 hn with hn|hn
   · exact ⟨h2.up n (h1.all n hn).1,fun l hl hM=>h2.dn n l ((h1.all n hn).2 l hl hM)⟩
   · exact h2.all n hn
 · rcases h2.old b hb with h|h
   · rcases h1.old b h with h|h
     · exact .inl h
     · exact .inr (List.mem_append_left _ h)
   · exact .inr (List.mem_append_right _ h)
 · rcases h2.chg b hb with ⟨h,g⟩|h
   · rcases h1.chg b h with ⟨h',g'⟩|h'
     · exact .inl ⟨h',fun l hl=>(g l hl).trans (g' l hl)⟩
     · exact .inr (h2.sub b h')
   · exact .inr h
 · rcases h2.new b hb with h|h
   · rcases h1.new b h with h|h
     · exact .inl h
     · exact .inr (List.mem_append_left _ h)
   · exact .inr (List.mem_append_right _ h)
 · rcases h2.snd n l hl h with h|⟨h,g⟩
   · rcases h1.snd n l hl h with h|⟨h,g⟩
     · exact .inl h
     · exact .inr ⟨List.mem_append_left _ h,g⟩
   · exact .inr ⟨List.mem_append_right _ h,g⟩
 · exact Nat.le_trans (h2.m fun n hn=>hN n (List.mem_append_right _ hn)) (h1.m fun n hn=>hN n (List.mem_append_left _ hn))
theorem RelOk.nil (M:Nat→Bool) (x:FS):RelOk G M [] x x:=⟨fun _ h=>h,fun _ _ h=>h,fun _ h=>by simp at h,fun _ h=>.inl h,fun b hb=>.inl ⟨hb,fun _ _=>rfl⟩,fun _ h=>h,fun _ h=>.inl h,fun _ _ _ h=>.inl h,fun _=>Nat.le_refl _⟩
theorem relax_all (M:Nat→Bool):∀(L:List Nat) (x:FS),RelOk G M L x (L.foldl (relax G M) x)
 | [],x=>.nil G M x
 | n::L,x=>by
   rw[List.foldl_cons,show n::L=[n]++L from rfl]
   exact (relax_one G M x n).trans G (relax_all M L _)
structure Inv (x:FS):Prop where
 z:x.2.1 0=true
 r:∀b,x.2.1 b=true→ReachG G.sc b∧b<G.N
 t:∀b∈x.2.2,x.2.1 b=true
 snd:∀n l,l<G.ln→x.1 n l=false→n<G.N→Cl (G.Z l) (G.R l) n
 s0:∀l,l<G.ln→G.i0 l=false→x.1 0 l=false
 c:∀b,x.2.1 b=true→b∈x.2.2∨∀n∈G.sc b,x.2.1 n=true∧∀l,l<G.ln→G.be b (x.1 b) l=false→x.1 n l=false
 m:left G x.1 x.2.1 G.N+x.2.2.length≤G.N * (G.ln+1)+1
variable {G}
def fst (G:FlowG):FS:=(fun n l=>if n=0 then G.i0 l else true,fun n=>decide (n=0),[0])
theorem inv_first (hN:0<G.N):Inv G (fst G):=by
 refine ⟨by simp[fst],fun b hb=>?_,fun b hb=>by simpa [fst] using hb,fun n l hl h hn=>?_,fun l _ h=>by simpa [fst] using h,fun b hb=>?_,?_⟩
 · have:b=0:=of_decide_eq_true hb
   subst this;exact ⟨.zero,hN⟩
 · simp only[fst] at h
   split at h
   · rename_i g;subst g;exact .zero (.inl ⟨rfl,h⟩)
   · cases h
 · have:b=0:=of_decide_eq_true hb
   subst this;exact .inl (by simp[fst])
 · have:=left_le G (fst G).1 (fst G).2.1 G.N
   simp only[fst,List.length_cons,List.length_nil] at this⊢
   omega
theorem inv_step {O:Nat→Nat→Bool} {V:Nat→Bool} {b:Nat} {T:List Nat} (h:Inv G (O,V,b::T)) (hl:∀n∈G.sc b,n<G.N):
 Inv G ((G.sc b).foldl (relax G (G.be b (O b))) (O,V,T))∧left G ((G.sc b).foldl (relax G (G.be b (O b))) (O,V,T)).1 ((G.sc b).foldl (relax G (G.be b (O b))) (O,V,T)).2.1 G.N+((G.sc b).foldl (relax G (G.be b (O b))) (O,V,T)).2.2.length<left G O V G.N+(b::T).length:=by
 have hv:=relax_all G (G.be b (O b)) (G.sc b) (O,V,T)
 generalize (G.sc b).foldl (relax G (G.be b (O b))) (O,V,T)=y at hv
 have hVb:V b=true:=h.t b List.mem_cons_self
 have hRb:=h.r b hVb
 have hm:=hv.m hl
 have hm0:=h.m
 simp only[List.length_cons] at hm0 hm⊢
 refine ⟨⟨hv.up 0 h.z,fun n hn=>?_,fun n hn=>?_,fun n l hl' hn hN=>?_,fun l hl' h0=>hv.dn 0 l (h.s0 l hl' h0),fun n hn=>?_,by omega⟩,by omega⟩
 · rcases hv.old n hn with g|g
   · exact h.r n g
   · exact ⟨.step hRb.1 g,hl n g⟩
 · rcases hv.new n hn with g|g
   · exact hv.up n (h.t n (List.mem_cons_of_mem _ g))
   · exact (hv.all n g).1
 · rcases hv.snd n l hl' hn with g|⟨g,gM⟩
   · exact h.snd n l hl' g hN
   · simp only[be,Bool.or_eq_false_iff,Bool.and_eq_false_iff,Bool.not_eq_false'] at gM
     rcases gM.2 with h2|h2
     · exact .step (h.snd b l hl' h2 hRb.2) ⟨hRb.1,gM.1,g⟩
     · exact .zero (.inr ⟨b,hRb.1,gM.1,h2,g⟩)
 · rcases hv.chg n hn with ⟨g1,g2⟩|g
   · have be_eq:∀l,l<G.ln→G.be n (y.1 n) l=G.be n (O n) l:=fun l hl'=>by simp only[be,g2 l hl']
     by_cases e:n=b
     · subst e
       refine .inr fun k hk=>⟨(hv.all k hk).1,fun l hl' hb=>(hv.all k hk).2 l hl' ?_⟩
       rw[←be_eq l hl'];exact hb
     · rcases h.c n g1 with g|g
       · rcases List.mem_cons.1 g with g|g
         · exact absurd g e
         · exact .inl (hv.sub n g)
       · refine .inr fun k hk=>⟨hv.up k (g k hk).1,fun l hl' hb=>hv.dn k l ((g k hk).2 l hl' ?_)⟩
         rw[←be_eq l hl'];exact hb
   · exact .inl g
theorem inv_end {O : Nat → Nat → Bool} {V : Nat → Bool} (h : Inv G (O, V, [])) {n l : Nat} (hn : n < G.N) (hl : l < G.ln) : O n l = !G.unB l n := by
  have hV : ∀ b, ReachG G.sc b → V b = true := fun b hb => by
    induction hb with
    | zero => exact h.z
    | step _ hn ih => rcases h.c _ ih with g | g
                      · simp at g
                      · exact (g _ hn).1
  have hC : ∀ b, V b = true → ∀ n ∈ G.sc b, ∀ l, l < G.ln → G.be b (O b) l = false → O n l = false := fun b hb n hn l hl hh => by
    rcases h.c b hb with g | g
    · simp at g
    · exact (g n hn).2 l hl hh
  have key : ∀ n, Cl (G.Z l) (G.R l) n → O n l = false := fun n hn => by
    induction hn with
    | zero hz =>
      rcases hz with ⟨rfl, h0⟩ | ⟨m, h1, h2, h3, h4⟩
      · exact h.s0 l hl h0
      · exact hC m (hV m h1) _ h4 l hl (by simp [be, h2, h3])
    | step _ hr ih => exact hC _ (hV _ hr.1) _ hr.2.2 l hl (by simp [be, hr.2.1, ih])
  have h2 := Qmb (Z := G.Z l) (R := G.R l) (n := n)
  unfold unB
  cases g : O n l <;> cases g2 : clB (G.Z l) (G.R l) n
  · rw [h2.2 (h.snd n l hl g hn)] at g2; cases g2
  · rfl
  · rfl
  · rw [key n (h2.1 g2)] at g; cases g
end FlowG
end
end Go.Proofs.YtamcjkgedgocfaaGreat
