/- Masks: sets of numbers below 32 as numbers. No condition. -/
import Derived.Test.YtaafofmfbcnaaaaGreatM2
namespace Go.Proofs.YtaafofmfbcnaaaaGreat
open Go.RowKit
set_option linter.unusedVariables false
set_option linter.unusedSimpArgs false
def mk (S:Nat→Bool):Nat→Nat
 | 0=>0
 | n+1=>mk S n+if S n=true then 2 ^ n else 0
theorem mk_lt (S:Nat→Bool):∀n,mk S n<2 ^ n
 | 0=>by simp[mk]
 | n+1=>by have:=mk_lt S n;simp only[mk,Nat.pow_succ];split<;>omega
theorem mk_bit (S:Nat→Bool):∀n l,(mk S n).testBit l=(decide (l<n)&&S l)
 | 0,l=>by simp[mk]
 | n+1,l=>by
   have ih:=mk_bit S n
   have hlt:=mk_lt S n
   simp only[mk]
   by_cases h:S n=true
   · have e2:=Nat.two_pow_add_eq_or_of_lt hlt 1
     rw[Nat.mul_one] at e2
     rw[if_pos h,Nat.add_comm,e2,Nat.testBit_or,ih,Nat.testBit_two_pow]
     by_cases g:n=l
     · subst g;simp[h]
     · have e:decide (l<n+1)=decide (l<n):=by
        rw[Bool.eq_iff_iff];simp only[decide_eq_true_eq];omega
       rw[e];simp[g]
   · rw[if_neg h,Nat.add_zero,ih]
     by_cases g:n=l
     · subst g;simp[h]
     · have e:decide (l<n+1)=decide (l<n):=by
        rw[Bool.eq_iff_iff];simp only[decide_eq_true_eq];omega
       rw[e]
theorem mk_ext {S T:Nat→Bool} {n:Nat} (h:∀l,l<n→S l=T l):mk S n=mk T n:=by
 refine Nat.eq_of_testBit_eq fun l=>?_
 rw[mk_bit,mk_bit]
 by_cases g:l<n
 · rw[h l g]
 · simp[g]
theorem mk_inj {S T:Nat→Bool} {n:Nat} (h:mk S n=mk T n) {l:Nat} (hl:l<n):S l=T l:=by
 have:=congrArg (fun x=>x.testBit l) h
 simpa [mk_bit,hl] using this
theorem mk_32 {S:Nat→Bool} {n:Nat} (hn:n≤32):mk S n<2 ^ 32:=Nat.lt_of_lt_of_le (mk_lt S n) (Nat.pow_le_pow_right (by decide) hn)
theorem ofInt_nat (a:Nat):BitVec.ofInt 32 (Int.ofNat a)=BitVec.ofNat 32 a:=by simp[Int.ofNat_eq_natCast]
theorem u32_wrap {a:Nat} (h:a<2 ^ 32):IntKind.u32.wrap (Int.ofNat a)=Int.ofNat a:=by
 show _=(a:Int)
 have e:IntKind.u32.wrap (Int.ofNat a)=(a:Int) % (2 ^ 32:Int):=by
  simp[IntKind.wrap,IntKind.bits,IntKind.signed]
 rw[e];omega
section
variable {ar:BinOp→IntKind→Int→Int→Int} (har:ar=rAr) {a b:Nat}
include har
theorem u32_and (ha:a<2 ^ 32) (hb:b<2 ^ 32):ar .and .u32 (.ofNat a) (.ofNat b)=.ofNat (a&&&b):=by
 rw[har]
 show IntKind.u32.wrap (Int.ofNat (BitVec.ofInt 32 (Int.ofNat a)&&&BitVec.ofInt 32 (Int.ofNat b)).toNat)=_
 rw[ofInt_nat,ofInt_nat,BitVec.toNat_and,BitVec.toNat_ofNat,BitVec.toNat_ofNat,Nat.mod_eq_of_lt ha,Nat.mod_eq_of_lt hb]
 exact u32_wrap (Nat.lt_of_le_of_lt Nat.and_le_left ha)
theorem u32_or (ha:a<2 ^ 32) (hb:b<2 ^ 32):ar .or .u32 (.ofNat a) (.ofNat b)=.ofNat (a|||b):=by
 rw[har]
 show IntKind.u32.wrap (Int.ofNat (BitVec.ofInt 32 (Int.ofNat a)|||BitVec.ofInt 32 (Int.ofNat b)).toNat)=_
 rw[ofInt_nat,ofInt_nat,BitVec.toNat_or,BitVec.toNat_ofNat,BitVec.toNat_ofNat,Nat.mod_eq_of_lt ha,Nat.mod_eq_of_lt hb]
 exact u32_wrap (Nat.or_lt_two_pow ha hb)
theorem u32_xor (ha:a<2 ^ 32) (hb:b<2 ^ 32):ar .xor .u32 (.ofNat a) (.ofNat b)=.ofNat (a ^^^ b):=by
 rw[har]
 show IntKind.u32.wrap (Int.ofNat (BitVec.ofInt 32 (Int.ofNat a) ^^^ BitVec.ofInt 32 (Int.ofNat b)).toNat)=_
 rw[ofInt_nat,ofInt_nat,BitVec.toNat_xor,BitVec.toNat_ofNat,BitVec.toNat_ofNat,Nat.mod_eq_of_lt ha,Nat.mod_eq_of_lt hb]
 exact u32_wrap (Nat.xor_lt_two_pow ha hb)
theorem u32_andNot (ha:a<2 ^ 32) (hb:b<2 ^ 32):∃c:Nat,ar .andNot .u32 (.ofNat a) (.ofNat b)=.ofNat c∧c<2 ^ 32∧∀l,c.testBit l=(a.testBit l&&!b.testBit l):=by
 refine ⟨(BitVec.ofNat 32 a&&& ~~~BitVec.ofNat 32 b).toNat,?_,BitVec.isLt _,fun l=>?_⟩
 · rw[har]
   show IntKind.u32.wrap (Int.ofNat (BitVec.ofInt 32 (Int.ofNat a)&&& ~~~BitVec.ofInt 32 (Int.ofNat b)).toNat)=_
   rw[ofInt_nat,ofInt_nat]
   exact u32_wrap (BitVec.isLt _)
 · rw[BitVec.testBit_toNat,BitVec.getLsbD_and,BitVec.getLsbD_not,BitVec.getLsbD_ofNat,BitVec.getLsbD_ofNat]
   by_cases g:l<32
   · simp[g]
   · have:a.testBit l=false:=Nat.testBit_lt_two_pow (Nat.lt_of_lt_of_le ha (Nat.pow_le_pow_right (by decide) (by omega)))
     simp[g,this]
theorem u32_shl (hb:b<32):ar .shl .u32 1 (.ofNat b)=.ofNat (2 ^ b):=by
 rw[har]
 show IntKind.u32.wrap ((1:Int) * 2 ^ (min (Int.ofNat b).toNat 32))=_
 have e:min (Int.ofNat b).toNat 32=b:=by simp only[Int.ofNat_eq_natCast,Int.toNat_natCast];omega
 rw[e,Int.one_mul,show ((2:Int) ^ b)=Int.ofNat (2 ^ b) from by simp]
 exact u32_wrap (Nat.pow_lt_pow_right (by decide) hb)
theorem u32_shlN (hb:b≤32) (h:a * 2 ^ b<2 ^ 32):ar .shl .u32 (.ofNat a) (.ofNat b)=.ofNat (a * 2 ^ b):=by
 rw[har]
 show IntKind.u32.wrap ((a:Int) * 2 ^ (min (Int.ofNat b).toNat 32))=_
 have e:min (Int.ofNat b).toNat 32=b:=by simp only[Int.ofNat_eq_natCast,Int.toNat_natCast];omega
 rw[e,show ((a:Int) * (2:Int) ^ b)=Int.ofNat (a * 2 ^ b) from by simp]
 exact u32_wrap h
theorem u32_shr (hb:b≤32):ar .shr .u32 (.ofNat a) (.ofNat b)=.ofNat (a / 2 ^ b):=by
 rw[har]
 show Int.fdiv (Int.ofNat a) ((2:Int) ^ (min (Int.ofNat b).toNat 32))=_
 have e:min (Int.ofNat b).toNat 32=b:=by simp only[Int.ofNat_eq_natCast,Int.toNat_natCast];omega
 rw[e,show ((2:Int) ^ b)=Int.ofNat (2 ^ b) from by simp]
 show Int.fdiv (a:Int) ((2 ^ b:Nat):Int)=((a / 2 ^ b:Nat):Int)
 rw[Int.fdiv_eq_ediv_of_nonneg _ (Int.natCast_nonneg _)]
 exact (Int.natCast_ediv a (2 ^ b)).symm
theorem u32_add (h:a+b<2 ^ 32):ar .add .u32 (.ofNat a) (.ofNat b)=.ofNat (a+b):=by
 rw[har]
 show IntKind.u32.wrap ((a:Int)+(b:Int))=_
 rw[show ((a:Int)+(b:Int))=Int.ofNat (a+b) from by simp]
 exact u32_wrap h
theorem u32_sub (h:b≤a) (ha:a<2 ^ 32):ar .sub .u32 (.ofNat a) (.ofNat b)=.ofNat (a - b):=by
 rw[har]
 show IntKind.u32.wrap ((a:Int) - (b:Int))=_
 rw[show ((a:Int) - (b:Int))=Int.ofNat (a - b) from by simp only[Int.ofNat_eq_natCast];omega]
 exact u32_wrap (by omega)
variable {n:Nat} (hn:n≤32) (S T:Nat→Bool)
include hn
theorem mk_and:ar .and .u32 (.ofNat (mk S n)) (.ofNat (mk T n))=.ofNat (mk (fun l=>S l&&T l) n):=by
 rw[u32_and har (mk_32 hn) (mk_32 hn)]
 congr 1
 refine Nat.eq_of_testBit_eq fun l=>?_
 rw[Nat.testBit_and,mk_bit,mk_bit,mk_bit]
 cases decide (l<n)<;>simp
theorem mk_or:ar .or .u32 (.ofNat (mk S n)) (.ofNat (mk T n))=.ofNat (mk (fun l=>S l||T l) n):=by
 rw[u32_or har (mk_32 hn) (mk_32 hn)]
 congr 1
 refine Nat.eq_of_testBit_eq fun l=>?_
 rw[Nat.testBit_or,mk_bit,mk_bit,mk_bit]
 cases decide (l<n)<;>simp
theorem mk_andNot:ar .andNot .u32 (.ofNat (mk S n)) (.ofNat (mk T n))=.ofNat (mk (fun l=>S l&&!T l) n):=by
 obtain ⟨c,h1,h2,h3⟩:=u32_andNot har (mk_32 (S:=S) hn) (mk_32 (S:=T) hn)
 rw[h1]
 congr 1
 refine Nat.eq_of_testBit_eq fun l=>?_
 rw[h3,mk_bit,mk_bit,mk_bit]
 cases decide (l<n)<;>simp
end
theorem mk_one {b n:Nat} (h:b<n):2 ^ b=mk (fun l=>decide (l=b)) n:=by
 refine Nat.eq_of_testBit_eq fun l=>?_
 rw[mk_bit,Nat.testBit_two_pow]
 by_cases g:b=l
 · subst g;simp[h]
 · simp[g,Ne.symm g]
theorem mk_none {n:Nat}:0=mk (fun _=>false) n:=by
 refine Nat.eq_of_testBit_eq fun l=>?_
 rw[mk_bit];simp
theorem mk_zero {S:Nat→Bool} {n:Nat} (h:mk S n=0) {l:Nat} (hl:l<n):S l=false:=by
 have:=mk_inj (h.trans (mk_none (n:=n))) hl
 exact this
theorem mk_all {n:Nat}:2 ^ n - 1=mk (fun _=>true) n:=by
 refine Nat.eq_of_testBit_eq fun l=>?_
 rw[mk_bit,Nat.testBit_two_pow_sub_one];simp
theorem mk_odd {S:Nat→Bool} {n l:Nat}:(mk S n / 2 ^ l) % 2=if decide (l<n)&&S l then 1 else 0:=by
 have:=mk_bit S n l
 rw[Nat.testBit_eq_decide_div_mod_eq] at this
 by_cases h:mk S n / 2 ^ l % 2=1
 · rw[h];rw[decide_eq_true h] at this;rw[←this];rfl
 · rw[decide_eq_false h] at this;rw[←this];simp;omega
end Go.Proofs.YtaafofmfbcnaaaaGreat
