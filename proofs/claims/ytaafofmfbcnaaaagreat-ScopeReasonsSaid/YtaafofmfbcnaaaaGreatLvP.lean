/- LivelyUses: what a point uses and sets, and what is live there. No condition. -/
import Derived.Test.YtaafofmfbcnaaaaGreatV6
import Derived.Test.YtaafofmfbcnaaaaGreatN6
namespace Go.Proofs.YtaafofmfbcnaaaaGreat
open Go.RowKit
set_option linter.unusedVariables false
set_option linter.unusedSimpArgs false
theorem bit_is {ar:BinOp→IntKind→Int→Int→Int} (har:ar=rAr) {S:Nat→Bool} {n l:Nat} (hn:n≤32) (hl:l<n):ar .and .u32 (ar .shr .u32 (.ofNat (mk S n)) (.ofNat l)) 1=if S l=true then 1 else 0:=by
 rw[u32_shr har (by omega)]
 have h1:mk S n / 2 ^ l<2 ^ 32:=Nat.lt_of_le_of_lt (Nat.div_le_self _ _) (mk_32 hn)
 have:=u32_and har (a:=mk S n / 2 ^ l) (b:=1) h1 (by decide)
 refine this.trans ?_
 rw[Nat.and_one_is_mod,mk_odd,decide_eq_true hl]
 cases S l<;>rfl
theorem um_jump {F:GFun} (hO:F.Ok) {a:Nat} (ha:a<stN F.sn F.bn) (hi:¬piN F a<F.sn (pbN F a)) (hk:F.jk (pbN F a)=1∨F.jk (pbN F a)=3∨F.jk (pbN F a)=5):umN F a=(if F.jk (pbN F a)=3 then 1 else 0)∧smN F a= -1:=by
 have hb:=(num_pt ha).1
 have hok:=hO.okJ hb
 have hl:=hO.lpos
 unfold umN smN
 generalize pbN F a=b at hi hk hb hok⊢
 have hj:F.jn b=0∧wholeP (F.jd b)=true:=by
  simp only[GJump.ok,GJump.bare,GPlace.eqB,GPlace.zero,GFun.jump,Bool.or_eq_true,Bool.and_eq_true,beq_iff_eq,decide_eq_true_eq] at hok
  have hl:=argL_len (F.jn b) (F.ja b)
  have hn:(argL (F.jn b) (F.ja b)).isEmpty=true:=by grind
  have hd:(F.jd b).d=false∧(F.jd b).f=0:=by grind
  rw[List.isEmpty_iff] at hn
  rw[hn] at hl
  exact ⟨by simpa using hl.symm,by simp[wholeP,hd.1,hd.2]⟩
 have htd:tdS F b=fun _=>false:=by
  unfold tdS;rw[if_neg (by omega),hj.1];rfl
 refine ⟨?_,?_⟩
 · have:uB F b (piN F a)=fun l=>decide (l<16)&&(if F.jk b=3 then turn (fun _=>false) 0 true else fun _=>false) l:=by
    funext l;rw[uB_is];unfold usC;rw[if_neg hi];unfold jmS;rw[hj.2,htd];simp
   rw[this]
   by_cases h3:F.jk b=3
   · simp only[if_pos h3]
     have e:(fun l=>decide (l<16)&&turn (fun _=>false) 0 true l)=fun l=>decide (l=0):=by
      funext l;unfold turn
      by_cases h:l=0
      · subst h;rfl
      · rw[if_neg h,decide_eq_false h];simp
     rw[e,←mk_one hl]
   · simp only[if_neg h3,Bool.and_false]
     exact mk_none.symm
 · unfold sI;rw[if_neg hi,if_neg (by omega)]
end Go.Proofs.YtaafofmfbcnaaaaGreat
