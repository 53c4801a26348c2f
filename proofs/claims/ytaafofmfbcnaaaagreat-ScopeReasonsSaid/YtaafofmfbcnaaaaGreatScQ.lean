/- Layer 22: where loans are in scope, point by point: the plain law of ScopeReasons. No condition. -/
import Derived.Test.YtaafofmfbcnaaaaGreatC2
namespace Go.Proofs.YtaafofmfbcnaaaaGreat
open Go.RowKit
set_option linter.unusedVariables false
set_option linter.unusedSimpArgs false
def rwJ (rg:Nat→Bool) (sq:Nat→Nat) (W:Nat→Bool):Nat→Nat→Bool
 | 0=>W
 | i+1=>if rg (sq i)=true then turn (rwJ rg sq W i) (sq i) true else rwJ rg sq W i
def ruJ (rg:Nat→Bool) (sq:Nat→Nat) (use:Bool) (U:Nat→Bool):Nat→Nat→Bool
 | 0=>U
 | i+1=>if rg (sq i)=true then turn (ruJ rg sq use U i) (sq i) (ruJ rg sq use U i (sq i)||use) else ruJ rg sq use U i
def rwN (cd rg:Nat→Bool) (sq:Nat→Nat→Nat) (sl:Nat→Nat):Nat→Nat→Bool
 | 0=>fun _=>false
 | n+1=>if cd n=true then rwJ rg (sq n) (rwN cd rg sq sl n) (sl n) else rwN cd rg sq sl n
def ruN (cd rg:Nat→Bool) (sq:Nat→Nat→Nat) (sl:Nat→Nat) (us:Nat→Bool):Nat→Nat→Bool
 | 0=>fun _=>false
 | n+1=>if cd n=true then ruJ rg (sq n) (us n) (ruN cd rg sq sl us n) (sl n) else ruN cd rg sq sl us n
theorem turn_is {S:Nat→Bool} {m j:Nat} {x:Bool}:turn S m x j=if j=m then x else S j:=by unfold turn;rfl
theorem rwJ_iff {rg:Nat→Bool} {sq:Nat→Nat} {W:Nat→Bool} (j:Nat):∀i,rwJ rg sq W i j=true↔W j=true∨∃t,t<i∧sq t=j∧rg j=true
 | 0=>by simp[rwJ]
 | i+1=>by
   have ih:=rwJ_iff (rg:=rg) (sq:=sq) (W:=W) j i
   have key:(∃t,t<i+1∧sq t=j∧rg j=true)↔(∃t,t<i∧sq t=j∧rg j=true)∨(sq i=j∧rg j=true):=by
    constructor
    · rintro ⟨t,h1,h2,h3⟩
      rcases Nat.lt_or_eq_of_le (Nat.le_of_lt_succ h1) with g|rfl
      · exact .inl ⟨t,g,h2,h3⟩
      · exact .inr ⟨h2,h3⟩
    · rintro (⟨t,h1,h2,h3⟩|⟨h2,h3⟩)
      · exact ⟨t,by omega,h2,h3⟩
      · exact ⟨i,by omega,h2,h3⟩
   rw[key,rwJ]
   by_cases g:rg (sq i)=true
   · rw[if_pos g,turn_is]
     by_cases e:j=sq i
     · subst e;simp[g]
     · rw[if_neg e,ih]
       have:¬(sq i=j∧rg j=true):=fun h=>e h.1.symm
       simp[this]
   · rw[if_neg g,ih]
     have:¬(sq i=j∧rg j=true):=fun h=>g (by rw[h.1];exact h.2)
     simp[this]
theorem ruJ_iff {rg:Nat→Bool} {sq:Nat→Nat} {use:Bool} {U:Nat→Bool} (j:Nat):∀i,ruJ rg sq use U i j=true↔U j=true∨(use=true∧∃t,t<i∧sq t=j∧rg j=true)
 | 0=>by simp[ruJ]
 | i+1=>by
   have ih:=ruJ_iff (rg:=rg) (sq:=sq) (use:=use) (U:=U) j i
   have key:(∃t,t<i+1∧sq t=j∧rg j=true)↔(∃t,t<i∧sq t=j∧rg j=true)∨(sq i=j∧rg j=true):=by
    constructor
    · rintro ⟨t,h1,h2,h3⟩
      rcases Nat.lt_or_eq_of_le (Nat.le_of_lt_succ h1) with g|rfl
      · exact .inl ⟨t,g,h2,h3⟩
      · exact .inr ⟨h2,h3⟩
    · rintro (⟨t,h1,h2,h3⟩|⟨h2,h3⟩)
      · exact ⟨t,by omega,h2,h3⟩
      · exact ⟨i,by omega,h2,h3⟩
   rw[key,ruJ]
   by_cases g:rg (sq i)=true
   · rw[if_pos g,turn_is]
     by_cases e:j=sq i
     · subst e
       rw[if_pos rfl,Bool.or_eq_true,ih]
       cases use<;>simp[g]
     · rw[if_neg e,ih]
       have:¬(sq i=j∧rg j=true):=fun h=>e h.1.symm
       simp[this]
   · rw[if_neg g,ih]
     have:¬(sq i=j∧rg j=true):=fun h=>g (by rw[h.1];exact h.2)
     simp[this]
theorem lt_succ_ex {p:Nat→Prop} {n:Nat}:(∃m,m<n+1∧p m)↔(∃m,m<n∧p m)∨p n:=by
 constructor
 · rintro ⟨m,h1,h2⟩
   rcases Nat.lt_or_eq_of_le (Nat.le_of_lt_succ h1) with g|rfl
   · exact .inl ⟨m,g,h2⟩
   · exact .inr h2
 · rintro (⟨m,h1,h2⟩|h)
   · exact ⟨m,by omega,h2⟩
   · exact ⟨n,by omega,h⟩
theorem rwN_iff {cd rg:Nat→Bool} {sq:Nat→Nat→Nat} {sl:Nat→Nat} (j:Nat):∀n,rwN cd rg sq sl n j=true↔∃m,m<n∧cd m=true∧∃t,t<sl m∧sq m t=j∧rg j=true
 | 0=>by simp[rwN]
 | n+1=>by
   rw[lt_succ_ex,←rwN_iff j n,rwN]
   by_cases g:cd n=true
   · rw[if_pos g,rwJ_iff];simp[g]
   · rw[if_neg g];simp[g]
theorem ruN_iff {cd rg:Nat→Bool} {sq:Nat→Nat→Nat} {sl:Nat→Nat} {us:Nat→Bool} (j:Nat):∀n,ruN cd rg sq sl us n j=true↔∃m,m<n∧cd m=true∧us m=true∧∃t,t<sl m∧sq m t=j∧rg j=true
 | 0=>by simp[ruN]
 | n+1=>by
   rw[lt_succ_ex,←ruN_iff j n,ruN]
   by_cases g:cd n=true
   · rw[if_pos g,ruJ_iff];simp[g]
   · rw[if_neg g];simp[g]
section
variable (F:GFun) (k:Nat)
noncomputable def cdF (n:Nat):Bool:=(decide (n=lpN F k)||scI F k n)&&!killB F k n
noncomputable def usF (n:Nat):Bool:=scU F k n||(scI F k n&&(wyF F k).tw n)
noncomputable def wnF:Nat→Nat→Bool:=rwN (cdF F k) (fun j=>regF F (k+F.ln) j) (fun n t=>(rsucc F n).getD t 0) (fun n=>(rsucc F n).length)
noncomputable def unF:Nat→Nat→Bool:=ruN (cdF F k) (fun j=>regF F (k+F.ln) j) (fun n t=>(rsucc F n).getD t 0) (fun n=>(rsucc F n).length) (usF F k)
noncomputable def wjF (n:Nat):Nat→Nat→Bool:=rwJ (fun j=>regF F (k+F.ln) j) (fun t=>(rsucc F n).getD t 0) (wnF F k n)
noncomputable def ujF (n:Nat):Nat→Nat→Bool:=ruJ (fun j=>regF F (k+F.ln) j) (fun t=>(rsucc F n).getD t 0) (usF F k n) (unF F k n)
variable {F k}
theorem wy_R {n j:Nat} (hn:n<stN F.sn F.bn):(wyF F k).R n j↔killB F k n=false∧∃t,t<(rsucc F n).length∧(rsucc F n).getD t 0=j∧regF F (k+F.ln) j=true:=by
 have hm:j∈rsucc F n↔∃t,t<(rsucc F n).length∧(rsucc F n).getD t 0=j:=by
  constructor
  · intro h
    obtain ⟨t,ht,e⟩:=List.mem_iff_getElem.1 h
    exact ⟨t,ht,by rw[List.getD_eq_getElem?_getD,List.getElem?_eq_getElem ht];exact e⟩
  · rintro ⟨t,ht,rfl⟩
    rw[List.getD_eq_getElem?_getD,List.getElem?_eq_getElem ht]
    exact List.getElem_mem ht
 constructor
 · rintro ⟨h1,h2,h3⟩
   obtain ⟨t,ht,e⟩:=hm.1 ((rsucc_mem hn).2 h2)
   exact ⟨h1,t,ht,e,h3⟩
 · rintro ⟨h1,t,ht,e,h3⟩
   exact ⟨h1,(rsucc_mem hn).1 (hm.2 ⟨t,ht,e⟩),h3⟩
theorem wy_lt (hO:F.Ok) (hk:k<lnC F) {j:Nat} (h:scI F k j=true):j<stN F.sn F.bn:=by
 have h2:(wyF F k).inB j=true:=h
 replace h2:=clB_iff.1 h2
 clear h
 induction h2 with
 | zero g=>exact succN_lt hO (lpN_ok hk).1 _ g.2.1
 | step _ g ih=>exact succN_lt hO ih _ g.2.1
theorem want_is (hO:F.Ok) (hk:k<lnC F) {j:Nat} (hj:j<stN F.sn F.bn):scI F k j=wnF F k (stN F.sn F.bn) j:=by
 rw[Bool.eq_iff_iff]
 unfold wnF
 rw[rwN_iff]
 constructor
 · intro h
   have h':(wyF F k).inB j=true:=h
   replace h':=clB_iff.1 h'
   cases h' with
   | zero g=>
     have hp:=(lpN_ok hk).1
     obtain ⟨g1,g2⟩:=(wy_R hp).1 g
     exact ⟨_,hp,by simp[cdF,g1],g2⟩
   | @step a _ g0 g=>
     have ha:scI F k a=true:=clB_iff.2 g0
     have hl:=wy_lt hO hk ha
     obtain ⟨g1,g2⟩:=(wy_R hl).1 g
     exact ⟨a,hl,by simp[cdF,g1,ha],g2⟩
 · rintro ⟨m,hm,h1,h2⟩
   simp only[cdF,Bool.and_eq_true,Bool.or_eq_true,decide_eq_true_eq,Bool.not_eq_true'] at h1
   have hR:=(wy_R (k:=k) hm).2 ⟨h1.2,h2⟩
   rcases h1.1 with rfl|h
   · exact WyG.in0 (G:=wyF F k) hR
   · exact WyG.in1 (G:=wyF F k) h hR
theorem was_is (hO:F.Ok) (hk:k<lnC F) {j:Nat} (hj:j<stN F.sn F.bn):scU F k j=unF F k (stN F.sn F.bn) j:=by
 rw[Bool.eq_iff_iff]
 unfold unF
 rw[ruN_iff]
 constructor
 · intro h
   have h':(wyF F k).usB j=true:=h
   replace h':=clB_iff.1 h'
   cases h' with
   | zero g=>
     obtain ⟨a,g0,gt,g⟩:=g
     have ha:scI F k a=true:=g0
     have hl:=wy_lt hO hk ha
     obtain ⟨g1,g2⟩:=(wy_R hl).1 g
     exact ⟨a,hl,by simp[cdF,g1,ha],by simp[usF,ha,gt],g2⟩
   | @step a _ g0 g=>
     have hu:scU F k a=true:=clB_iff.2 g0
     have ha:scI F k a=true:=two_in hu
     have hl:=wy_lt hO hk ha
     obtain ⟨g1,g2⟩:=(wy_R hl).1 g
     exact ⟨a,hl,by simp[cdF,g1,ha],by simp[usF,hu],g2⟩
 · rintro ⟨m,hm,h1,hu,h2⟩
   simp only[cdF,Bool.and_eq_true,Bool.or_eq_true,decide_eq_true_eq,Bool.not_eq_true'] at h1
   have hR:=(wy_R (k:=k) hm).2 ⟨h1.2,h2⟩
   simp only[usF,Bool.and_eq_true,Bool.or_eq_true] at hu
   rcases hu with h|⟨h,t⟩
   · exact WyG.us1 (G:=wyF F k) h hR
   · exact WyG.us0 (G:=wyF F k) h t hR
end
theorem wy_bit1 {F:GFun} (hO:F.Ok) {k:Nat} (hk:k<lnC F) (h3:(stAt F (lpN F k)).r.bo=3) (n:Nat):decide (rAr .and .u32 (rAr .shr .u32 (.ofNat (umN F n)) (lnL F (lpN F k))) 1=1)=(wyF F k).tw n:=by
 obtain ⟨h1,h2⟩:=lnL_two hO hk h3
 have hl:=hO.ln16
 have e:lnL F (lpN F k)=.ofNat (lnL F (lpN F k)).toNat:=(Int.toNat_of_nonneg h1).symm
 rw[e]
 unfold umN
 rw[bit_is rfl (by omega) (by omega)]
 show _=(decide ((stAt F (lpN F k)).r.bo=3)&&_)
 rw[decide_eq_true h3,Bool.true_and]
 cases uB F (pbN F n) (piN F n) (lnL F (lpN F k)).toNat<;>rfl
theorem bitsX {c:Nat→Nat→Row} {w:World} (hx:XOk ⟨[],c,[]⟩ ⟨w,[]⟩) {q i n cap:Nat} {a:Option Addr} {f:Nat→Bool} (h:c q i=⟨a,n,cap,1,fun k=>[.bool (f k)]⟩):Bits w a n f:=fun hn=>by
 have hx':=fun j (hj:j<n)=>hx q i j (by simp only[h];exact hj)
 simp only[h] at hx'
 obtain ⟨b2,p2,e2,l2,_⟩:=hx' 0 hn
 refine ⟨b2,p2,e2,l2,fun j hj=>?_⟩
 obtain ⟨b3,p3,e3,_,_,vs,f4,f5⟩:=hx' j hj
 rw[e2] at e3;cases e3
 match vs,f4 with
 | [u],⟨f4,_⟩=>
   have f4:u=.bool (f j):=f4
   subst f4
   simpa using f5 0 _ rfl
theorem bitsR {c:Nat→Nat→Row} {w:World} {n:Nat} {f:Nat→Bool} {v:Value} (hR:RowIs c w ⟨n,1,fun j=>[.bool (f j)]⟩ v):∃a cap,v=.slice a n cap∧Bits w a n f:=by
 obtain ⟨a,cap,rfl⟩:=hR.form
 refine ⟨a,cap,rfl,fun hn=>?_⟩
 obtain ⟨b,p,hb,hlt,-⟩:=hR.rowG (j:=0) hn
 refine ⟨b,p,hb,hlt,fun j hj=>?_⟩
 obtain ⟨b',p',hb',_,vs,h1,h2⟩:=hR.rowG (j:=j) hj
 rw[hb] at hb';cases hb'
 match vs,h1 with
 | [u],⟨h1,_⟩=>
   have h1:u=.bool (f j):=h1
   subst h1
   simpa using h2 0 _ rfl
theorem sameXR {c:Nat→Nat→Row} {w:World} (hx:XOk ⟨[],c,[]⟩ ⟨w,[]⟩) {v:Value} {n:Nat} {g:Nat→Bool} (hR:RowIs c w ⟨n,1,fun j=>[.bool (g j)]⟩ v) (q i:Nat) {a:Option Addr} {cap:Nat} {f:Nat→Bool} (h:c q i=⟨a,n,cap,1,fun k=>[.bool (f k)]⟩) (hn:n≤maxLen) (e:∀j,j<n→f j=g j):
 Calls Tryz.prog 35 #[.slice a n cap,v] w (Ret w (.bool true)):=by
 obtain ⟨a',cap',rfl,hB⟩:=bitsR hR
 have:=same18_any a a' n n cap cap' f g w hn hn (bitsX hx h) hB
 rw[sameB_ok rfl e] at this
 exact this
end Go.Proofs.YtaafofmfbcnaaaaGreat
