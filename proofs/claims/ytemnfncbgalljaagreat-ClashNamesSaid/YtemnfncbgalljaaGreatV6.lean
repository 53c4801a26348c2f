/- Lemmas. No condition. -/
import Derived.Test.YtemnfncbgalljaaGreatLvL
namespace Go.Proofs.YtemnfncbgalljaaGreat
open Go.RowKit
set_option linter.all false
set_option maxRecDepth 100000
set_option maxHeartbeats 64000000
def umN (F:GFun) (a:Nat):Nat:=mk (uB F (pbN F a) (piN F a)) F.ln
def smN (F:GFun) (a:Nat):Int:=sI F (pbN F a) (piN F a)
theorem Qy2 (F:GFun) (w:World) (hF:F.At w) (hO:F.Ok) (hD:F.Fd) (a:Nat) (ha:a<stN F.sn F.bn):
 Calls Tryz.prog 57 #[F.val,.int .i64 (.ofNat a)] w (Ret w (.tuple #[.int .u32 (.ofNat (umN F a)),.int .i64 (smN F a),.int .i64 0])):=by
 have h1 wc (hk:KB ⟨w,[]⟩ wc):=hO.chk wc (hF.later hk)
 have h30 wc (hk:KB ⟨w,[]⟩ wc):=Q7h F wc (hF.later hk) hO
 have h70 wc (hk:KB ⟨w,[]⟩ wc):=Qcw F wc (hF.later hk) hO hD (pbN F a) (piN F a) (Qoc ha).1
 obtain ⟨N,hN⟩:=x9 (stN F.sn F.bn)
 obtain ⟨pb,hpb⟩:=x9 (pbN F:N9z)
 obtain ⟨pi,hpi⟩:=x9 (piN F:N9z)
 have hR:ptR (Qgb F.sn F.bn)=⟨N,2,fun j=>[.int .i64 (.ofNat (pb j)),.int .i64 (.ofNat (pi j))]⟩:=by rw[ptR,Q6b,hN,hpb,hpi];rfl
 rw[hR] at h30
 obtain ⟨um,hum⟩:=x9 (umN F a)
 obtain ⟨sm,hsm⟩:=x9 (smN F a)
 have h7 wc (hk:KB ⟨w,[]⟩ wc):Calls Tryz.prog 92 #[F.val,.agg #[.int .i64 (.ofNat (pb a)),.int .i64 (.ofNat (pi a))]] wc (Ret wc (.tuple #[.int .u32 (.ofNat um),.int .i64 sm,.int .i64 0])):=by
  rw[hpb,hpi,hum,hsm];exact h70 wc hk
 rw[<-hN] at ha
 rw[<-hum,<-hsm]
 have hN9:=hO.pts
 rw[<-hN] at hN9
 clear h70 hpb hpi hR hum hsm hN hO hD
 cases F
 obtain ⟨hX,hl,hb,hs,hj⟩:=hF
 simp only at hl hb hs hj
 refine Qaa (args:=[.pt (.agg (GFun.dat _)),.pt (.one (.int .i64 (.ofNat a)))]) (c:=(Qwa _)) Tryz.func57 rfl hX rfl rfl ?_
 obtain ⟨_,_,_,hnt,_,har,cm,hcm,_,_,_,_,ar01,ar12,_,hzpl,_,_,_,_,_,_,_,_,hT⟩:=Qca
 have c1:cm .lss (.ofNat a) 0=false:=by rw[hcm];exact decide_eq_false (fun g=>absurd (Int.natCast_nonneg a) (Int.not_le.2 g))
 have c2:cm .geq (.ofNat a) (.ofNat N)=false:=by rw[hcm];exact decide_eq_false (fun g=>absurd (Int.ofNat_le.1 g) (Nat.not_le.2 ha))
 repeat' (first
  | refine goa ?_|exact go0|refine Qz9 ?_|refine gof ?_|refine Qvha ?_ ?_
  | (refine' Qiha Tryz.call85 ?_ ?_;rotate_left;(·intro wc hbc hxc;exact h1 wc hbc))
  | ((with_reducible apply Qoa (hf:=Tryz.call67));(·intro S;cbv;try rfl);(·intro wc S hbc hxc hrc;exact h30 wc hbc);(·rfl))
  | (refine' Qiha Tryz.call92 ?_ ?_;rotate_left;(·intro wc hbc hxc;exact h7 wc hbc))
  | fail)
 all_goals rfl
section
open Go.RowKit Go.Shelf Go.Sort
def usS (s:GStmt) (l:Nat):Bool:= !decide (s.k=3)&&((rvU (stR s)).contains (Int.ofNat l)||(!wholeP s.p&&decide (s.p.l=Int.ofNat l)))
def usC (F:GFun) (b i l:Nat):Bool:=if i<F.sn b then usS (F.s b i) l else decide (l<16)&&jmS F b l
theorem Ql6 (s:GStmt) (l:Nat):(stU s).contains (Int.ofNat l)=usS s l:=by
 unfold stU usS
 by_cases h3:s.k=3
 · rw[if_pos h3,decide_eq_true h3];rfl
 · rw[if_neg h3,decide_eq_false h3]
   have hL:(stL s).contains (Int.ofNat l)=(rvU (stR s)).contains (Int.ofNat l):=by
    rw[Bool.eq_iff_iff,List.contains_iff_mem,List.contains_iff_mem];unfold stL;exact Qzx
   by_cases hc:(!wholeP s.p&&!(stL s).contains s.p.l)=true
   · rw[if_pos hc]
     have e:(Q7n (stL s) ((stL s).countP (·<s.p.l)) s.p.l).contains (Int.ofNat l)=(decide (s.p.l=Int.ofNat l)||(stL s).contains (Int.ofNat l)):=by
      rw[Bool.eq_iff_iff,List.contains_iff_mem,Bool.or_eq_true,List.contains_iff_mem,Qwy,decide_eq_true_eq]
      exact or_congr ⟨fun h=>h.symm,fun h=>h.symm⟩ Iff.rfl
     simp only[Bool.and_eq_true] at hc
     rw[e,hL,hc.1,Bool.or_comm];simp
   · rw[if_neg hc,hL]
     by_cases hw:(!wholeP s.p)=true
     · have hm:(stL s).contains s.p.l=true:=by
        cases g:(stL s).contains s.p.l
        · exact absurd (by rw[hw,g];rfl) hc
        · rfl
       rw[hw]
       by_cases g:s.p.l=Int.ofNat l
       · rw[g,hL] at hm;rw[hm];simp
       · rw[decide_eq_false g];simp
     · have hw:(!wholeP s.p)=false:=by simpa using hw
       rw[hw];simp
theorem Qv0 (S:B9z) (n l:Nat):(Qss S n).contains (Int.ofNat l)=(decide (l<n)&&S l):=by
 rw[Bool.eq_iff_iff,List.contains_iff_mem,Qkn,Bool.and_eq_true,decide_eq_true_eq]
 constructor
 · rintro ⟨j,h1,h2,h3⟩
   obtain rfl:=Int.ofNat.inj h3
   exact ⟨h1,h2⟩
 · rintro ⟨h1,h2⟩;exact ⟨l,h1,h2,rfl⟩
theorem Q3aa (F:GFun) (b i l:Nat):uB F b i l=usC F b i l:=by
 unfold uB usC uL
 split
 · exact Ql6 _ _
 · exact Qv0 _ _ _
end
theorem Qd2 {ar:A9z} (har:ar=rAr) {S:B9z} {n l:Nat} (hn:n<=32) (hl:l<n):ar .and .u32 (ar .shr .u32 (.ofNat (mk S n)) (.ofNat l)) 1=if S l=true then 1 else 0:=by
 rw[Qv6 har o9]
 have h1:mk S n / 2 ^ l<2 ^ 32:=Nat.lt_of_le_of_lt (Nat.div_le_self _ _) (Q4x hn)
 have:=Qu6 har (a:=mk S n / 2 ^ l) (b:=1) h1 (by decide)
 refine this.trans ?_
 rw[Nat.and_one_is_mod,Qa8,decide_eq_true hl]
 cases S l<;>rfl
end Go.Proofs.YtemnfncbgalljaaGreat
