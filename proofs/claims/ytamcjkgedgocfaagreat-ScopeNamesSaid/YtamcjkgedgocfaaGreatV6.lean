/- Texts joined: LvM LvN LvO. No condition. -/
import Derived.Test.YtamcjkgedgocfaaGreatLvL
namespace Go.Proofs.YtamcjkgedgocfaaGreat
open Go.RowKit
set_option linter.all false
set_option maxHeartbeats 64000000
section
set_option maxRecDepth 100000
theorem Q40 (F:GFun) (w:World) (hF:F.At w) (hz:fchkV F≠0):
 Calls Tryz.prog 161 #[F.val] w (Ret w (.tuple #[.slice none 0 0,.int .i64 (fchkV F)])):=by
 have h1 (wc:World) (hk:KB ⟨w,[]⟩ wc):=Qn7 F wc (hF.later hk)
 generalize fchkV F=z at h1 hz⊢
 have hq:decide (z=0)=false:=decide_eq_false hz
 clear hz
 obtain ⟨pa,un,lA,ln,lc,lk,lt,bA,bn,bc,sA,sn,sc,s,jA,jn,jc,ja,jk,jo,jf,jx,je,jd⟩:=F
 obtain ⟨hX,hl,hb,hs,hj⟩:=hF
 simp only at hl hb hs hj
 refine Qaa (args:=[.pt (.agg (GFun.dat _))]) (c:=(Qwa _)) Tryz.func161 rfl hX rfl rfl ?_
 obtain ⟨nd,hnd,nt,hnt,ar,har,cm,hcm,mx,hmx,mn,hmn,ar01,ar12,zpl,hzpl,zjn,hzjn,zup,hzup,zmi,hzmi,zdp,hzdp,hT⟩:=Qca
 repeat' (first
  | refine go1 ?_|refine Q7b ?_
  | ((with_reducible apply Qfa (f:=68) (hf:=Tryz.call68));(·(cbv;try rfl));(·intro wc hbc hxc;exact h1 wc hbc))
  | fail)
 all_goals rfl
def umN (F:GFun) (a:Nat):Nat:=mk (uB F (pbN F a) (piN F a)) F.ln
def smN (F:GFun) (a:Nat):Int:=sI F (pbN F a) (piN F a)
theorem Qy2 (F:GFun) (w:World) (hF:F.At w) (hO:F.Ok) (hD:F.Fd) (a:Nat) (ha:a<stN F.sn F.bn):
 Calls Tryz.prog 45 #[F.val,.int .i64 (.ofNat a)] w (Ret w (.tuple #[.int .u32 (.ofNat (umN F a)),.int .i64 (smN F a),.int .i64 0])):=by
 have h1 (wc:World) (hk:KB ⟨w,[]⟩ wc):=hO.chk wc (hF.later hk)
 have h30 (wc:World) (hk:KB ⟨w,[]⟩ wc):=Q7h F wc (hF.later hk) hO
 have h70 (wc:World) (hk:KB ⟨w,[]⟩ wc):=Qcw F wc (hF.later hk) hO hD (pbN F a) (piN F a) (Qoc ha).1
 obtain ⟨N,hN⟩:∃N,N=stN F.sn F.bn:=⟨_,rfl⟩
 obtain ⟨pb,hpb⟩:∃f:Nat→Nat,f=pbN F:=⟨_,rfl⟩
 obtain ⟨pi,hpi⟩:∃f:Nat→Nat,f=piN F:=⟨_,rfl⟩
 have hR:ptR (Qgb F.sn F.bn)=⟨N,2,fun j=>[.int .i64 (.ofNat (pb j)),.int .i64 (.ofNat (pi j))]⟩:=by rw[ptR,Q6b,hN,hpb,hpi];rfl
 rw[hR] at h30
 obtain ⟨um,hum⟩:∃z,z=umN F a:=⟨_,rfl⟩
 obtain ⟨sm,hsm⟩:∃z,z=smN F a:=⟨_,rfl⟩
 have h7 (wc:World) (hk:KB ⟨w,[]⟩ wc):Calls Tryz.prog 94 #[F.val,.agg #[.int .i64 (.ofNat (pb a)),.int .i64 (.ofNat (pi a))]] wc (Ret wc (.tuple #[.int .u32 (.ofNat um),.int .i64 sm,.int .i64 0])):=by
  rw[hpb,hpi,hum,hsm];exact h70 wc hk
 rw[←hN] at ha
 rw[←hum,←hsm]
 have hN9:=hO.pts
 rw[←hN] at hN9
 clear h70 hpb hpi hR hum hsm hN hO hD
 obtain ⟨pa,un,lA,ln,lc,lk,lt,bA,bn,bc,sA,sn,sc,s,jA,jn,jc,ja,jk,jo,jf,jx,je,jd⟩:=F
 obtain ⟨hX,hl,hb,hs,hj⟩:=hF
 simp only at hl hb hs hj
 refine Qaa (args:=[.pt (.agg (GFun.dat _)),.pt (.one (.int .i64 (.ofNat a)))]) (c:=(Qwa _)) Tryz.func45 rfl hX rfl rfl ?_
 obtain ⟨nd,hnd,nt,hnt,ar,har,cm,hcm,mx,hmx,mn,hmn,ar01,ar12,zpl,hzpl,zjn,hzjn,zup,hzup,zmi,hzmi,zdp,hzdp,hT⟩:=Qca
 have c1:cm .lss (.ofNat a) 0=false:=by rw[hcm];exact decide_eq_false (fun g=>absurd (Int.natCast_nonneg a) (Int.not_le.2 g))
 have c2:cm .geq (.ofNat a) (.ofNat N)=false:=by rw[hcm];exact decide_eq_false (fun g=>absurd (Int.ofNat_le.1 g) (Nat.not_le.2 ha))
 repeat' (first
  | refine go1 ?_|refine Qpb ?_|refine Q7b ?_|exact go0|refine Qz9 ?_|refine gof ?_|(with_reducible refine Qha ?_ ?_)
  | ((with_reducible apply Qfa (f:=68) (hf:=Tryz.call68));(·(cbv;try rfl));(·intro wc hbc hxc;exact h1 wc hbc))
  | ((with_reducible apply Qoa (f:=13) (hf:=Tryz.call13));(·intro S;cbv;try rfl);(·intro wc S hbc hxc hrc;exact h30 wc hbc);(·rfl))
  | ((with_reducible apply Qfa (f:=94) (hf:=Tryz.call94));(·(cbv;try rfl));(·intro wc hbc hxc;exact h7 wc hbc))
  | fail)
 all_goals rfl
end
section
open Go.RowKit Go.Shelf Go.Sort
def usS (s:GStmt) (l:Nat):Bool:= !decide (s.k=3)&&((rvU (stR s)).contains (Int.ofNat l)||(!Q6a s.p&&decide (s.p.l=Int.ofNat l)))
def usC (F:GFun) (b i l:Nat):Bool:=if i<F.sn b then usS (F.s b i) l else decide (l<16)&&jmS F b l
theorem Ql6 (s:GStmt) (l:Nat):(stU s).contains (Int.ofNat l)=usS s l:=by
 unfold stU usS
 by_cases h3:s.k=3
 · rw[if_pos h3,decide_eq_true h3];rfl
 · rw[if_neg h3,decide_eq_false h3]
   have hL:(stL s).contains (Int.ofNat l)=(rvU (stR s)).contains (Int.ofNat l):=by
    rw[Bool.eq_iff_iff,List.contains_iff_mem,List.contains_iff_mem];unfold stL;exact Qzx
   by_cases hc:(!Q6a s.p&&!(stL s).contains s.p.l)=true
   · rw[if_pos hc]
     have e:(Q7n (stL s) ((stL s).countP (·<s.p.l)) s.p.l).contains (Int.ofNat l)=(decide (s.p.l=Int.ofNat l)||(stL s).contains (Int.ofNat l)):=by
      rw[Bool.eq_iff_iff,List.contains_iff_mem,Bool.or_eq_true,List.contains_iff_mem,Qwy,decide_eq_true_eq]
      exact or_congr ⟨fun h=>h.symm,fun h=>h.symm⟩ Iff.rfl
     simp only[Bool.and_eq_true] at hc
     rw[e,hL,hc.1,Bool.or_comm];simp
   · rw[if_neg hc,hL]
     by_cases hw:(!Q6a s.p)=true
     · have hm:(stL s).contains s.p.l=true:=by
        cases g:(stL s).contains s.p.l
        · exact absurd (by rw[hw,g];rfl) hc
        · rfl
       rw[hw]
       by_cases g:s.p.l=Int.ofNat l
       · rw[g,hL] at hm;rw[hm];simp
       · rw[decide_eq_false g];simp
     · have hw:(!Q6a s.p)=false:=by simpa using hw
       rw[hw];simp
theorem Qv0 (S:Nat→Bool) (n l:Nat):(Qss S n).contains (Int.ofNat l)=(decide (l<n)&&S l):=by
 rw[Bool.eq_iff_iff,List.contains_iff_mem,Qkn,Bool.and_eq_true,decide_eq_true_eq]
 constructor
 · rintro ⟨j,h1,h2,h3⟩
   obtain rfl:=Int.ofNat.inj h3
   exact ⟨h1,h2⟩
 · rintro ⟨h1,h2⟩;exact ⟨l,h1,h2,rfl⟩
theorem Q3aa (F:GFun) (b i l:Nat):uB F b i l=usC F b i l:=by
 unfold uB usC uL
 split
 · exact Ql6 _ _
 · exact Qv0 _ _ _
namespace LiveG
def it (G:LiveG):Nat→Nat→Nat→Bool
 | 0,_,_=>false
 | k+1,n,l=>((G.sc n).any fun q=>it G k q l)&&!G.st n l||G.us n l
theorem it_cl {G:LiveG} (hs:∀n,n<G.N→∀q∈G.sc n,q<G.N) {l:Nat}:∀k n,n<G.N→it G k n l=true→Cl (G.Z l) (G.R l) n
 | 0,n,_,h=>by simp[it] at h
 | k+1,n,hn,h=>by
   simp only[it,Bool.or_eq_true,Bool.and_eq_true,List.any_eq_true,Bool.not_eq_true'] at h
   rcases h with ⟨⟨q,h1,h2⟩,h3⟩|h
   · exact .step (it_cl hs k q (hs n hn q h1) h2) ⟨hn,h1,h3⟩
   · exact .zero ⟨hn,h⟩
theorem it_li {G:LiveG} (hs:∀n,n<G.N→∀q∈G.sc n,q<G.N) {l k:Nat} (he:∀n,n<G.N→it G (k+1) n l=it G k n l) {n:Nat} (hn:n<G.N):G.liB l n=it G k n l:=by
 refine (Qh7 (N:=G.N) (S:=fun n=>it G k n l) (fun n hz=>hz.1) (fun m n hr=>hr.1) (fun n hn h=>it_cl hs k n hn h) (fun n hn hz=>?_) (fun m n hm hn hS hr=>?_) hn).symm
 · rw[←he n hn];simp[it,hz.2]
 · rw[←he n hn]
   simp only[it,Bool.or_eq_true,Bool.and_eq_true,List.any_eq_true,Bool.not_eq_true']
   exact .inl ⟨⟨m,hr.2.1,hS⟩,hr.2.2⟩
end LiveG
def Q0ba (F:GFun):LiveG:=⟨F.ln,stN F.sn F.bn,Q0g F,fun n l=>usC F (pbN F n) (piN F n) l,fun n l=>decide (Int.ofNat l=sI F (pbN F n) (piN F n))⟩
theorem Quca (F:GFun):Qdf F=Q0ba F:=by
 unfold Qdf Q0ba
 congr 1
 funext n l
 exact Q3aa F _ _ l
def Q9ba (F:GFun) (K:Nat) (M:List Nat):Bool:=Qed (stN F.sn F.bn) fun n=>decide (M.getD n 0<2 ^ F.ln)&&Qed F.ln fun l=>(LiveG.it (Q0ba F) K n l==(M.getD n 0).testBit l)&&(LiveG.it (Q0ba F) (K+1) n l==(M.getD n 0).testBit l)
theorem Q4ca {F:GFun} (hO:F.Ok) {K:Nat} {M:List Nat} (h:Q9ba F K M=true) {n:Nat} (hn:n<stN F.sn F.bn):liM F n=M.getD n 0:=by
 have h1:∀n,n<stN F.sn F.bn→M.getD n 0<2 ^ F.ln∧∀l,l<F.ln→LiveG.it (Q0ba F) K n l=(M.getD n 0).testBit l∧LiveG.it (Q0ba F) (K+1) n l=(M.getD n 0).testBit l:=fun n hn=>by
  have:=Qla.1 h n hn
  simp only[Bool.and_eq_true,decide_eq_true_eq] at this
  refine ⟨this.1,fun l hl=>?_⟩
  have:=Qla.1 this.2 l hl
  simp only[Bool.and_eq_true,beq_iff_eq] at this
  exact this
 unfold liM
 rw[Quca]
 refine Nat.eq_of_testBit_eq fun l=>?_
 rw[Qze]
 by_cases hl:l<F.ln
 · rw[decide_eq_true hl,Bool.true_and,LiveG.it_li (G:=Q0ba F) (k:=K) (fun n hn q hq=>Qgi hO hn q hq) (fun n hn=>by rw[((h1 n hn).2 l hl).1,((h1 n hn).2 l hl).2]) hn]
   exact ((h1 n hn).2 l hl).1
 · rw[decide_eq_false hl,Bool.false_and]
   exact (Nat.testBit_lt_two_pow (Nat.lt_of_lt_of_le (h1 n hn).1 (Nat.pow_le_pow_right (by decide) (by omega)))).symm
def fdB (F:GFun):Bool:=Qed F.bn fun b=>(Qed (F.sn b) fun i=>decide (0≤(F.s b i).p.f))&&decide (0≤(F.jd b).f)
theorem Qkda {F:GFun} (h:fdB F=true):F.Fd:=fun b hb=>by
 have:=Qla.1 h b hb
 simp only[Bool.and_eq_true,decide_eq_true_eq] at this
 exact ⟨fun i hi=>of_decide_eq_true (Qla.1 this.1 i hi),this.2⟩
end
section
section
variable {Q:Exit→Act→World→Prop} {c:Nat→Nat→Row} {w0:Base}
end
end
end Go.Proofs.YtamcjkgedgocfaaGreat
