/- Lemmas. No condition. -/
import Derived.Test.YtemnfncbgalljabGrR
import Derived.Test.YtemnfncbgalljabPtA
import Derived.Test.YtemnfncbgalljabX2
namespace Go.Proofs.Ytemnfncbgalljab
open Go.RowKit
set_option linter.all false
set_option maxRecDepth 100000
set_option maxHeartbeats 64000000
abbrev TwA:=Nat->Option Addr×Nat
def twG (F:GFun) (i:Nat) (A B:TwA):Nat->Nat->Row:=fun p j=>
 if p=0/\j<i then ⟨(A j).1,F.sn j,(A j).2,26,fun k=>(F.s j k).sc⟩ else if p=1/\j<i then ⟨(B j).1,F.jn j,(B j).2,5,fun k=>(F.ja j k).sc⟩ else ⟨none,0,0,0,fun _=>[]⟩
def twB (F:GFun) (A B:TwA) (j:Nat):List SC:=[.val (.slice (A j).1 (F.sn j) (A j).2),.int .u8 (F.jk j),.int .u8 (F.jo j).k,.int .i64 (F.jo j).n,.int .i64 (F.jo j).p.l,.bool (F.jo j).p.d,.int .u8 (F.jo j).p.f,.int .i64 (F.jf j),.int .i64 (F.jx j),.int .i64 (F.je j),.val (.slice (B j).1 (F.jn j) (B j).2),.int .i64 (F.jd j).l,.bool (F.jd j).d,.int .u8 (F.jd j).f]
def twU (A:TwA) (i:Nat) (y:Option Addr×Nat):TwA:=fun j=>if j=i then y else A j
def TwR (F:GFun) (x:TwA×TwA):List ORow:=[⟨F.ln,2,fun i=>[.int .u8 (F.lk i),.int .u8 (F.lt i)]⟩,⟨F.bn,14,twB F x.1 x.2⟩]
theorem Qsja {c:R9z} {K:Nat} {a:Option Addr} {cs:List SC}:Q3a c K (Q1g a cs)=Q3a (Q3a c K (Q1g a cs)) (K+1) NoFam:=by
 funext q i
 by_cases g:q<K+1
 · rw[Q4a g]
 · rw[Q2a (K:=K+1) o9,Q2a o9]
   simp only[Q1g,NoFam]
   rw[if_neg o9]
theorem Qmpa (F:GFun) (w:World) (hF:F.At w) (hS:F.Sm):
 Calls Try.prog 8 #[F.val] w (RetX w (fun _:TwA×TwA=>.pt (.agg [.int .i64 F.pa,.bool F.un,.rs 0,.rs 1])) (TwR F) (fun x=>twG F F.bn x.1 x.2)):=by
 have bl:=hS.l
 have bb:=hS.b
 have bs:=hS.s
 have bj:=hS.j
 obtain ⟨tg,htg⟩:=x9 (twG F:Nat->TwA->TwA->Nat->Nat->Row)
 obtain ⟨tb,htb⟩:=x9 (twB F:TwA->TwA->Nat->List SC)
 obtain ⟨tu,htu⟩:=x9 (twU:TwA->Nat->Option Addr×Nat->TwA)
 have t0:tg 0 (fun _=>(none,0)) (fun _=>(none,0))=NoFam:=by
  rw[htg];funext p j
  simp only[twG]
  rw[if_neg o9,if_neg o9];rfl
 have tp:∀i A B p j k,k<(tg i A B p j).n->Qob ((tg i A B p j).el k)=true:=fun i A B p j k h=>by
  rw[htg] at h⊢
  simp only[twG] at h⊢
  split at h
  · rename_i g;rw[if_pos g];rfl
  · rename_i g
    rw[if_neg g]
    split at h
    · rename_i g2;rw[if_pos g2];rfl
    · exact absurd h (Nat.not_lt_zero _)
 have tz:∀i A B,(tg i A B 0 i).n=0:=fun i A B=>by
  rw[htg];simp only[twG]
  rw[if_neg o9,if_neg o9]
 have tN:∀{w:World} {i A B},(∀j,Q3d w (A j).1/\Q3d w (B j).1)->∀p j,Q3d w (tg i A B p j).a:=fun {w i A B} h p j=>by
  rw[htg];simp only[twG]
  split
  · exact (h j).1
  · split
    · exact (h j).2
    · intro b p h;cases h
 have tbq:∀A B j,qbL 5 (tb A B j)=true:=fun A B j=>by rw[htb];rfl
 have tbp:∀A B j,Qob (tb A B j)=true:=fun A B j=>by rw[htb];rfl
 obtain ⟨th,hth⟩:=x9 (fun i A B y p j=>if p=0/\j=i then ⟨y.1,F.sn i,y.2,26,fun k=>(F.s i k).sc⟩ else tg i A B p j:Nat->TwA->TwA->Option Addr×Nat->Nat->Nat->Row)
 obtain ⟨tk,htk⟩:=x9 (fun i A B y z p j=>if p=1/\j=i then ⟨z.1,F.jn i,z.2,5,fun k=>(F.ja i k).sc⟩ else th i A B y p j:Nat->TwA->TwA->Option Addr×Nat->Option Addr×Nat->Nat->Nat->Row)
 have hp:∀i A B y p j k,k<(th i A B y p j).n->Qob ((th i A B y p j).el k)=true:=fun i A B y p j k h=>by
  rw[hth] at h⊢
  simp only at h⊢
  split at h
  · rename_i g;rw[if_pos g];rfl
  · rename_i g;rw[if_neg g];exact tp i A B p j k h
 have hz:∀i A B y,(th i A B y 1 i).n=0:=fun i A B y=>by
  rw[hth];simp only
  rw[if_neg o9,htg];simp only[twG]
  rw[if_neg o9,if_neg o9]
 have h1:∀i A B (a:Option Addr) (cap:Nat) p' i',¬(p'=0/\i'=i)->th i A B (a,cap) p' i'=tg i A B p' i':=fun i A B a cap p' i' h=>by rw[hth];simp only;rw[if_neg h]
 have h2:∀i A B (a:Option Addr) (cap:Nat),th i A B (a,cap) 0 i=⟨a,F.sn i,cap,26,fun k=>(F.s i k).sc⟩:=fun i A B a cap=>by rw[hth];simp only[and_self,if_true]
 have h3:∀i A B y (a:Option Addr) (cap:Nat) p' i',¬(p'=1/\i'=i)->tk i A B y (a,cap) p' i'=th i A B y p' i':=fun i A B y a cap p' i' h=>by rw[htk];simp only;rw[if_neg h]
 have h4:∀i A B y (a:Option Addr) (cap:Nat),tk i A B y (a,cap) 1 i=⟨a,F.jn i,cap,5,fun k=>(F.ja i k).sc⟩:=fun i A B y a cap=>by rw[htk];simp only[and_self,if_true]
 have hup:∀i A B y z,tk i A B y z=tg (i+1) (tu A i y) (tu B i z):=fun i A B y z=>by
  rw[htk,hth,htg,htu]
  funext p j
  simp only[twG,twU]
  by_cases e:j=i
  · subst e
    by_cases p1:p=1
    · subst p1
      simp
    · by_cases p0:p=0
      · subst p0
        simp
      · simp[p0,p1]
  · by_cases l:j<i
    · have l2:j<i+1:=by omega
      simp[e,l,l2]
    · have l2:¬j<i+1:=by omega
      simp[e,l,l2]
 have hb1:∀i A B y z j,j<i->tb (tu A i y) (tu B i z) j=tb A B j:=fun i A B y z j h=>by
  rw[htb,htu]
  simp only[twB,twU]
  rw[if_neg o9,if_neg o9]
 have hb2:∀i A B (a1 a2:Option Addr) (c1 c2:Nat),tb (tu A i (a1,c1)) (tu B i (a2,c2)) i=[.val (.slice a1 (F.sn i) c1),.int .u8 (F.jk i),.int .u8 (F.jo i).k,.int .i64 (F.jo i).n,.int .i64 (F.jo i).p.l,.bool (F.jo i).p.d,.int .u8 (F.jo i).p.f,.int .i64 (F.jf i),.int .i64 (F.jx i),.int .i64 (F.je i),.val (.slice a2 (F.jn i) c2),.int .i64 (F.jd i).l,.bool (F.jd i).d,.int .u8 (F.jd i).f]:=fun i A B a1 a2 c1 c2=>by
  rw[htb,htu]
  simp only[twB,twU,if_true]
 have huN:∀{w:World} {A:TwA} {i:Nat} {a:Option Addr} {cap:Nat},(∀j,Q3d w (A j).1)->Q3d w a->∀j,Q3d w (tu A i (a,cap) j).1:=fun {w A i a cap} h g j=>by
  rw[htu]
  simp only[twU]
  split
  · exact g
  · exact h j
 have hR:TwR F=fun x=>[⟨F.ln,2,fun i=>[.int .u8 (F.lk i),.int .u8 (F.lt i)]⟩,⟨F.bn,14,tb x.1 x.2⟩]:=by rw[htb];rfl
 have hG:(fun x:TwA×TwA=>twG F F.bn x.1 x.2)=fun x=>tg F.bn x.1 x.2:=by rw[htg]
 rw[hR,hG]
 clear hR hG htb htu htg hth htk hS
 obtain ⟨pa,un,lA,ln,lc,lk,lt,bA,bn,bc,sA,sn,sc,s,jA,jn,jc,ja,jk,jo,jf,jx,je,jd⟩:=F
 obtain ⟨hX,hl,hb,hs,hj⟩:=hF
 simp only at hl hb hs hj
 simp only at bl bb bs bj h2 h4 hb2
 refine Qaa (args:=[.pt (.agg (GFun.dat _))]) (c:=(Qwa _)) Try.func8 rfl hX rfl rfl ?_
 obtain ⟨_,_,_,hnt,_,har,_,hcm,_,_,_,_,ar01,ar12,zpl,hzpl,zjn,hzjn,_,_,_,_,_,_,hT⟩:=Qca
 refine Qcm 4 rfl rfl trivial (Qmc _) ?_
 have hst:∀i,i<bn->RowLe ⟨zpl 0 (sn i),26,zjn 0 (fun j=>Qte [] (j * 26) 26) (fun k=>(s i k).sc)⟩ ⟨sn i,26,fun k=>(s i k).sc⟩:=fun i hi=>by
  subst hzpl hzjn
  refine ⟨by show 0+sn i=sn i;omega,rfl,fun j hj=>?_⟩
  simp only[rJn,Nat.not_lt_zero,if_false,Nat.sub_zero]
  exact Qpa _
 have hja:∀i,i<bn->RowLe ⟨zpl 0 (jn i),5,zjn 0 (fun j=>Qte [] (j * 5) 5) (fun k=>(ja i k).sc)⟩ ⟨jn i,5,fun k=>(ja i k).sc⟩:=fun i hi=>by
  subst hzpl hzjn
  refine ⟨by show 0+jn i=jn i;omega,rfl,fun j hj=>?_⟩
  simp only[rJn,Nat.not_lt_zero,if_false,Nat.sub_zero]
  exact Qpa _
 have hlo:RowLe ⟨zpl 0 ln,2,zjn 0 (fun j=>Qte [] (j * 2) 2) (fun k=>[.int .u8 (lk k),.int .u8 (lt k)])⟩ ⟨ln,2,fun k=>[.int .u8 (lk k),.int .u8 (lt k)]⟩:=by
  subst hzpl hzjn
  refine ⟨by show 0+ln=ln;omega,rfl,fun j hj=>?_⟩
  simp only[rJn,Nat.not_lt_zero,if_false,Nat.sub_zero]
  exact Qpa _
 repeat' (first
  | refine goa ?_|refine go3 (fun hlt=>?_) (fun hge=>?_)|refine go2 (fun h=>?_) (fun h=>?_)|exact go0|refine gof ?_|refine gob ?_|refine Qvha ?_ ?_
  | fail)
 with_reducible refine Q4d (by kernel_rfl) ?_
 refine Q9d 1 4 rfl rfl rfl rfl rfl trivial rfl (Q2g (Qmc _)) Qi4 (fun a0 _=>?_)
 rw[show (Q3a (Q3a (Qwa ⟨pa,un,lA,ln,lc,lk,lt,bA,bn,bc,sA,sn,sc,s,jA,jn,jc,ja,jk,jo,jf,jx,je,jd⟩) 4 NoFam) 4 (Q1g a0 [.int .i64 pa,.bool un,.xs 0 0,.xs 1 0]))=Q3a (Q3a (Q3a (Qwa ⟨pa,un,lA,ln,lc,lk,lt,bA,bn,bc,sA,sn,sc,s,jA,jn,jc,ja,jk,jo,jf,jx,je,jd⟩) 4 NoFam) 4 (Q1g a0 [.int .i64 pa,.bool un,.xs 0 0,.xs 1 0])) 5 (tg 0 (fun _=>(none,0)) (fun _=>(none,0))) from by rw[t0];exact Qsja]
 have hc5:=Qyf (K:=4) (a:=a0) (cs:=[.int .i64 pa,.bool un,.xs 0 0,.xs 1 0]) (Q2g (Qmc ⟨pa,un,lA,ln,lc,lk,lt,bA,bn,bc,sA,sn,sc,s,jA,jn,jc,ja,jk,jo,jf,jx,je,jd⟩)) rfl Qvc
 have hz0:(0:Nat)<=bn/\∀j:Nat,Q3d w ((fun _=>((none:Option Addr),0):TwA) j).1/\Q3d w ((fun _=>((none:Option Addr),0):TwA) j).1:=⟨Nat.zero_le _,fun j=>⟨fun b p h=>(by cases h),fun b p h=>(by cases h)⟩⟩
 have hbl:∀i A B (a1 a2:Option Addr) (c1 c2:Nat),i<bn->RowLe ⟨zpl i 1,14,zjn i (tb A B) (fun j=>Qte [.val (.slice a1 (sn i) c1),.int .u8 (jk i),.int .u8 (jo i).k,.int .i64 (jo i).n,.int .i64 (jo i).p.l,.bool (jo i).p.d,.int .u8 (jo i).p.f,.int .i64 (jf i),.int .i64 (jx i),.int .i64 (je i),.val (.slice a2 (jn i) c2),.int .i64 (jd i).l,.bool (jd i).d,.int .u8 (jd i).f] (0+j * 14) 14)⟩ ⟨i+1,14,tb (tu A i (a1,c1)) (tu B i (a2,c2))⟩:=fun i A B a1 a2 c1 c2 hi=>by
  refine Q7a hzpl hzjn rfl (fun j hj=>?_) ?_
  · rw[hb1 i A B _ _ j hj];exact Qpa _
  · rw[hb2];exact Qpa _
 repeat' (first
  | refine goa ?_|refine go3 (fun hlt=>?_) (fun hge=>?_)|refine go2 (fun h=>?_) (fun h=>?_)|exact go0|refine god ?_|refine gof ?_|refine Qvha ?_ ?_
  | refine gob ?_
  | ((with_reducible refine Q4c ?_ ?_);(·first|((rw[hzpl];show i+1<=1073741824;omega))))
  | (((with_reducible apply Q9q 2 3 14);(·(cbv;try rfl))))
  | (((with_reducible apply Q9q 3 3 14);(·(cbv;try rfl))))
  | (((with_reducible refine Qne (σ:={x:Nat×TwA×TwA // x.1<=bn/\∀j,Q3d w (x.2.1 j).1/\Q3d w (x.2.2 j).1}) (fun x=>Q3a (Q3a (Q3a (Qwa ⟨pa,un,lA,ln,lc,lk,lt,bA,bn,bc,sA,sn,sc,s,jA,jn,jc,ja,jk,jo,jf,jx,je,jd⟩) 4 NoFam) 4 (Q1g a0 [.int .i64 pa,.bool un,.xs 0 0,.xs 1 0])) 5 (tg x.1.1 x.1.2.1 x.1.2.2)) [5,15,16,17,18,19,20,21,22,23,24,25,26,27,28,29,30,31,32,33,34,35,36,37,38,39,40,41,42,43,44,45,46,47,48,49] (fun x=>[(4,.pt (.one (.int .i64 (.ofNat x.1.1))))]) (fun x=>[]) (fun x=>[(0,⟨ln,2,fun k=>[.int .u8 (lk k),.int .u8 (lt k)]⟩),(1,⟨x.1.1,14,tb x.1.2.1 x.1.2.2⟩)]) (fun x=>bn - x.1.1) ⟨(0,fun _=>(none,0),fun _=>(none,0)),hz0⟩ rfl rfl ?_ ?_ ?_ ?_);(·(refine Q8c ?_ ?_ ?_ ?_<;>(cbv;(try simp only[true_and,and_true]);(try ((repeat' apply And.intro)<;>(first|trivial|rfl|exact RowLe.rfl' _|exact hlo|exact Q0a rfl (fun j hj=>absurd hj (Nat.not_lt_zero _))|(rw[Qda har _ o9])|(exact hbl _ _ _ _ _ _ _ y9)))))));(·(cbv;try rfl));(·simp);(rintro ⟨⟨i,A,B⟩,hi,hAB⟩ mm hmm)))
  | (((with_reducible refine Q4c ?_ ?_);(·exact ⟨fun j hj=>⟨rfl,rfl⟩,by rw[hzpl];show 0+ln<=1073741824;omega⟩)))
  | (((with_reducible refine Q4c ?_ ?_);(·exact ⟨fun j hj=>⟨rfl,rfl⟩,by rw[hzpl];show 0+sn i<=1073741824;have:=bs i y9;omega⟩);(refine Qnc 2 0 i (fun a cap=>th i A B (a,cap)) (R:=⟨sn i,26,fun k=>(s i k).sc⟩) rfl (hst i y9) rfl (fun v=>rfl) ⟨fun _ _=>rfl,fun j _=>tbq A B j,trivial⟩ (fun j hj=>rfl) hc5 (fun p j k h=>tp i A B p j k h) (tz i A B) (fun a cap p' i' h=>h1 i A B a cap p' i' h) (fun a cap=>h2 i A B a cap) (fun a1 c1 hn1=>?_))))
  | (((with_reducible refine Q4c ?_ ?_);(·exact ⟨fun j hj=>⟨rfl,rfl⟩,by rw[hzpl];show 0+jn i<=1073741824;have:=bj i y9;omega⟩);(refine Qnc 3 1 i (fun a cap=>tk i A B (a1,c1) (a,cap)) (R:=⟨jn i,5,fun k=>(ja i k).sc⟩) rfl (hja i y9) rfl (fun v=>rfl) ⟨fun _ _=>rfl,fun j _=>tbq A B j,trivial⟩ (fun j hj=>rfl) hc5 (fun p j k h=>hp i A B (a1,c1) p j k h) (hz i A B (a1,c1)) (fun a cap p' i' h=>h3 i A B (a1,c1) a cap p' i' h) (fun a cap=>h4 i A B (a1,c1) a cap) (fun a2 c2 hn2=>?_))))
  | (((with_reducible refine Qqe (⟨(i+1,tu A i (a1,c1),tu B i (a2,c2)),by omega,fun j=>⟨huN (fun j=>(hAB j).1) hn1 j,huN (fun j=>(hAB j).2) hn2 j⟩⟩:{x:Nat×TwA×TwA // x.1<=bn/\∀j,Q3d w (x.2.1 j).1/\Q3d w (x.2.2 j).1}) (by rw[hup]) ?_ ?_ ?_ ?_);(·exact Nat.lt_of_lt_of_eq (show bn - (i+1)<bn - i by omega) (Eq.symm y9));(·(refine Q8c ?_ ?_ ?_ ?_<;>(cbv;(try simp only[true_and,and_true]);(try ((repeat' apply And.intro)<;>(first|trivial|rfl|exact RowLe.rfl' _|exact hlo|exact Q0a rfl (fun j hj=>absurd hj (Nat.not_lt_zero _))|(rw[Qda har _ o9])|(exact hbl _ _ _ _ _ _ _ y9)))))));(·(cbv;try rfl));(·simp)))
  | (((have hi_:i<=bn:=hi);(have e_:i=bn:=o9);(subst e_);(with_reducible apply Q7q hT (A,B));(·(cbv;try rfl));(·(cbv;try rfl));(·(cbv;(try simp only[true_and,and_true]);(try ((repeat' apply And.intro)<;>(first|trivial|rfl|decide)))));(·(cbv;(try simp only[true_and,and_true]);(try ((repeat' apply And.intro)<;>(first|trivial|rfl|exact RowLe.rfl' _)))));(·rfl);(·exact fun p j k h=>tp i A B p j k h);(·exact fun p j=>tN hAB p j);(·exact ⟨fun _ _=>rfl,fun j _=>tbp A B j,trivial⟩);(·rfl)))
  | (fail)
  | fail)
end Go.Proofs.Ytemnfncbgalljab
