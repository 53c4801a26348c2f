/- Lemmas. No condition. -/
import Derived.Test.YtemnfncbgalljaaGreatV6
import Derived.Test.YtemnfncbgalljaaGreatW1
import Derived.Test.YtemnfncbgalljaaGreatE4
namespace Go.Proofs.YtemnfncbgalljaaGreat
open Go.RowKit
set_option linter.all false
set_option maxHeartbeats 64000000
noncomputable def Qqt (F:GFun) (l j:Nat):Bool:=Qzd (F.lk l)&&(Qdf F).liB l j
theorem Q0d {p:Prop} (h:p:=by (first|((try with_reducible refine Q8c ?_ ?_ ?_ ?_);all_goals (cbv;(try simp only[true_and,and_true]);(try ((repeat' apply And.intro)<;>(first|trivial|rfl|exact RowLe.rfl' _|decide|(rw[Qda har _ o9];done)|((exact hob))|fail))));done)|fail)):Pf p:=⟨h⟩
theorem Qc4 (F:GFun) (w:World) (hF:F.At w) (hO:F.Ok) (hD:F.Fd):
 Calls Tryz.prog 199 #[F.val] w (RetX w (fun _:Nat->Option Addr×Nat=>.tup [.one (.rs 0),.one (.int .i64 0)]) (fun A=>[⟨F.ln,1,fun j=>[.val (.slice (A j).1 (stN F.sn F.bn) (A j).2)]⟩]) (fun A=>rrG A (nnN F.ln (stN F.sn F.bn)) (Qqt F))):=by
 have h10 wc (hk:KB ⟨w,[]⟩ wc):=Q57 F wc (hF.later hk) hO hD
 have h2 wc (hk:KB ⟨w,[]⟩ wc) (l:Nat) (hl:l<F.ln):=Qvaa F (.ofNat l) wc (hF.later hk) (Int.natCast_nonneg l) (Int.ofNat_lt.2 hl)
 have hN9:=hO.pts
 have hN0:=Qdl hO
 have hl16:=hO.ln16
 obtain ⟨N,hN⟩:=x9 (stN F.sn F.bn)
 obtain ⟨rm,hrm⟩:=x9 (liM F:N9z)
 obtain ⟨ow,how⟩:=x9 (Qqt F:B9y)
 have h1 wc (hk:KB ⟨w,[]⟩ wc):Calls Tryz.prog 246 #[F.val] wc (RetR wc (Qwa F) (.tup [.one (.rs 0),.one (.int .i64 0)]) [⟨N,1,fun j=>[.int .u32 (.ofNat (rm j))]⟩]):=by
  rw[hrm,hN];exact h10 wc hk
 obtain ⟨rk,hrk⟩:=x9 (fun l=>Qzd (F.lk l):B9z)
 have h2' (wc:World) (hk:KB ⟨w,[]⟩ wc) (l:Nat) (hl:l<F.ln):Calls Tryz.prog 247 #[F.val,.int .i64 (.ofNat l)] wc (Ret wc (.bool (rk l))):=by
  rw[hrk];exact h2 wc hk l hl
 have hbt:∀{ar:A9z},ar=rAr->∀l j,l<F.ln->(rk l=false->ow l j=false)/\(rk l=true->decide (ar .and .u32 (ar .shr .u32 (.ofNat (rm j)) (.ofNat l)) 1=1)=ow l j):=by
  intro ar har l j hl
  rw[hrk,how,hrm]
  refine ⟨fun h=>by unfold Qqt;rw[show Qzd (F.lk l)=false from h];rfl,fun h=>?_⟩
  unfold Qqt liM
  rw[show Qzd (F.lk l)=true from h,Bool.true_and,Qd2 har o9 hl]
  generalize (Qdf F).liB l j=b;cases b<;>rfl
 rw[<-hN]
 rw[<-hN] at hN9 hN0
 rw[<-how]
 clear h10 h2 hrm how hN hrk hO hD
 obtain ⟨pa,un,lA,ln,lc,lk,lt,bA,bn,bc,sA,sn,sc,s,jA,jn,jc,ja,jk,jo,jf,jx,je,jd⟩:=F
 obtain ⟨hX,hl,hb,hs,hj⟩:=hF
 simp only at hl hb hs hj
 try simp only at h1 h2' hbt hl16
 refine Qaa (args:=[.pt (.agg (GFun.dat _))]) (c:=(Qwa _)) Tryz.func199 rfl hX rfl rfl ?_
 obtain ⟨_,_,_,hnt,ar,har,_,hcm,_,_,_,_,ar01,ar12,_,hzpl,_,_,zup,hzup,_,_,_,_,hT⟩:=Qca
 have hbt:=@hbt ar har
 have hmk:(N:Int)<=1073741824:=by omega
 have hc4:∀q i j,q<4->j<(Qwa ⟨pa,un,lA,ln,lc,lk,lt,bA,bn,bc,sA,sn,sc,s,jA,jn,jc,ja,jk,jo,jf,jx,je,jd⟩ q i).n->qbL 4 ((Qwa ⟨pa,un,lA,ln,lc,lk,lt,bA,bn,bc,sA,sn,sc,s,jA,jn,jc,ja,jk,jo,jf,jx,je,jd⟩ q i).el j)=true:=fun q i j hq hj=>by
  match q,hq with
  | 0,_=>rfl
  | 1,_=>rfl
  | 2,_=>rfl
  | 3,_=>rfl
 obtain ⟨sv,hsv⟩:=x9 (fun V n v j=>if j=n then v else V j:(Nat->Value)->Nat->Value->Nat->Value)
 obtain ⟨fF,hfF⟩:=x9 (fun i n i' j=>if i'=i then decide (j<n)&&ow i j else ow i' j:Nat->Nat->Nat->Nat->Bool)
 have h0:∀{E E1:O9z} {i:Nat} {V:Nat->Value} {ad:Option Addr} {cap:Nat} {xs:List Value} {c:R9z},RR E i N V ow->(∀b,(Value.slice ad N cap).ownBlock≠some b->E1 b=E b)->(∀b,(Value.slice ad N cap).ownBlock=some b->E b=none)->ExRow E1 1 (.slice ad N cap) N xs->Q3c c ⟨N,1,fun _=>[.lit false]⟩ xs->RR E1 (i+1) N (sv V i (.slice ad N cap)) (fF i 0):=by
  intro E E1 i V ad cap xs c hL g1 g2 g3 g4
  have:=hL.push hN0 g1 g2 g3 (f':=fun _=>false) (fun j hj=>Qh4 g4 hj)
  refine this.ext (Nat.le_refl _) (fun i' _=>by rw[hsv]) (fun i' j _ _=>?_)
  rw[hfF]
  simp only[Nat.not_lt_zero,decide_false,Bool.false_and]
 have hs2:∀{E2 E3:O9z} {i k g p cap:Nat} {V:Nat->Value} {cur:Array Value} {ty:TypeId} {b:Bool},RR E2 (i+1) N V (fF i k)->k<N->V i=.slice (some ⟨g,p,none⟩) N cap->E2 g=some (.cells cur ty (0,0))->p+k<cur.size->b=ow i k->E3=exSet E2 g (.cells (Qka cur.toList (p+k) [.bool b]).toArray ty (0,0))->RR E3 (i+1) N V (fF i (k+1)):=by
  intro E2 E3 i k g p cap V cur ty b hL hk hV hE hp hb' e
  subst e
  refine (hL.put (Nat.lt_succ_self i) hk hV hE hp).ext (Nat.le_refl _) (fun _ _=>rfl) (fun i' j _ _=>?_)
  rw[hfF]
  simp only
  by_cases e:i'=i
  · subst e
    simp only[if_true,true_and]
    by_cases e2:j=k
    · subst e2
      rw[if_pos rfl,decide_eq_true (Nat.lt_succ_self j),Bool.true_and,hb']
    · rw[if_neg e2]
      have:decide (j<k+1)=decide (j<k):=decide_eq_decide.2 o9
      rw[this]
  · simp only[if_neg e,e,false_and,if_false]
 have h3:∀{E2:O9z} {i k:Nat} {V:Nat->Value},RR E2 (i+1) N V (fF i k)->N<=k->RR E2 (i+1) N V ow:=by
  intro E2 i k V hL hk
  refine hL.ext (Nat.le_refl _) (fun _ _=>rfl) (fun i' j _ hj=>?_)
  rw[hfF]
  simp only
  split
  · rename_i e;rw[decide_eq_true (show j<k by omega),e];rfl
  · rfl
 have hob:∀{V:Nat->Value} {n:Nat} {v:Value},RowLe ⟨ln,1,zup (fun j=>[.val (V j)]) n 0 [.val v]⟩ ⟨ln,1,fun j=>[.val (sv V n v j)]⟩:=by
  intro V n v
  refine Qad hzup rfl (fun j hj h=>⟨?_,trivial⟩) (fun _=>⟨?_,trivial⟩)
  · rw[hsv];simp only[if_neg h];rfl
  · rw[hsv];simp only[if_true];rfl
 have hfin:∀{V:Nat->Value} {A:Nat->Option Addr×Nat},(∀i,i<ln->V i=.slice (A i).1 N (A i).2)->RowLe ⟨ln,1,fun j=>[.val (V j)]⟩ ⟨ln,1,fun j=>[.val (.slice (A j).1 N (A j).2)]⟩:=fun {V A} h=>Q0a rfl fun j hj=>⟨by rw[h j hj];rfl,trivial⟩
 have hnn:∀X:Int,0<=X->X<X.toNat+1:=fun X h=>by omega
 refine Que (fun _=>none) (fun b o h=>h) ?_
 repeat' (first
  | refine goa ?_|refine go3 (fun hlt=>?_) (fun hge=>?_)|refine go2 (fun h=>?_) (fun h=>?_)|exact go0|refine god ?_|refine gof ?_|refine Qvha ?_ ?_
  | refine gob ?_
  | ((with_reducible refine Q4c ?_ ?_);(·first|((exact ⟨Int.natCast_nonneg N,hmk⟩))|((exact ⟨Int.natCast_nonneg ln,(show (ln:Int)<=1073741824 by omega)⟩))))
  | ((with_reducible apply Qoa (hf:=Tryz.call246));(·intro S;cbv;try rfl);(·intro wc S hbc hxc hrc;exact h1 wc hbc.nx);(·rfl))
  | (refine' Qiha Tryz.call247 ?_ ?_;rotate_left;(·intro wc hbc hxc;exact h2' wc hbc.nx i y9))
  | ((with_reducible refine Q9e (σ:={x:Nat×(Nat->Option Obj)×(Nat->Value) // x.1<=ln/\RR x.2.1 x.1 N x.2.2 ow}) (fun _=>Qwa ⟨pa,un,lA,ln,lc,lk,lt,bA,bn,bc,sA,sn,sc,s,jA,jn,jc,ja,jk,jo,jf,jx,je,jd⟩) (fun x=>x.1.2.1) [7,8,9,25,26,27,28,29,30,31,32,33,34,35,36,37,38,39,40,41,42,43,44,45,46,47,48,49,50,51,52,53,54,55,56,57] (fun x=>[(24,.pt (.one (.int .i64 (.ofNat x.1.1))))]) (fun x=>[]) (fun x=>[(1,⟨ln,1,fun j=>[.val (x.1.2.2 j)]⟩)]) (fun x=>ln - x.1.1) ⟨(0,fun _=>none,fun _=>.slice none 0 0),Nat.zero_le _,RR.first⟩ ?_ ?_ ?_ ?_ ?_ ?_);(·rfl);(·exact fun b o h=>h);(·rfl);(·exact pfp Q0d);(·(cbv;try rfl));(rintro ⟨⟨i,E,V⟩,hi,hL⟩ mm hmm;refine Que E (fun b o h=>h) ?_))
  | ((refine Qjg (Qnw 2 rfl ?_);intro ad cap xs E1 g1 g2 g3 g4;have hS0:=h0 hL g1 (fun b hb=>(g2 b hb).2) g3 g4))
  | ((with_reducible refine Q9e (σ:={x:Nat×(Nat->Option Obj) // x.1<=N/\RR x.2 (i+1) N (sv V i (.slice ad N cap)) (fF i x.1)}) (fun _=>Qwa ⟨pa,un,lA,ln,lc,lk,lt,bA,bn,bc,sA,sn,sc,s,jA,jn,jc,ja,jk,jo,jf,jx,je,jd⟩) (fun x=>x.1.2) [8,9,36,37,38,39,40,41,42,43,44,45,46,47,48,49,50,51,52,53,54,55,56] (fun x=>[(35,.pt (.one (.int .i64 (.ofNat x.1.1))))]) (fun x=>[]) (fun x=>[(1,⟨ln,1,fun j=>[.val (sv V i (.slice ad N cap) j)]⟩)]) (fun x=>N - x.1.1) ⟨(0,E1),Nat.zero_le _,hS0⟩ ?_ ?_ ?_ ?_ ?_ ?_);(·rfl);(·exact fun b o h=>h);(·rfl);(·exact pfp Q0d);(·(cbv;try rfl));(rintro ⟨⟨k,E2⟩,hk,hL2⟩ mm hmm;refine Que E2 (fun b o h=>h) ?_))
  | ((obtain ⟨g,p,cap',cur,ty,hv,hE,w1_,w2_,w3_,w4_⟩:=hL2.row i (Nat.lt_succ_self i);refine Qou hT rfl rfl rfl rfl rfl hv rfl y9 ?_;intro a9 ha9))
  | ((refine Qtk hT rfl rfl rfl rfl rfl (.inl rfl) hE o9 ?_;intro E3 hE3))
  | ((refine Qtk hT rfl rfl rfl rfl rfl (.inr rfl) hE o9 ?_;intro E3 hE3))
  | ((refine Qpe (⟨(k+1,E3),Nat.succ_le_of_lt y9,hs2 hL2 y9 hv hE o9 (by first|exact (hbt i k y9).2 y9|exact ((hbt i k y9).1 y9).symm) (by rw[<-ha9];exact hE3)⟩:{x:Nat×(Nat->Option Obj) // x.1<=N/\RR x.2 (i+1) N (sv V i (.slice ad N cap)) (fF i x.1)}) ?_ ?_ ?_ ?_ ?_);(·rfl);(·exact fun b o h=>h);(·exact Nat.lt_of_lt_of_eq (show N - (k+1)<N - k from by omega) (Eq.symm y9));(·exact pfp Q0d);(·(cbv;try rfl)))
  | ((refine Qpe (⟨(i+1,E2,sv V i (.slice ad N cap)),Nat.succ_le_of_lt y9,h3 hL2 y9⟩:{x:Nat×(Nat->Option Obj)×(Nat->Value) // x.1<=ln/\RR x.2.1 x.1 N x.2.2 ow}) ?_ ?_ ?_ ?_ ?_);(·rfl);(·exact fun b o h=>h);(·exact Nat.lt_of_lt_of_eq (show ln - (i+1)<ln - i from by omega) (Eq.symm y9));(·exact pfp Q0d);(·(cbv;try rfl)))
  | ((have hR9:RR E ln N V ow:=(by have e:i=ln:=Nat.le_antisymm hi y9;rw[<-e];exact hL);refine Q6q 4 hT hR9 (X:=.tup [.one (.rs 1),.one (.int .i64 0)]) (sel:=[.own 1]) ?_ ?_ ?_ ?_ ?_ ?_ ?_ ?_ ?_ ?_ ?_;(·(cbv;try rfl));(·(cbv;try rfl));(·(cbv;try exact ⟨trivial,trivial⟩));(·intro A hA;exact ⟨hfin hA,trivial⟩);(·rfl);(·rfl);(·exact ⟨fun j hj=>rfl,fun j hj=>rfl,trivial⟩);(·exact hc4);(·rfl);(·intro A;exact ⟨fun j hj=>rfl,trivial⟩);(·rfl)))
  | fail)
section
set_option maxRecDepth 100000
def Q4g (F:GFun):Nat:=F.ln+(Qia F (stN F.sn F.bn)).length
def Qe4 (F:GFun) (j:Nat):Int:=((Qlc F).getD j .zero).fr
def Qg4 (F:GFun) (j:Nat):Int:=((Qlc F).getD j .zero).to
noncomputable def owB (F:GFun) (i j:Nat):Bool:=decide (i<F.ln)&&Qzd (F.lk i)&&(Qdf F).liB i j
noncomputable def Qfl (F:GFun):Nat->Nat->Bool:=Qd6 (Q4g F) (Qlc F).length (Qe4 F) (Qg4 F) (owB F)
theorem Q5k (F:GFun):∀n,(Qia F n).length<=Qxl F n
 | 0=>Nat.le_refl _
 | n+1=>by
   have:=Q5k F n
   simp only[Qia,List.length_append,Qxl]
   by_cases h:Qge F n=true
   · rw[if_pos h];split<;>simp<;>omega
   · rw[if_neg h,if_neg (fun g=>h g.1)];simpa using this
theorem Qbo {F:GFun} (h:F.Ok):(Qia F (stN F.sn F.bn)).length<=576/\Q4g F<=592:=by
 have h1:=Q5k F (stN F.sn F.bn)
 have h2:=Q5m (F:=F) F.bn (Nat.le_refl _)
 have h3:=Q8t (sn:=F.sn) (fun b hb=>h.sn24 hb) F.bn (Nat.le_refl _)
 have:=h.bn24
 have:=h.ln16
 unfold Q4g
 omega
theorem Qaw {F:GFun} (hO:F.Ok):Qnv (Q4g F) (Qlc F).length (Qe4 F) (Qg4 F):=fun i hi=>by
 obtain ⟨a,h⟩:=@Q6m F (n:=stN F.sn F.bn) i (by rw[<-Qth];exact hi)
 rw[<-Qth] at h
 have hq:=hO.nearAt h.lt h.ok.is h.ok.k
 unfold Qe4 Qg4 Q4g
 have e1:=h.ok.to
 have hto:0<=((Qlc F).getD i .zero).to/\((Qlc F).getD i .zero).to<F.ln:=by rw[<-e1];exact hq.1
 rcases h.ok.why with ⟨_,h2,h3⟩|⟨_,_,_,h2,_⟩|⟨_,_,_,h2,_⟩
 · have:=(Qng h.ok.is h.ok.k h3 _ h.lt).1
   rw[h2];simp only[Int.ofNat_eq_natCast];omega
 · have:=hq.2.1
   rw[h2] at this;omega
 · have:=hq.2.2
   rw[h2] at this;omega
theorem Qyb {p:Prop} (h:p:=by (first|((try with_reducible refine Q8c ?_ ?_ ?_ ?_);all_goals (cbv;(try simp only[true_and,and_true]);(try ((repeat' apply And.intro)<;>(first|trivial|rfl|exact RowLe.rfl' _|decide|(rw[Qda har _ o9];done)|((rw[q0];rfl))|((rw[Qda har j (by have h9:j<sn i:=y9;have h8:=bs i y9;omega)]))|((rw[Qda har (q i j) (by have h9:=q9 i j y9 hj;omega),q1 i j y9 y9 (of_decide_eq_true y9) (of_decide_eq_true y9)]))|((rw[q2 i j y9 y9 (fun g=>of_decide_eq_false y9 g.1)]))|((rw[q2 i j y9 y9 (fun g=>of_decide_eq_false y9 g.2)]))|((have e9:j=sn i:=(Nat.le_antisymm hj y9);rw[<-q3 i y9,e9]))|fail))));done)|fail)):Pf p:=⟨h⟩
theorem Q67 (F:GFun) (w:World) (hF:F.At w) (hO:F.Ok):
 Calls Tryz.prog 201 #[F.val] w (Ret w (.int .i64 (.ofNat (Qia F (stN F.sn F.bn)).length))):=by
 have hl9:∀a,(Qia F a).length<=a:=Qxb F
 have bs:=hO.small.s
 have bb:=hO.small.b
 have hq1:∀i j,i<F.bn->j<F.sn i->(F.s i j).k=1->(F.s i j).r.k=4->(Qia F (stN F.sn i+(j+1))).length=(Qia F (stN F.sn i+j)).length+1:=fun i j hi hj h1 h2=>by
  have e:=Q7l hi (show j<=F.sn i by omega)
  have g:Qge F (stN F.sn i+j)=true:=Q7c.2 (by rw[e.1,e.2];exact hj)
  have gs:stAt F (stN F.sn i+j)=F.s i j:=by unfold stAt;rw[e.1,e.2,if_pos hj]
  rw[<-Nat.add_assoc]
  simp only[Qia]
  rw[if_pos ⟨g,by rw[gs];exact h1,by rw[gs];exact h2⟩]
  simp
 have hq2:∀i j,i<F.bn->j<F.sn i->¬((F.s i j).k=1/\(F.s i j).r.k=4)->(Qia F (stN F.sn i+(j+1))).length=(Qia F (stN F.sn i+j)).length:=fun i j hi hj h=>by
  have e:=Q7l hi (show j<=F.sn i by omega)
  have gs:stAt F (stN F.sn i+j)=F.s i j:=by unfold stAt;rw[e.1,e.2,if_pos hj]
  rw[<-Nat.add_assoc]
  simp only[Qia]
  rw[if_neg (fun g=>h (by rw[gs] at g;exact g.2))]
  simp
 have hq3:∀i,i<F.bn->(Qia F (stN F.sn (i+1))).length=(Qia F (stN F.sn i+F.sn i)).length:=fun i hi=>by
  have e:=Q7l hi (Nat.le_refl (F.sn i))
  have g:¬Qge F (stN F.sn i+F.sn i)=true:=fun g=>by
   have:=Q7c.1 g
   rw[e.1,e.2] at this;omega
  have e2:stN F.sn (i+1)=stN F.sn i+F.sn i+1:=rfl
  rw[e2]
  simp only[Qia]
  rw[if_neg (fun h=>g h.1)]
  simp
 have hN:=fun i (hi:i<=F.bn)=>Qtm bs i hi
 obtain ⟨q,hq⟩:=x9 (fun i j=>(Qia F (stN F.sn i+j)).length:Nat->Nat->Nat)
 have q1:∀i j,i<F.bn->j<F.sn i->(F.s i j).k=1->(F.s i j).r.k=4->q i (j+1)=q i j+1:=by rw[hq];exact hq1
 have q2:∀i j,i<F.bn->j<F.sn i->¬((F.s i j).k=1/\(F.s i j).r.k=4)->q i (j+1)=q i j:=by rw[hq];exact hq2
 have q3:∀i,i<F.bn->q i (F.sn i)=q (i+1) 0:=fun i hi=>by rw[hq];(first|done|exact (hq3 i hi).symm)
 have q0:q 0 0=0:=by rw[hq]<;>rfl
 have q9:∀i j,i<F.bn->j<=F.sn i->q i j<=100000:=fun i j hi hj=>by
  rw[hq]
  have h1:=hl9 (stN F.sn i+j)
  have h2:=hN i o9
  have h3:=bs i hi
  show (Qia F (stN F.sn i+j)).length<=100000
  have:i * 31<=100 * 31:=by omega
  omega
 have qN:(Qia F (stN F.sn F.bn)).length=q F.bn 0:=by rw[hq]<;>rfl
 rw[qN]
 clear hq1 hq2 hq3 hq hl9 hN qN hO
 obtain ⟨_,_,_,_,_,_,_,_,bn,_,_,sn,_,_,_,_,_,_,_,_,_,_,_,_⟩:=F
 obtain ⟨hX,hl,hb,hs,hj⟩:=hF
 simp only at hl hb hs hj
 simp only at bs bb q1 q2 q3 q9
 refine Qaa (args:=[.pt (.agg (GFun.dat _))]) (c:=(Qwa _)) Tryz.func201 rfl hX rfl rfl ?_
 obtain ⟨_,_,_,hnt,_,har,_,hcm,_,_,_,_,ar01,ar12,_,hzpl,_,_,_,_,_,_,_,_,hT⟩:=Qca
 repeat' (first
  | refine go1 ?_|refine go3 (fun hlt=>?_) (fun hge=>?_)|refine go2 (fun h=>?_) (fun h=>?_)|refine gof ?_
  | ((with_reducible refine Qgha (σ:={i:Nat // i<=bn}) (zs9 [5,1,7,1,12,23]) (fun x=>[zc9 11 x.1,(3,.pt (.one (.int .i64 (.ofNat (q x.1 0)))))]) (fun x=>[]) (fun x=>[]) (fun x=>bn - x.1) ⟨0,Nat.zero_le _⟩ ?_ ?_);(·exact pfp Qyb);(rintro ⟨i,hi⟩ mm hmm))
  | ((with_reducible refine Qgha (σ:={j:Nat // j<=sn i}) (zs9 [7,1,19,15]) (fun x=>[zc9 18 x.1,(3,.pt (.one (.int .i64 (.ofNat (q i x.1)))))]) (fun x=>[]) (fun x=>[]) (fun x=>sn i - x.1) ⟨0,Nat.zero_le _⟩ ?_ ?_);(·exact pfp Qyb);(rintro ⟨j,hj⟩ mm hmm))
  | ((with_reducible refine Qfha (⟨j+1,Nat.succ_le_of_lt y9⟩:{j:Nat // j<=sn i}) ?_ ?_);(·exact Nat.lt_of_lt_of_eq (show sn i - (j+1)<sn i - j from by omega) (Eq.symm y9));(·exact pfp Qyb))
  | ((with_reducible refine Qfha (⟨i+1,Nat.succ_le_of_lt y9⟩:{i:Nat // i<=bn}) ?_ ?_);(·exact msr o9 y9);(·exact pfp Qyb))
  | fail)
 all_goals (have e9:i=bn:=Nat.le_antisymm hi y9;subst e9;rfl)
theorem Qu1 (F:GFun) (w:World) (hF:F.At w) (hO:F.Ok) (hD:F.Fd):
 Calls Tryz.prog 137 #[F.val] w (RetX w (fun _:AdF=>.tup [.one (.rs 0),.one (.int .i64 0)]) (fun A=>[⟨Q4g F,1,fun j=>[.val (.slice (A j).1 (stN F.sn F.bn) (A j).2)]⟩]) (fun A=>rrG A (nnN (Q4g F) (stN F.sn F.bn)) (Qfl F))):=by
 have h10 wc (hk:KB ⟨w,[]⟩ wc):=Qc4 F wc (hF.later hk) hO hD
 have h50 wc (hk:KB ⟨w,[]⟩ wc) {c:R9z}:=Calls.to (c':=c) (Qfs _) rfl (Q93 F wc (hF.later hk) hO.small hO.nearS hO.chk)
 have h60 wc (hk:KB ⟨w,[]⟩ wc):=Q67 F wc (hF.later hk) hO
 have h70:=fun (wc:World) (c:R9z) (v v':Value) (B:AdF) hx hB=>Q37 (Q4g F) (Qlc F).length (stN F.sn F.bn) (owB F) (Qe4 F) (Qg4 F) (fun j=>((Qlc F).getD j .zero).at_) (fun j=>((Qlc F).getD j .zero).why) wc c v v' B hx hB (Qbo hO).2 hO.cons hO.pts (Qaw hO)
 have hN9:=hO.pts
 have hN0:=Qdl hO
 have hl16:=hO.ln16
 have hlp:=hO.lpos
 have hP9:=(Qbo hO).1
 have hRN:Q4g F=F.ln+(Qia F (stN F.sn F.bn)).length:=rfl
 obtain ⟨rN,hrN⟩:=x9 (Q4g F)
 obtain ⟨P,hP⟩:=x9 ((Qia F (stN F.sn F.bn)).length)
 obtain ⟨N,hN⟩:=x9 (stN F.sn F.bn)
 obtain ⟨M,hM⟩:=x9 ((Qlc F).length)
 obtain ⟨fr,hfr⟩:=x9 (Qe4 F:I9z)
 obtain ⟨tn,htn⟩:=x9 (Qg4 F:I9z)
 obtain ⟨an,han⟩:=x9 (fun j=>((Qlc F).getD j .zero).at_:I9z)
 obtain ⟨wy,hwy⟩:=x9 (fun j=>((Qlc F).getD j .zero).why:I9z)
 obtain ⟨ox,hox⟩:=x9 (owB F:B9y)
 obtain ⟨rf,hrf⟩:=x9 (Qfl F:B9y)
 obtain ⟨nr,hnr⟩:=x9 (nnN (Q4g F) (stN F.sn F.bn):N9z)
 obtain ⟨tg,th,tu,htg,t0,tp,tz,k3,k4,hup,hu1,hu2,huN,tN⟩:=Qyi N ox
 obtain ⟨sK,hsK⟩:=x9 (fun k=>F.ln+k:N9z)
 have hs0K:sK 0=F.ln:=by rw[hsK]<;>rfl
 have hs1K:∀k,sK (k+1)=sK k+1:=fun k=>by rw[hsK]<;>rfl
 have hsE:∀k,sK k=F.ln+k:=fun k=>by rw[hsK]
 have hz:∀i j,ox (F.ln+i) j=false:=fun i j=>by rw[hox];unfold owB;rw[decide_eq_false o9];rfl
 have h1 wc (hk:KB ⟨w,[]⟩ wc):Calls Tryz.prog 199 #[F.val] wc (RetX wc (fun _:AdF=>.tup [.one (.rs 0),.one (.int .i64 0)]) (fun A=>[⟨F.ln,1,fun j=>[.val (.slice (A j).1 N (A j).2)]⟩]) (fun A=>tg F.ln A)):=by
  have e:(fun A:AdF=>tg F.ln A)=fun A=>rrG A (nnN F.ln (stN F.sn F.bn)) (owB F):=by funext A;rw[htg,hN,hox]
  rw[e,hN]
  refine (h10 wc hk).mono fun en w' h=>h.fam fun A p i j hj=>?_
  unfold rrG at hj⊢
  by_cases hp:p=0
  · rw[if_pos hp] at hj⊢
    rw[if_pos hp]
    simp only at hj
    by_cases hi:i<F.ln
    · have e:∀j,Qqt F i j=owB F i j:=fun j=>by unfold Qqt owB;rw[decide_eq_true hi,Bool.true_and]
      simp only[e]
    · rw[nnN,if_neg hi] at hj;exact absurd hj (Nat.not_lt_zero _)
  · rw[if_neg hp,if_neg hp]
 have h5 wc (hk:KB ⟨w,[]⟩ wc) {c:R9z}:Calls Tryz.prog 200 #[F.val] wc (RetR wc c (.tup [.one (.rs 0),.one (.int .i64 0)]) [⟨M,4,fun j=>[.int .i64 (fr j),.int .i64 (tn j),.int .i64 (an j),.int .u8 (wy j)]⟩]):=by
  rw[hM,hfr,htn,han,hwy];exact h50 wc hk
 have h6 wc (hk:KB ⟨w,[]⟩ wc):Calls Tryz.prog 201 #[F.val] wc (Ret wc (.int .i64 (.ofNat P))):=by rw[hP];exact h60 wc hk
 have h7 (wc:World) (k:Nat) (hk:k=P) (v v':Value) (B:AdF) (hx:XOk ⟨[],Q3a (Qwa F) 4 (tg (sK k) B),[]⟩ ⟨wc,[]⟩) (hR:RowIs (Q3a (Qwa F) 4 (tg (sK k) B)) wc ⟨sK k,1,fun j=>[.val (.slice (B j).1 N (B j).2)]⟩ v) (hR':RowIs (Q3a (Qwa F) 4 (tg (sK k) B)) wc ⟨M,4,fun j=>[.int .i64 (fr j),.int .i64 (tn j),.int .i64 (an j),.int .u8 (wy j)]⟩ v'):
  Calls Tryz.prog 202 #[v,v'] wc (RetX wc (fun _:AdF=>.tup [.one (.rs 0),.one (.int .i64 0)]) (fun A=>[⟨rN,1,fun j=>[.val (.slice (A j).1 N (A j).2)]⟩]) (fun A=>rrG A nr rf)):=by
  have e:sK k=rN:=by rw[hsE,hrN,hRN,hk,hP]
  rw[e] at hx hR hR'
  rw[hnr,hrf,hrN]
  unfold Qfl
  rw[hrN] at hx hR hR'
  rw[hM,hfr,htn,han,hwy] at hR'
  rw[hN] at hR⊢
  refine h70 wc _ v v' B hx (fun j hj=>⟨4,j,?_⟩) hR hR'
  rw[htg,hN,hox,Q2a (Nat.le_refl _)]
  show rrG B (nnN (Q4g F) (stN F.sn F.bn)) (owB F) 0 j=_
  unfold rrG
  rw[if_pos rfl,Qde hj]
 have hrP:rN=F.ln+P:=by rw[hrN,hRN,hP]
 rw[<-hrN,<-hN,<-hrf]
 rw[<-hrN,<-hN] at hnr
 rw[<-hnr]
 rw[<-hN] at hN9 hN0
 rw[<-hP] at hP9
 clear h10 h50 h60 h70 hrN hP hN hM hfr htn han hwy hox hrf hnr htg hsK hRN hO hD
 obtain ⟨pa,un,lA,ln,lc,lk,lt,bA,bn,bc,sA,sn,sc,s,jA,jn,jc,ja,jk,jo,jf,jx,je,jd⟩:=F
 obtain ⟨hX,hl,hb,hs,hj⟩:=hF
 simp only at hl hb hs hj
 try simp only at h1 h5 h6 h7 hl16 hz hlp hrP hsE hs0K
 refine Qaa (args:=[.pt (.agg (GFun.dat _))]) (c:=(Qwa _)) Tryz.func137 rfl hX rfl rfl ?_
 obtain ⟨_,_,_,hnt,_,har,_,hcm,_,_,_,_,ar01,ar12,zpl,hzpl,zjn,hzjn,_,_,_,_,_,_,hT⟩:=Qca
 have hc4:∀q i j,q<4->j<(Qwa ⟨pa,un,lA,ln,lc,lk,lt,bA,bn,bc,sA,sn,sc,s,jA,jn,jc,ja,jk,jo,jf,jx,je,jd⟩ q i).n->qbL 4 ((Qwa ⟨pa,un,lA,ln,lc,lk,lt,bA,bn,bc,sA,sn,sc,s,jA,jn,jc,ja,jk,jo,jf,jx,je,jd⟩ q i).el j)=true:=fun q i j hq hj=>by
  match q,hq with
  | 0,_=>rfl
  | 1,_=>rfl
  | 2,_=>rfl
  | 3,_=>rfl
 have hc5:∀n (A:AdF) q i j,q<5->j<(Q3a (Qwa ⟨pa,un,lA,ln,lc,lk,lt,bA,bn,bc,sA,sn,sc,s,jA,jn,jc,ja,jk,jo,jf,jx,je,jd⟩) 4 (tg n A) q i).n->qbL 5 ((Q3a (Qwa ⟨pa,un,lA,ln,lc,lk,lt,bA,bn,bc,sA,sn,sc,s,jA,jn,jc,ja,jk,jo,jf,jx,je,jd⟩) 4 (tg n A) q i).el j)=true:=fun n A q i j hq hj=>by
  by_cases g:q<4
  · rw[Q4a g]
    match q,g with
    | 0,_=>rfl
    | 1,_=>rfl
    | 2,_=>rfl
    | 3,_=>rfl
  · rw[Q2a o9] at hj⊢
    exact Q9c (tp n A _ _ _ hj)
 have hsn:∀i (A:AdF) (a:Option Addr) (cap:Nat),RowLe ⟨zpl (sK i) 1,1,zjn (sK i) (fun j=>[.val (.slice (A j).1 N (A j).2)]) (fun j=>Qte [.val (.slice a N cap)] (0+j * 1) 1)⟩ ⟨sK (i+1),1,fun j=>[.val (.slice (tu A (sK i) (a,cap) j).1 N (tu A (sK i) (a,cap) j).2)]⟩:=fun i A a cap=>by
  refine Q7a hzpl hzjn (hs1K i) (fun j hj=>?_) ?_
  · rw[hu1 A _ _ j hj];exact Qpa _
  · rw[hu2];exact Qpa _
 have hfz:∀i,RowLe ⟨N,1,fun _=>[.lit false]⟩ ⟨N,1,fun k=>[.bool (ox (sK i) k)]⟩:=fun i=>Q0a rfl (fun j hj=>⟨by rw[hsE i,hz i j];rfl,trivial⟩)
 have hmk:(N:Int)<=1073741824:=by omega
 repeat' (first
  | refine goa ?_|refine go3 (fun hlt=>?_) (fun hge=>?_)
  | refine gob ?_
  | ((with_reducible refine Q4c ?_ ?_);(·first|((exact ⟨Int.natCast_nonneg N,hmk⟩))|((rw[hzpl];show sK k+1<=1073741824;rw[hsE k];omega))))
  | (((with_reducible apply Qhc 4 (hf:=Tryz.call199));(·intro S;cbv;try rfl);(·intro wc S hbc hxc hrc;exact h1 wc hbc);(·intro A;rfl);(·intro A;rfl);(·rfl);(·rfl);(·trivial);(·exact hc4);(·intro A;exact ⟨fun j hj=>rfl,trivial⟩);(·intro A p i j hj;exact tp ln A p i j hj);(intro A1 hnew1)))
  | ((with_reducible apply Qoa (hf:=Tryz.call200));(·intro S;cbv;try rfl);(·intro wc S hbc hxc hrc;exact h5 wc hbc);(·rfl))
  | (refine' Qiha Tryz.call201 ?_ ?_;rotate_left;(·intro wc hbc hxc;exact h6 wc hbc))
  | (((with_reducible refine Qne (σ:={x:Nat×AdF // x.1<=P}) (fun x=>Q3a (Qwa ⟨pa,un,lA,ln,lc,lk,lt,bA,bn,bc,sA,sn,sc,s,jA,jn,jc,ja,jk,jo,jf,jx,je,jd⟩) 4 (tg (sK x.1.1) x.1.2)) [7,9,10,26,27,28,29,30,31,32,33,34,35] (fun x=>[(25,.pt (.one (.int .i64 (.ofNat x.1.1))))]) (fun x=>[]) (fun x=>[(0,⟨sK x.1.1,1,fun j=>[.val (.slice (x.1.2 j).1 N (x.1.2 j).2)]⟩)]) (fun x=>P - x.1.1) ⟨(0,A1),Nat.zero_le _⟩ (by rw[hs0K]) rfl ?_ ?_ ?_ ?_);(·(refine Q8c ?_ ?_ ?_ ?_<;>(cbv;(try simp only[true_and,and_true]);(try ((repeat' apply And.intro)<;>(first|trivial|rfl|exact RowLe.rfl' _|(rw[hs0K];exact RowLe.rfl' _)))))));(·(cbv;try rfl));(·simp);(rintro ⟨⟨k,A⟩,hk0⟩ mm hmm);(have hk:k<=P:=hk0)))
  | (((with_reducible apply Qxa);(·exact Int.le_refl _);(·show (0:Int)<((sK k:Nat):Int);rw[hsE k];omega)))
  | ((refine Qjg (Qnc 2 0 (sK k) (fun a cap=>th (sK k) A (a,cap)) (R:=⟨N,1,fun x=>[.bool (ox (sK k) x)]⟩) rfl (hfz k) rfl (fun v=>rfl) ⟨fun _ _=>rfl,fun _ _=>rfl,trivial⟩ (fun j hj=>rfl) hc4 (fun p j x h=>tp (sK k) A p j x h) (tz (sK k) A) (fun a cap p' i' h=>k3 (sK k) A a cap p' i' h) (fun a cap=>k4 (sK k) A a cap) (fun a1 c1 hn1=>?_))))
  | (((with_reducible refine Qqe (⟨(k+1,tu A (sK k) (a1,c1)),Nat.succ_le_of_lt y9⟩:{x:Nat×AdF // x.1<=P}) (by (show _=Q3a _ 4 (tg (sK (k+1)) (tu A (sK k) (a1,c1))));rw[hup,hs1K]) ?_ ?_ ?_ ?_);(·exact Nat.lt_of_lt_of_eq (show P - (k+1)<P - k by omega) (Eq.symm y9));(·(refine Q8c ?_ ?_ ?_ ?_<;>(cbv;(try simp only[true_and,and_true]);(try ((repeat' apply And.intro)<;>(first|trivial|rfl|exact RowLe.rfl' _|(rw[Qda har _ o9])|(exact hsn _ _ _ _)))))));(·(cbv;try rfl));(·simp)))
  | (((with_reducible apply Qhc 5 (hf:=Tryz.call202));(·intro S;cbv;try rfl);(·intro wc S hbc hxc hrc;exact h7 wc k o9 _ _ A hxc (hrc 0 _ rfl) (hrc 1 _ rfl));(·intro A;rfl);(·intro A;rfl);(·rfl);(·rfl);(·exact ⟨fun _ _=>rfl,fun _ _=>rfl,trivial⟩);(·exact hc5 _ _);(·intro A;exact ⟨fun j hj=>rfl,trivial⟩);(·intro A p i j hj;exact Qwc p i j hj);(intro A2 hnew2)))
  | (((with_reducible apply Qcc hT A2);(·(cbv;try rfl));(·(cbv;try rfl));(·(cbv;(try simp only[true_and,and_true]);(try ((repeat' apply And.intro)<;>(first|trivial|rfl|decide)))));(·(cbv;(try simp only[true_and,and_true]);(try ((repeat' apply And.intro)<;>(first|trivial|rfl|exact RowLe.rfl' _)))));(·rfl);(·exact fun p j x h=>Qwc p j x h);(·exact fun p j h=>hnew2 p j h);(·exact ⟨fun _ _=>rfl,trivial⟩);(·rfl)))
  | fail)
end
end Go.Proofs.YtemnfncbgalljaaGreat
