/- Lemmas. No condition. -/
import Derived.Test.YtemnfncbgalljabIdG
import Derived.Test.YtemnfncbgalljabInE
import Derived.Test.YtemnfncbgalljabIrD
namespace Go.Proofs.Ytemnfncbgalljab
open Go.RowKit
set_option linter.all false
def Q0ma (G:SwG) (S:B9z):Bool:=
 (Qed G.N fun n=>!S n||G.i0 n||(List.range n).any fun m=>G.fire m (S m)&&(G.sc m).contains n)&&
 ((Qed G.N fun n=>!G.i0 n||S n)&&(Qed G.N fun m=>!G.fire m (S m)||(G.sc m).all S))
theorem Qfma {G:SwG} {S:B9z} (h:Q0ma G S=true) (hf:∀m,m<G.N->G.fire m false=true->G.fire m true=true) (hl:∀m,m<G.N->∀q∈G.sc m,q<G.N) {n:Nat} (hn:n<G.N):S n=G.sB n:=by
 simp only[Q0ma,Bool.and_eq_true] at h
 obtain ⟨h1,h2,h3⟩:=h
 have h1:=Qla.1 h1
 have h2:=Qla.1 h2
 have h3:=Qla.1 h3
 have hs:∀n,n<G.N->S n=true->Cl G.Z G.R n:=fun n=>by
  induction n using Nat.strongRecOn with
  | _ n ih=>
    intro hn hS
    have:=h1 n hn
    rw[hS] at this
    simp only[Bool.not_true,Bool.false_or,Bool.or_eq_true,List.any_eq_true,List.mem_range,Bool.and_eq_true,List.contains_iff_mem] at this
    rcases this with h|⟨m,hm,h4,h5⟩
    · exact .zero (.inl ⟨hn,h⟩)
    · cases hb:S m
      · rw[hb] at h4;exact .zero (.inr ⟨m,by omega,h4,h5⟩)
      · rw[hb] at h4;exact .step (ih m hm o9 hb) ⟨by omega,h4,h5⟩
 have hc:∀m,m<G.N->G.fire m (S m)=true->∀q∈G.sc m,S q=true:=fun m hm hfi q hq=>by
  have:=h3 m hm
  rw[hfi] at this
  simp only[Bool.not_true,Bool.false_or,List.all_eq_true] at this
  exact this q hq
 refine Qh7 (N:=G.N) (fun n hz=>?_) (fun m n hr=>hl m hr.1 n hr.2.2) hs (fun n hn hz=>?_) (fun m n hm hn hS hr=>hc m hm (by rw[hS];exact hr.2.1) n hr.2.2) hn
 · rcases hz with hz|⟨m,h1,_,h2⟩
   · exact hz.1
   · exact hl m h1 n h2
 · rcases hz with hz|⟨m,h4,h5,h6⟩
   · have:=h2 n hn
     rw[hz.2] at this
     simpa using this
   · refine hc m h4 ?_ n h6
     cases hb:S m
     · exact h5
     · exact hf m h4 h5
def Qlna (M:List Nat) (n l:Nat):Bool:=(M.getD n 0).testBit l
def Q2na (L:List Bool) (n:Nat):Bool:=L.getD n false
def unC (F:GFun) (RL:List Bool) (l:Nat):SwG:=⟨stN F.sn F.bn,Qbd F,fun m b=>Q2na RL m&&(Qtma F m (.ofNat l)||(b&&!stB F m (.ofNat l))),fun n=>decide (n=0)&&(decide (l<1)||decide (F.pa<Int.ofNat l))⟩
def Qbka (F:GFun) (RL:List Bool) (M:List Nat):Bool:=
 Q0ma (reG F) (Q2na RL)&&((Qed F.ln fun l=>Q0ma (unC F RL l) (fun n=>!Qlna M n l))&&(Qed (stN F.sn F.bn) fun n=>decide (M.getD n 0<2 ^ F.ln)))
theorem Q3la {F:GFun} (hO:F.Ok) {RL:List Bool} {M:List Nat} (h:Qbka F RL M=true) {n l:Nat} (hn:n<stN F.sn F.bn) (hl:l<F.ln):Qdma F n l=Qlna M n l:=by
 simp only[Qbka,Bool.and_eq_true] at h
 obtain ⟨h1,h2,h3⟩:=h
 have hr:∀m,m<stN F.sn F.bn->Q2na RL m=Q5ja F (pbN F m):=fun m hm=>by
  rw[Qfma (G:=reG F) h1 (fun _ _ _=>rfl) (fun m hm=>Q9h hO hm) hm];exact Qloa hO hm
 have h2:=Qla.1 h2 l hl
 have hf:∀m,m<(unC F RL l).N->(unC F RL l).fire m false=true->(unC F RL l).fire m true=true:=fun m _ h=>by
  have h:(Q2na RL m&&(Qtma F m (.ofNat l)||(false&&!stB F m (.ofNat l))))=true:=h
  show (Q2na RL m&&(Qtma F m (.ofNat l)||(true&&!stB F m (.ofNat l))))=true
  simp only[Bool.false_and,Bool.or_false,Bool.and_eq_true] at h
  rw[h.1,h.2];rfl
 have e1:=Qfma (G:=unC F RL l) h2 hf (fun m hm=>Q9h hO hm) hn
 have e2:(unC F RL l).sB n=(unG F l).sB n:=by
  have hfi:∀m b,m<stN F.sn F.bn->(unC F RL l).fire m b=(unG F l).fire m b:=fun m b hm=>by
   show (Q2na RL m&&_)=(Q5ja F (pbN F m)&&_)
   rw[hr m hm]
  have hZ:∀n,(unC F RL l).Z n↔(unG F l).Z n:=fun n=>by
   constructor
   · rintro (h|⟨m,a,b,c⟩)
     · exact .inl h
     · exact .inr ⟨m,a,by rw[<-hfi m _ a];exact b,c⟩
   · rintro (h|⟨m,a,b,c⟩)
     · exact .inl h
     · exact .inr ⟨m,a,by rw[hfi m _ a];exact b,c⟩
  have hR:∀m n,(unC F RL l).R m n↔(unG F l).R m n:=fun m n=>by
   constructor
   · rintro ⟨a,b,c⟩
     exact ⟨a,by rw[<-hfi m _ a];exact b,c⟩
   · rintro ⟨a,b,c⟩
     exact ⟨a,by rw[hfi m _ a];exact b,c⟩
  have e:((unC F RL l).Z,(unC F RL l).R)=((unG F l).Z,(unG F l).R):=by
   congr 1
   · funext n;exact propext (hZ n)
   · funext m n;exact propext (hR m n)
  unfold SwG.sB
  rw[(Prod.mk.inj e).1,(Prod.mk.inj e).2]
 unfold Qdma
 rw[<-Qvoa hO hn,<-e2,<-e1,Bool.not_not]
theorem Qioa {F:GFun} (hO:F.Ok) {RL:List Bool} {M:List Nat} (h:Qbka F RL M=true) {n:Nat} (hn:n<stN F.sn F.bn):mk (Qdma F n) F.ln=M.getD n 0:=by
 have hb:M.getD n 0<2 ^ F.ln:=by
  simp only[Qbka,Bool.and_eq_true] at h
  exact of_decide_eq_true (Qla.1 h.2.2 n hn)
 refine Nat.eq_of_testBit_eq fun l=>?_
 rw[Qze]
 by_cases hl:l<F.ln
 · rw[decide_eq_true hl,Bool.true_and,Q3la hO h hn hl];rfl
 · rw[decide_eq_false hl,Bool.false_and]
   exact (Nat.testBit_lt_two_pow (Nat.lt_of_lt_of_le hb (Nat.pow_le_pow_right (by decide) o9))).symm
theorem Qzma {n:Nat} {S T:B9z} (h:∀l,l<n->S l=T l):∀(L:List GDeed) (x:Int),(∀d∈L,0<=d.l/\d.l<n)->((L.foldl Q9ja (S,x)).2=(L.foldl Q9ja (T,x)).2/\∀l,l<n->(L.foldl Q9ja (S,x)).1 l=(L.foldl Q9ja (T,x)).1 l):=fun L=>by
 induction L generalizing S T with
 | nil=>intro x _;exact ⟨rfl,h⟩
 | cons d L ih=>
   intro x hL
   have hd:=hL d List.mem_cons_self
   have e1:S d.l.toNat=T d.l.toNat:=h _ o9
   have e2:(Q9ja (S,x) d).2=(Q9ja (T,x) d).2:=by simp only[Q9ja,e1]
   have key:=ih (S:=(Q9ja (S,x) d).1) (T:=(Q9ja (T,x) d).1) (fun l hl=>by simp only[Q9ja,h l hl]) (Q9ja (S,x) d).2 (fun e he=>hL e (List.mem_cons_of_mem _ he))
   rw[List.foldl_cons,List.foldl_cons]
   have a1:Q9ja (S,x) d=((Q9ja (S,x) d).1,(Q9ja (S,x) d).2):=rfl
   have a2:Q9ja (T,x) d=((Q9ja (T,x) d).1,(Q9ja (S,x) d).2):=by rw[e2]
   rw[a1,a2];exact key
def Qmka (F:GFun) (M:List Nat):Nat×Int×Int:=match lead (fun n=>decide (0<=Qcma (ptD F (pbN F n) (piN F n)) (Qlna M n))) (stN F.sn F.bn) with
 | some n=>(n,Qcma (ptD F (pbN F n) (piN F n)) (Qlna M n),0)
 | none=>(0,0,6)
theorem Qdla {F:GFun} (hO:F.Ok) {RL:List Bool} {M:List Nat} (h:Qbka F RL M=true):firstI F=Qmka F M:=by
 have e:∀n,n<stN F.sn F.bn->Qika F n=Qcma (ptD F (pbN F n) (piN F n)) (Qlna M n):=fun n hn=>
  (Qzma (n:=F.ln) (fun l hl=>Q3la hO h hn hl) _ _ (Q1la hO (Qoc hn).1)).1
 have key:∀k,k<=stN F.sn F.bn->lead (fun n=>decide (0<=Qika F n)) k=lead (fun n=>decide (0<=Qcma (ptD F (pbN F n) (piN F n)) (Qlna M n))) k:=fun k=>by
  induction k with
  | zero=>intro _;rfl
  | succ k ih=>
    intro hk
    simp only[lead,ih o9,e k o9]
 unfold firstI Qmka
 rw[key _ (Nat.le_refl _)]
 rcases Qula (p:=fun n=>decide (0<=Qcma (ptD F (pbN F n) (piN F n)) (Qlna M n))) (n:=stN F.sn F.bn) with ⟨k,h1,h2,_⟩|⟨h1,_⟩
 · rw[h1];simp only[e k h2]
 · rw[h1]
def Qapa (N:Nat) (M:List Nat):ORow:=⟨N,1,fun j=>[.int .u32 (.ofNat (M.getD j 0))]⟩
theorem RetR.le1 {w w':World} {c:R9z} {x:SV} {R R':ORow} {en:Ending} (hle:RowLe R R') (h:RetR w c x [R] en w'):RetR w c x [R'] en w':=by
 obtain ⟨v,g,h1,h2,h3,h4⟩:=h
 refine ⟨v,g,h1,h2,⟨h3.len,fun i R2 hi=>?_,h3.nd⟩,h4⟩
 cases i with
 | zero=>
   simp at hi
   subst hi
   obtain ⟨u,xs,a1,a2,a3,a4⟩:=h3.row 0 R rfl
   exact ⟨u,xs,a1,by rw[<-hle.n,<-hle.es];exact a2,hle.els a3,a4⟩
 | succ i=>simp at hi
theorem Qooa {c c':R9z} {w:World} {S:Nat->Value} {B:N9z} {st:St} (hM:MemIs c w S B st) (pa:Int) (un:Bool) (l b:SC) (hok:Qtca st.h l b=true) (hO:fchkV (Qxba st.h B pa un l b)=0) (RL:List Bool) (N:Nat) (M:List Nat) (hN:stN (Qxba st.h B pa un l b).sn (Qxba st.h B pa un l b).bn=N) (h:Qbka (Qxba st.h B pa un l b) RL M=true):
 Calls Try.prog 18 #[(Qxba st.h B pa un l b).val] w (RetR w c' (.tup [.one (.rs 0),.one (.int .i64 0)]) [Qapa N M]):=by
 have hO:GFun.Ok (Qxba st.h B pa un l b):=hO
 subst hN
 refine Calls.to ⟨fun _ _=>rfl,trivial⟩ rfl ((Qbpa _ w (Qfca hM hok) hO).mono fun en w' hr=>RetR.le1 ?_ hr)
 exact Q0a rfl fun j hj=>⟨⟨rfl,by rw[Qioa hO h hj]⟩,trivial⟩
theorem Q3ma {c:R9z} {w:World} {S:Nat->Value} {B:N9z} {st:St} (hM:MemIs c w S B st) (pa:Int) (un:Bool) (l b:SC) (hok:Qtca st.h l b=true) (hO:fchkV (Qxba st.h B pa un l b)=0) (RL:List Bool) (M:List Nat) (h:Qbka (Qxba st.h B pa un l b) RL M=true) (x:Nat) (y z:Int) (hx:Qmka (Qxba st.h B pa un l b) M=(x,y,z)):
 Calls Try.prog 13 #[(Qxba st.h B pa un l b).val] w (Ret w (.tuple #[.int .i64 (.ofNat x),.int .i64 y,.int .i64 z])):=by
 have hO:GFun.Ok (Qxba st.h B pa un l b):=hO
 have:=Qfna _ w (Qfca hM hok) hO
 rw[Qdla hO h,hx] at this
 exact this
theorem Qqna {c:R9z} {w:World} {S:Nat->Value} {B:N9z} {st:St} (hM:MemIs c w S B st) (pa:Int) (un:Bool) (l b:SC) (hok:Qtca st.h l b=true) (hO:fchkV (Qxba st.h B pa un l b)=0) (RL:List Bool) (M:List Nat) (h:Qbka (Qxba st.h B pa un l b) RL M=true) (z:Int) (hx:(if (Qmka (Qxba st.h B pa un l b) M).2.2=6 then (0:Int) else 44)=z):
 Calls Try.prog 14 #[(Qxba st.h B pa un l b).val] w (Ret w (.int .i64 z)):=by
 have hO:GFun.Ok (Qxba st.h B pa un l b):=hO
 have:=Qboa _ w (Qfca hM hok) hO
 unfold Qqla at this
 rw[Qdla hO h,hx] at this
 exact this
end Go.Proofs.Ytemnfncbgalljab
