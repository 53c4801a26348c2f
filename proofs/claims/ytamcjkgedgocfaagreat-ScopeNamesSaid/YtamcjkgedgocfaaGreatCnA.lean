/- Layer 19 of the program: the points that each local has by itself. No condition. -/
import Derived.Test.YtamcjkgedgocfaaGreatLvP
import Derived.Test.YtamcjkgedgocfaaGreatN5
import Derived.Test.YtamcjkgedgocfaaGreatX2
namespace Go.Proofs.YtamcjkgedgocfaaGreat
open Go.RowKit
set_option linter.all false
set_option maxHeartbeats 64000000
set_option maxRecDepth 100000
noncomputable def Qqt (F:GFun) (l j:Nat):Bool:=Qzd (F.lk l)&&(Qdf F).liB l j
theorem Q0d {p:Prop} (h:p:=by (first|(cbv;(try simp only[true_and,and_true]);(try ((repeat' apply And.intro)<;>(first|trivial|rfl|exact RowLe.rfl' _|decide|(rw[Qda har _ (by omega)];done)|((exact hob))|fail)));done)|fail)):Pf p:=⟨h⟩
theorem Qc4 (F:GFun) (w:World) (hF:F.At w) (hO:F.Ok) (hD:F.Fd):
 Calls Tryz.prog 122 #[F.val] w (RetX w (fun _:Nat→Option Addr×Nat=>.tup [.one (.rs 0),.one (.int .i64 0)]) (fun A=>[⟨F.ln,1,fun j=>[.val (.slice (A j).1 (stN F.sn F.bn) (A j).2)]⟩]) (fun A=>rrG A (nnN F.ln (stN F.sn F.bn)) (Qqt F))):=by
 have h10 (wc:World) (hk:KB ⟨w,[]⟩ wc):=Q57 F wc (hF.later hk) hO hD
 have h2 (wc:World) (hk:KB ⟨w,[]⟩ wc) (l:Nat) (hl:l<F.ln):=Qvaa F (.ofNat l) wc (hF.later hk) (Int.natCast_nonneg l) (Int.ofNat_lt.2 hl)
 have hN9:=hO.pts
 have hN0:=Qdl hO
 have hl16:=hO.ln16
 obtain ⟨N,hN⟩:∃N,N=stN F.sn F.bn:=⟨_,rfl⟩
 obtain ⟨rm,hrm⟩:∃f:Nat→Nat,f=liM F:=⟨_,rfl⟩
 obtain ⟨ow,how⟩:∃f:Nat→Nat→Bool,f=Qqt F:=⟨_,rfl⟩
 have h1 (wc:World) (hk:KB ⟨w,[]⟩ wc):Calls Tryz.prog 161 #[F.val] wc (RetR wc (Qwa F) (.tup [.one (.rs 0),.one (.int .i64 0)]) [⟨N,1,fun j=>[.int .u32 (.ofNat (rm j))]⟩]):=by
  rw[hrm,hN];exact h10 wc hk
 obtain ⟨rk,hrk⟩:∃f:Nat→Bool,f=fun l=>Qzd (F.lk l):=⟨_,rfl⟩
 have h2' (wc:World) (hk:KB ⟨w,[]⟩ wc) (l:Nat) (hl:l<F.ln):Calls Tryz.prog 162 #[F.val,.int .i64 (.ofNat l)] wc (Ret wc (.bool (rk l))):=by
  rw[hrk];exact h2 wc hk l hl
 have hbt:∀{ar:BinOp→IntKind→Int→Int→Int},ar=rAr→∀l j,l<F.ln→(rk l=false→ow l j=false)∧(rk l=true→decide (ar .and .u32 (ar .shr .u32 (.ofNat (rm j)) (.ofNat l)) 1=1)=ow l j):=by
  intro ar har l j hl
  rw[hrk,how,hrm]
  refine ⟨fun h=>by unfold Qqt;rw[show Qzd (F.lk l)=false from h];rfl,fun h=>?_⟩
  unfold Qqt liM
  rw[show Qzd (F.lk l)=true from h,Bool.true_and,Qd2 har (by omega) hl]
  generalize (Qdf F).liB l j=b;cases b<;>rfl
 rw[←hN]
 rw[←hN] at hN9 hN0
 rw[←how]
 clear h10 h2 hrm how hN hrk hO hD
 obtain ⟨pa,un,lA,ln,lc,lk,lt,bA,bn,bc,sA,sn,sc,s,jA,jn,jc,ja,jk,jo,jf,jx,je,jd⟩:=F
 obtain ⟨hX,hl,hb,hs,hj⟩:=hF
 simp only at hl hb hs hj
 try simp only at h1 h2' hbt hl16
 refine Qaa (args:=[.pt (.agg (GFun.dat _))]) (c:=(Qwa _)) Tryz.func122 rfl hX rfl rfl ?_
 obtain ⟨nd,hnd,nt,hnt,ar,har,cm,hcm,mx,hmx,mn,hmn,ar01,ar12,zpl,hzpl,zjn,hzjn,zup,hzup,zmi,hzmi,zdp,hzdp,hT⟩:=Qca
 have hbt:=@hbt ar har
 have hmk:(N:Int)≤1073741824:=by omega
 have hc4:∀q i j,q<4→j<(Qwa ⟨pa,un,lA,ln,lc,lk,lt,bA,bn,bc,sA,sn,sc,s,jA,jn,jc,ja,jk,jo,jf,jx,je,jd⟩ q i).n→qbL 4 ((Qwa ⟨pa,un,lA,ln,lc,lk,lt,bA,bn,bc,sA,sn,sc,s,jA,jn,jc,ja,jk,jo,jf,jx,je,jd⟩ q i).el j)=true:=fun q i j hq hj=>by
  match q,hq with
  | 0,_=>rfl
  | 1,_=>rfl
  | 2,_=>rfl
  | 3,_=>rfl
 obtain ⟨sv,hsv⟩:∃f:(Nat→Value)→Nat→Value→Nat→Value,f=fun V n v j=>if j=n then v else V j:=⟨_,rfl⟩
 obtain ⟨fF,hfF⟩:∃f:Nat→Nat→Nat→Nat→Bool,f=fun i n i' j=>if i'=i then decide (j<n)&&ow i j else ow i' j:=⟨_,rfl⟩
 have h0:∀{E E1:Nat→Option Obj} {i:Nat} {V:Nat→Value} {ad:Option Addr} {cap:Nat} {xs:List Value} {c:Nat→Nat→Row},RR E i N V ow→(∀b,(Value.slice ad N cap).ownBlock≠some b→E1 b=E b)→(∀b,(Value.slice ad N cap).ownBlock=some b→E b=none)→ExRow E1 1 (.slice ad N cap) N xs→Q3c c ⟨N,1,fun _=>[.lit false]⟩ xs→RR E1 (i+1) N (sv V i (.slice ad N cap)) (fF i 0):=by
  intro E E1 i V ad cap xs c hL g1 g2 g3 g4
  have:=hL.push hN0 g1 g2 g3 (f':=fun _=>false) (fun j hj=>Qh4 g4 hj)
  refine this.ext (Nat.le_refl _) (fun i' _=>by rw[hsv]) (fun i' j _ _=>?_)
  rw[hfF]
  simp only[Nat.not_lt_zero,decide_false,Bool.false_and]
 have hs2:∀{E2 E3:Nat→Option Obj} {i k g p cap:Nat} {V:Nat→Value} {cur:Array Value} {ty:TypeId} {b:Bool},RR E2 (i+1) N V (fF i k)→k<N→V i=.slice (some ⟨g,p,none⟩) N cap→E2 g=some (.cells cur ty (0,0))→p+k<cur.size→b=ow i k→E3=exSet E2 g (.cells (Qka cur.toList (p+k) [.bool b]).toArray ty (0,0))→RR E3 (i+1) N V (fF i (k+1)):=by
  intro E2 E3 i k g p cap V cur ty b hL hk hV hE hp hb' e
  subst e
  refine (hL.put (Nat.lt_succ_self i) hk hV hE hp).ext (Nat.le_refl _) (fun _ _=>rfl) (fun i' j _ _=>?_)
  rw[hfF]
  simp only
  by_cases e:i'=i
  · subst e
    simp only[if_true,true_and]
    by_cases e2:j=k
    · subst e2
      rw[if_pos rfl,decide_eq_true (Nat.lt_succ_self j),Bool.true_and,hb']
    · rw[if_neg e2]
      have:decide (j<k+1)=decide (j<k):=decide_eq_decide.2 (by omega)
      rw[this]
  · simp only[if_neg e,e,false_and,if_false]
 have h3:∀{E2:Nat→Option Obj} {i k:Nat} {V:Nat→Value},RR E2 (i+1) N V (fF i k)→N≤k→RR E2 (i+1) N V ow:=by
  intro E2 i k V hL hk
  refine hL.ext (Nat.le_refl _) (fun _ _=>rfl) (fun i' j _ hj=>?_)
  rw[hfF]
  simp only
  split
  · rename_i e;rw[decide_eq_true (show j<k by omega),e];rfl
  · rfl
 have hob:∀{V:Nat→Value} {n:Nat} {v:Value},RowLe ⟨ln,1,zup (fun j=>[.val (V j)]) n 0 [.val v]⟩ ⟨ln,1,fun j=>[.val (sv V n v j)]⟩:=by
  intro V n v
  refine Qad hzup rfl (fun j hj h=>⟨?_,trivial⟩) (fun _=>⟨?_,trivial⟩)
  · rw[hsv];simp only[if_neg h];rfl
  · rw[hsv];simp only[if_true];rfl
 have hfin:∀{V:Nat→Value} {A:Nat→Option Addr×Nat},(∀i,i<ln→V i=.slice (A i).1 N (A i).2)→RowLe ⟨ln,1,fun j=>[.val (V j)]⟩ ⟨ln,1,fun j=>[.val (.slice (A j).1 N (A j).2)]⟩:=fun {V A} h=>Q0a rfl fun j hj=>⟨by rw[h j hj];rfl,trivial⟩
 have hnn:∀X:Int,0≤X→X<X.toNat+1:=fun X h=>by omega
 refine Que (fun _=>none) (fun b o h=>h) ?_
 repeat' (first
  | refine go1 ?_|refine Q7b ?_|refine go3 (fun hlt=>?_) (fun hge=>?_)|refine go2 (fun h=>?_) (fun h=>?_)|exact go0|refine god ?_|refine gof ?_|(with_reducible refine Qha ?_ ?_)
  | ((with_reducible refine Q4c ?_ ?_);(·first|trivial|(refine ⟨trivial,?_⟩;omega)|(rw[hzpl];refine ⟨trivial,?_⟩;show _+_≤1073741824;omega)|(rw[hzpl];show _+_≤1073741824;omega)|((exact ⟨Int.natCast_nonneg N,hmk⟩))|((exact ⟨Int.natCast_nonneg ln,(show (ln:Int)≤1073741824 by omega)⟩))))
  | ((with_reducible apply Qoa (f:=161) (hf:=Tryz.call161));(·intro S;cbv;try rfl);(·intro wc S hbc hxc hrc;exact h1 wc hbc.nx);(·rfl))
  | ((with_reducible apply Qfa (f:=162) (hf:=Tryz.call162));(·(cbv;try rfl));(·intro wc hbc hxc;exact h2' wc hbc.nx i ‹_›))
  | ((with_reducible refine Q9e (σ:={x:Nat×(Nat→Option Obj)×(Nat→Value) // x.1≤ln∧RR x.2.1 x.1 N x.2.2 ow}) (fun _=>Qwa ⟨pa,un,lA,ln,lc,lk,lt,bA,bn,bc,sA,sn,sc,s,jA,jn,jc,ja,jk,jo,jf,jx,je,jd⟩) (fun x=>x.1.2.1) [7,8,9,25,26,27,28,29,30,31,32,33,34,35,36,37,38,39,40,41,42,43,44,45,46,47,48,49,50,51,52,53,54,55,56,57] (fun x=>[(24,.pt (.one (.int .i64 (.ofNat x.1.1))))]) (fun x=>[]) (fun x=>[(1,⟨ln,1,fun j=>[.val (x.1.2.2 j)]⟩)]) (fun x=>ln - x.1.1) ⟨(0,fun _=>none,fun _=>.slice none 0 0),Nat.zero_le _,RR.first⟩ ?_ ?_ ?_ ?_ ?_ ?_);(·rfl);(·exact fun b o h=>h);(·rfl);(·exact Qea Q0d Q0d Q0d Q0d);(·(cbv;try rfl));(rintro ⟨⟨i,E,V⟩,hi,hL⟩ mm hmm;refine Que E (fun b o h=>h) ?_))
  | ((refine Qjg (Qnw 2 rfl ?_);intro ad cap xs E1 g1 g2 g3 g4;have hS0:=h0 hL g1 (fun b hb=>(g2 b hb).2) g3 g4))
  | ((with_reducible refine Q9e (σ:={x:Nat×(Nat→Option Obj) // x.1≤N∧RR x.2 (i+1) N (sv V i (.slice ad N cap)) (fF i x.1)}) (fun _=>Qwa ⟨pa,un,lA,ln,lc,lk,lt,bA,bn,bc,sA,sn,sc,s,jA,jn,jc,ja,jk,jo,jf,jx,je,jd⟩) (fun x=>x.1.2) [8,9,36,37,38,39,40,41,42,43,44,45,46,47,48,49,50,51,52,53,54,55,56] (fun x=>[(35,.pt (.one (.int .i64 (.ofNat x.1.1))))]) (fun x=>[]) (fun x=>[(1,⟨ln,1,fun j=>[.val (sv V i (.slice ad N cap) j)]⟩)]) (fun x=>N - x.1.1) ⟨(0,E1),Nat.zero_le _,hS0⟩ ?_ ?_ ?_ ?_ ?_ ?_);(·rfl);(·exact fun b o h=>h);(·rfl);(·exact Qea Q0d Q0d Q0d Q0d);(·(cbv;try rfl));(rintro ⟨⟨k,E2⟩,hk,hL2⟩ mm hmm;refine Que E2 (fun b o h=>h) ?_))
  | ((obtain ⟨g,p,cap',cur,ty,hv,hE,w1_,w2_,w3_,w4_⟩:=hL2.row i (Nat.lt_succ_self i);refine Qou hT rfl rfl rfl rfl rfl hv rfl ‹_› ?_;intro a9 ha9))
  | ((refine Qtk hT rfl rfl rfl rfl rfl (.inl rfl) hE (by omega) ?_;intro E3 hE3))
  | ((refine Qtk hT rfl rfl rfl rfl rfl (.inr rfl) hE (by omega) ?_;intro E3 hE3))
  | ((refine Qpe (⟨(k+1,E3),Nat.succ_le_of_lt ‹_›,hs2 hL2 ‹_› hv hE (by omega) (by first|exact (hbt i k ‹_›).2 ‹_›|exact ((hbt i k ‹_›).1 ‹_›).symm) (by rw[←ha9];exact hE3)⟩:{x:Nat×(Nat→Option Obj) // x.1≤N∧RR x.2 (i+1) N (sv V i (.slice ad N cap)) (fF i x.1)}) ?_ ?_ ?_ ?_ ?_);(·rfl);(·exact fun b o h=>h);(·exact Nat.lt_of_lt_of_eq (show N - (k+1)<N - k from by omega) (Eq.symm ‹_›));(·exact Qea Q0d Q0d Q0d Q0d);(·(cbv;try rfl)))
  | ((refine Qpe (⟨(i+1,E2,sv V i (.slice ad N cap)),Nat.succ_le_of_lt ‹_›,h3 hL2 ‹_›⟩:{x:Nat×(Nat→Option Obj)×(Nat→Value) // x.1≤ln∧RR x.2.1 x.1 N x.2.2 ow}) ?_ ?_ ?_ ?_ ?_);(·rfl);(·exact fun b o h=>h);(·exact Nat.lt_of_lt_of_eq (show ln - (i+1)<ln - i from by omega) (Eq.symm ‹_›));(·exact Qea Q0d Q0d Q0d Q0d);(·(cbv;try rfl)))
  | ((have hR9:RR E ln N V ow:=(by have e:i=ln:=Nat.le_antisymm hi ‹_›;rw[←e];exact hL);refine Q6q 4 hT hR9 (X:=.tup [.one (.rs 1),.one (.int .i64 0)]) (sel:=[.own 1]) ?_ ?_ ?_ ?_ ?_ ?_ ?_ ?_ ?_ ?_ ?_;(·(cbv;try rfl));(·(cbv;try rfl));(·(cbv;try exact ⟨trivial,trivial⟩));(·intro A hA;exact ⟨hfin hA,trivial⟩);(·rfl);(·rfl);(·exact ⟨fun j hj=>rfl,fun j hj=>rfl,trivial⟩);(·exact hc4);(·rfl);(·intro A;exact ⟨fun j hj=>rfl,trivial⟩);(·rfl)))
  | fail)
 all_goals trace_state
theorem Q4v (F:GFun) (w:World) (hF:F.At w) (hz:fchkV F≠0):
 Calls Tryz.prog 122 #[F.val] w (Ret w (.tuple #[.slice none 0 0,.int .i64 (fchkV F)])):=by
 have h1 (wc:World) (hk:KB ⟨w,[]⟩ wc):=Q40 F wc (hF.later hk) hz
 generalize fchkV F=z at h1 hz⊢
 have hq:decide (z=0)=false:=decide_eq_false hz
 clear hz
 obtain ⟨pa,un,lA,ln,lc,lk,lt,bA,bn,bc,sA,sn,sc,s,jA,jn,jc,ja,jk,jo,jf,jx,je,jd⟩:=F
 obtain ⟨hX,hl,hb,hs,hj⟩:=hF
 simp only at hl hb hs hj
 refine Qaa (args:=[.pt (.agg (GFun.dat _))]) (c:=(Qwa _)) Tryz.func122 rfl hX rfl rfl ?_
 obtain ⟨nd,hnd,nt,hnt,ar,har,cm,hcm,mx,hmx,mn,hmn,ar01,ar12,zpl,hzpl,zjn,hzjn,zup,hzup,zmi,hzmi,zdp,hzdp,hT⟩:=Qca
 repeat' (first
  | refine go1 ?_|refine Q7b ?_
  | ((with_reducible apply Qfa (f:=161) (hf:=Tryz.call161));(·(cbv;try rfl));(·intro wc hbc hxc;exact h1 wc hbc))
  | fail)
 all_goals rfl
end Go.Proofs.YtamcjkgedgocfaaGreat
