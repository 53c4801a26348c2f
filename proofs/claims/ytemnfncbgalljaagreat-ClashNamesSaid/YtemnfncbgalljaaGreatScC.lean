/- Lemmas. No condition. -/
import Derived.Test.YtemnfncbgalljaaGreatC4
import Derived.Test.YtemnfncbgalljaaGreatE5
namespace Go.Proofs.YtemnfncbgalljaaGreat
open Go.RowKit
set_option linter.all false
set_option maxRecDepth 100000
set_option maxHeartbeats 64000000
def nxG (nn:N9z) (el:Nat->Nat->List SC) (i:Nat) (A:AdF):Nat->Nat->Row:=fun p j=>if p=0/\j<i then ⟨(A j).1,nn j,(A j).2,1,el j⟩ else ⟨none,0,0,0,fun _=>[]⟩
theorem Qjm {nn:N9z} {el:Nat->Nat->List SC} {i:Nat} {A:AdF} {j:Nat} (h:j<i):nxG nn el i A 0 j=⟨(A j).1,nn j,(A j).2,1,el j⟩:=by
 unfold nxG;rw[if_pos ⟨rfl,h⟩]
theorem Qkd (nn:N9z) (el:Nat->Nat->List SC) (hp:∀j k,Qob (el j k)=true):∃(tg:Nat->AdF->Nat->Nat->Row) (th:Nat->AdF->Option Addr×Nat->Nat->Nat->Row) (tu:AdF->Nat->Option Addr×Nat->AdF),tg=nxG nn el/\
 (∀A p j,(tg 0 A p j).n=0)/\(∀i A p j k,k<(tg i A p j).n->Qob ((tg i A p j).el k)=true)/\(∀i A,(tg i A 0 i).n=0)/\(∀i A (a:Option Addr) (cap:Nat) p' i',¬(p'=0/\i'=i)->th i A (a,cap) p' i'=tg i A p' i')/\
 (∀i A (a:Option Addr) (cap:Nat),th i A (a,cap) 0 i=⟨a,nn i,cap,1,el i⟩)/\(∀i A y,th i A y=tg (i+1) (tu A i y))/\(∀(A:AdF) i y j,j<i->tu A i y j=A j)/\(∀(A:AdF) i (a:Option Addr) (cap:Nat),tu A i (a,cap) i=(a,cap))/\
 (∀{w:World} {A:AdF} {i:Nat} {a:Option Addr} {cap:Nat},(∀j,Q3d w (A j).1)->Q3d w a->∀j,Q3d w (tu A i (a,cap) j).1)/\(∀{w:World} {i:Nat} {A:AdF},(∀j,Q3d w (A j).1)->∀p j,Q3d w (tg i A p j).a):=by
 refine ⟨nxG nn el,fun i A y p j=>if p=0/\j=i then ⟨y.1,nn i,y.2,1,el i⟩ else nxG nn el i A p j,upA,rfl,fun A p j=>?_,fun i A p j k h=>?_,fun i A=>?_,fun i A a cap p' i' h=>?_,fun i A a cap=>?_,fun i A y=>?_,fun A i y j h=>?_,fun A i a cap=>?_,fun {w A i a cap} h g j=>?_,fun {w i A} h p j=>?_⟩
 · simp only[nxG,Nat.not_lt_zero,and_false,if_false]
 · simp only[nxG] at h⊢
   split at h
   · rename_i g;rw[if_pos g];exact hp j k
   · exact absurd h (Nat.not_lt_zero _)
 · simp only[nxG,Nat.lt_irrefl,and_false,if_false]
 · simp only;rw[if_neg h]
 · simp only[and_self,if_true]
 · funext p j
   simp only[nxG,upA]
   by_cases p0:p=0
   · subst p0
     by_cases e:j=i
     · subst e;simp
     · by_cases l:j<i
       · have l2:j<i+1:=by omega
         simp[e,l,l2]
       · have l2:¬j<i+1:=by omega
         simp[e,l,l2]
   · simp[p0]
 · simp only[upA];rw[if_neg o9]
 · simp only[upA,if_true]
 · simp only[upA]
   split
   · exact g
   · exact h j
 · simp only[nxG]
   split
   · exact h j
   · intro b p h;cases h
theorem Qoy {P:Program} {Q:E9z} {c c':R9z} {w0:Base} {o:Out} (h:c=c') (g:OutOk P Q c' w0 o):OutOk P Q c w0 o:=by rw[h];exact g
theorem Qy4 {P:Program} {Q:E9z} {c:R9z} {w0:Base} {σ:Type} (C:σ->Nat->Nat->Row) (ws:List Nat) (ups:σ->List (Nat×SV)) (hups:σ->List (Nat×List SC)) (rups:σ->List (Nat×ORow)) {ops:Array Oper} {l:List Bool} {f:Nat} {k:List Item} {st:St} (hk:noA k=true)
 (h1:Goes P (fun _ _ _=>False) c w0 [.aops ops l f,.stop (Q3z C w0 (fun y=>st.lay ws (ups y) (hups y) (rups y)))] st) (h2:∀y,Goes P Q (C y) w0 k (st.lay ws (ups y) (hups y) (rups y))):Goes P Q c w0 (.aops ops l f::k) st:=⟨fun e s a w hc F=>by
 have:=h1.run e s a w hc F
 simp only[KQ,Exit.then] at this⊢
 refine ⟨this.1,Qql (fun en a' w' hq=>?_) _ _ _ _ this.2⟩
 cases en with
 | normal=>
   obtain ⟨y,e',h3,h4⟩:=hq
   have h5:KQ P Q (C y) k s .normal a' w':=(h2 y).run e' s a' w' h3 h4
   rw[Qkc (c':=c) hk] at h5
   exact h5
 | _=>first|exact hq|exact hq.elim⟩
def Qrj (G0 G1 G2:R9z):Nat->Nat->Row
 | 0,j=>G0 0 j
 | 1,j=>G1 0 j
 | p+2,j=>G2 p j
theorem Qhv {c G0 G1 G2:R9z} {K:Nat}:Q3a (Q3a (Q3a c K G0) (K+1) G1) (K+2) G2=Q3a c K (Qrj G0 G1 G2):=by
 funext q i
 by_cases h:q<K
 · rw[Q4a (show q<K+2 by omega),Q4a (show q<K+1 by omega),Q4a h,Q4a h]
 · obtain ⟨d,rfl⟩:∃d,q=K+d:=⟨q - K,by omega⟩
   rw[Q2a (c:=c) (K:=K) (G:=Qrj G0 G1 G2) o9,Nat.add_sub_cancel_left]
   match d with
   | 0=>rw[Q4a o9,Q4a o9,Q2a o9,Nat.add_zero,Nat.sub_self];rfl
   | 1=>rw[Q4a o9,Q2a o9,Nat.sub_self];rfl
   | d+2=>rw[Q2a o9,show K+(d+2) - (K+2)=d by omega];rfl
def opeV:SV:=.tup [.agg [.rs 0,.rs 1,.rs 2,.rs 3,.rs 4],.one (.int .i64 0)]
def nlN (F:GFun) (a:Nat):Nat:=(Q0g F a).length
def ndN (F:GFun) (a k:Nat):Nat:=(Q0g F a).getD k 0
abbrev OpA:=AdF×AdF×AdF
def Qq5 (F:GFun) (x:OpA):List ORow:=[⟨stN F.sn F.bn,1,fun j=>[.val (.slice (x.2.2 j).1 (nlN F j) (x.2.2 j).2)]⟩,⟨stN F.sn F.bn,1,fun j=>[.int .u32 (.ofNat (umN F j))]⟩,lnR F,⟨lnC F,1,fun j=>[.val (.slice (x.1 (j+F.ln)).1 (stN F.sn F.bn) (x.1 (j+F.ln)).2)]⟩,⟨lnC F,1,fun j=>[.val (.slice (x.2.1 j).1 (stN F.sn F.bn) (x.2.1 j).2)]⟩]
noncomputable def Q92 (F:GFun) (x:OpA):Nat->Nat->Row:=Qrj (rrG x.1 (nnN (Q4g F) (stN F.sn F.bn)) (Qfl F)) (nxG (fun _=>stN F.sn F.bn) (fun j k=>[.bool (Qqf F j k)]) (lnC F) x.2.1) (nxG (nlN F) (fun j k=>[.int .i64 (.ofNat (ndN F j k))]) (stN F.sn F.bn) x.2.2)
theorem Qbh {p:Prop} (h:p:=by (first|((try with_reducible refine Q8c ?_ ?_ ?_ ?_);all_goals (cbv;(try simp only[true_and,and_true]);(try ((repeat' apply And.intro)<;>(first|trivial|rfl|exact RowLe.rfl' _|decide|(rw[Qda har _ o9];done)|((exact Q0a rfl (fun j hj=>absurd hj (Nat.not_lt_zero _))))|((exact hsm2 _ _))|((rw[Qda har t (by have h9:=hnl2 a;have h8:t<=nl a:=ht;omega)];done))|fail))));done)|fail)):Pf p:=⟨h⟩
theorem Qm8 (F:GFun) (w:World) (hF:F.At w) (hO:F.Ok) (hD:F.Fd):
 Calls Tryz.prog 87 #[F.val] w (RetX w (fun _:OpA=>opeV) (Qq5 F) (Q92 F)):=by
 have h10 wc (hk:KB ⟨w,[]⟩ wc):=Qu1 F wc (hF.later hk) hO hD
 have h20 wc (hk:KB ⟨w,[]⟩ wc) {c:R9z}:=Calls.to (c':=c) (Qwx F) rfl (Q7s F wc (hF.later hk) hO)
 have h30 wc (hk:KB ⟨w,[]⟩ wc) {c:R9z} (k:Nat) (hk2:k<lnC F):=Calls.to (c':=c) (r:=[⟨stN F.sn F.bn,1,fun j=>[.bool (Qqf F k j)]⟩]) ⟨fun _ _=>rfl,trivial⟩ rfl (Qz0 F wc (hF.later hk) hO hD k hk2)
 have h40 wc (hk:KB ⟨w,[]⟩ wc) {c:R9z}:=Calls.to (c':=c) (r:=[ptR (Qgb F.sn F.bn)]) ⟨fun _ _=>rfl,trivial⟩ rfl (Q7h F wc (hF.later hk) hO)
 have h50 wc (hk:KB ⟨w,[]⟩ wc) {c:R9z} (a:Nat) (ha:a<stN F.sn F.bn):=Calls.to (c':=c) (r:=[ptR (Qgd F (pbN F a) (piN F a))]) ⟨fun _ _=>rfl,trivial⟩ rfl (Q12 F wc (hF.later hk) hO (pbN F a) (piN F a) (Qoc ha).1 (Qoc ha).2.1)
 have h60 wc (hk:KB ⟨w,[]⟩ wc) (b i:Nat):=Qcy F wc (hF.later hk) hO b i
 have h70 wc (hk:KB ⟨w,[]⟩ wc) (a:Nat) (ha:a<stN F.sn F.bn):=Qy2 F wc (hF.later hk) hO hD a ha
 have hN9:=hO.pts
 have hP9:lnC F<=600:=Nat.le_trans (Qxb F _) hN9
 have hl16:=hO.ln16
 have hRN:Q4g F=F.ln+lnC F:=rfl
 have hnd0:∀a,a<stN F.sn F.bn->∀k,k<nlN F a->ndN F a k=nmN F a k:=fun a ha k hk=>by
  unfold nlN at hk;rw[Qgg] at hk
  exact Qau hk
 have hnl0:∀a,nlN F a=(Qgd F (pbN F a) (piN F a)).length:=fun a=>Qgg F a
 obtain ⟨N,hN⟩:=x9 (stN F.sn F.bn)
 obtain ⟨rN,hrN⟩:=x9 (Q4g F)
 obtain ⟨P,hP⟩:=x9 (lnC F)
 obtain ⟨pb,hpb⟩:=x9 (pbN F:N9z)
 obtain ⟨pi,hpi⟩:=x9 (piN F:N9z)
 obtain ⟨lp,hlp⟩:=x9 (lpN F:N9z)
 obtain ⟨el,hel⟩:=x9 (fun j=>(stAt F (lpN F j)).r.p.l:I9z)
 obtain ⟨ed,hed⟩:=x9 (fun j=>(stAt F (lpN F j)).r.p.d:B9z)
 obtain ⟨ef,hef⟩:=x9 (fun j=>(stAt F (lpN F j)).r.p.f:I9z)
 obtain ⟨eb,heb⟩:=x9 (fun j=>(stAt F (lpN F j)).r.bo:I9z)
 obtain ⟨lo,hlo⟩:=x9 (fun j=>lnL F (lpN F j):I9z)
 obtain ⟨um,hum⟩:=x9 (umN F:N9z)
 obtain ⟨sm,hsm⟩:=x9 (smN F:I9z)
 obtain ⟨kb,hkb⟩:=x9 (Qqf F:B9y)
 obtain ⟨nl,hnl⟩:=x9 (nlN F:N9z)
 obtain ⟨nm,hnm⟩:=x9 (ndN F:Nat->Nat->Nat)
 obtain ⟨q1,hq1⟩:=x9 (fun a k=>((Qgd F (pbN F a) (piN F a)).getD k (0,0)).1:Nat->Nat->Nat)
 obtain ⟨q2,hq2⟩:=x9 (fun a k=>((Qgd F (pbN F a) (piN F a)).getD k (0,0)).2:Nat->Nat->Nat)
 obtain ⟨gA,hgA⟩:=x9 (fun A=>rrG A (nnN (Q4g F) (stN F.sn F.bn)) (Qfl F):AdF->Nat->Nat->Row)
 obtain ⟨tk,tkh,tku,htk,tk0,tkp,tkz,tk3,tk4,tkup,tk1,tk2,tkN,tkA⟩:=Qkd (fun _=>N) (fun j k=>[.bool (kb j k)]) (fun _ _=>rfl)
 obtain ⟨tn,tnh,tnu,htn,tn0,tnp,tnz,tn3,tn4,tnup,tn1,tn2,tnN,tnA⟩:=Qkd nl (fun j k=>[.int .i64 (.ofNat (nm j k))]) (fun _ _=>rfl)
 have gp:∀A p j k,k<(gA A p j).n->Qob ((gA A p j).el k)=true:=fun A p j k h=>by rw[hgA] at h⊢;exact Qwc p j k h
 have hR:ptR (Qgb F.sn F.bn)=⟨N,2,fun j=>[.int .i64 (.ofNat (pb j)),.int .i64 (.ofNat (pi j))]⟩:=by rw[ptR,Q6b,hN,hpb,hpi];rfl
 rw[hR] at h40
 have h1 wc (hk:KB ⟨w,[]⟩ wc):Calls Tryz.prog 137 #[F.val] wc (RetX wc (fun _:AdF=>.tup [.one (.rs 0),.one (.int .i64 0)]) (fun A=>[⟨rN,1,fun j=>[.val (.slice (A j).1 N (A j).2)]⟩]) gA):=by rw[hrN,hN,hgA];exact h10 wc hk
 have h2 wc (hk:KB ⟨w,[]⟩ wc) {c:R9z}:Calls Tryz.prog 52 #[F.val] wc (RetR wc c (.tup [.one (.rs 0),.one (.int .i64 0)]) [⟨P,6,fun j=>[.int .i64 (.ofNat (lp j)),.int .i64 (el j),.bool (ed j),.int .u8 (ef j),.int .u8 (eb j),.int .i64 (lo j)]⟩]):=by
  rw[hP,hlp,hel,hed,hef,heb,hlo];exact h20 wc hk
 have h3 wc (hk:KB ⟨w,[]⟩ wc) {c:R9z} (k:Nat) (hk2:k<P):Calls Tryz.prog 138 #[F.val,.int .i64 (.ofNat k)] wc (RetR wc c (.tup [.one (.rs 0),.one (.int .i64 0)]) [⟨N,1,fun j=>[.bool (kb k j)]⟩]):=by rw[hN,hkb];exact h30 wc hk k (hP▸hk2)
 have h5 wc (hk:KB ⟨w,[]⟩ wc) {c:R9z} (a:Nat) (ha:a<N):Calls Tryz.prog 139 #[F.val,.agg #[.int .i64 (.ofNat (pb a)),.int .i64 (.ofNat (pi a))]] wc (RetR wc c (.tup [.one (.rs 0),.one (.int .i64 0)]) [⟨nl a,2,fun j=>[.int .i64 (.ofNat (q1 a j)),.int .i64 (.ofNat (q2 a j))]⟩]):=by
  have:=@h50 wc hk c a (hN▸ha)
  rw[hpb,hpi,hnl,hnl0,hq1,hq2];exact this
 have h6 wc (hk:KB ⟨w,[]⟩ wc) (a k:Nat) (ha:a<N) (hk2:k<nl a):Calls Tryz.prog 140 #[F.val,.agg #[.int .i64 (.ofNat (q1 a k)),.int .i64 (.ofNat (q2 a k))]] wc (Ret wc (.tuple #[.int .i64 (.ofNat (nm a k)),.int .i64 0])):=by
  rw[hnl] at hk2
  have e:=hnd0 a (hN▸ha) k hk2
  rw[hnl0] at hk2
  have q:=Q7x hO (hN▸ha) hk2
  rw[hq1,hq2,hnm,e];exact h60 wc hk _ _ q.1 q.2.1
 have h7 wc (hk:KB ⟨w,[]⟩ wc) (a:Nat) (ha:a<N):Calls Tryz.prog 57 #[F.val,.int .i64 (.ofNat a)] wc (Ret wc (.tuple #[.int .u32 (.ofNat (um a)),.int .i64 (sm a),.int .i64 0])):=by
  rw[hum,hsm];exact h70 wc hk a (hN▸ha)
 have hnl2:∀a,nl a<=2:=fun a=>by rw[hnl,hnl0];exact Q4h
 obtain ⟨oR,hoR⟩:=x9 (fun x=>[⟨N,1,fun j=>[.val (.slice (x.2.2 j).1 (nl j) (x.2.2 j).2)]⟩,⟨N,1,fun j=>[.int .u32 (.ofNat (um j))]⟩,⟨P,6,fun j=>[.int .i64 (.ofNat (lp j)),.int .i64 (el j),.bool (ed j),.int .u8 (ef j),.int .u8 (eb j),.int .i64 (lo j)]⟩,⟨P,1,fun j=>[.val (.slice (x.1 (j+F.ln)).1 N (x.1 (j+F.ln)).2)]⟩,⟨P,1,fun j=>[.val (.slice (x.2.1 j).1 N (x.2.1 j).2)]⟩]:OpA->List ORow)
 have e1:Qq5 F=oR:=by rw[hoR];funext x;rw[Qq5,lnR,hN,hnl,hum,hP,hlp,hel,hed,hef,heb,hlo]
 have e2:Q92 F=fun x=>Qrj (gA x.1) (tk P x.2.1) (tn N x.2.2):=by funext x;rw[Q92,hgA,htk,htn,hP,hN,hkb,hnl,hnm]
 rw[e1,e2,hoR]
 have hrP:rN=F.ln+P:=by rw[hrN,hRN,hP]
 rw[<-hN] at hN9
 rw[<-hP] at hP9
 have h4:=@h40
 clear h10 h20 h30 h40 h50 h60 h70 hR e1 e2 hoR oR hN hrN hP hpb hpi hlp hel hed hef heb hlo hum hsm hkb hnl hnm hq1 hq2 hgA htk htn hnd0 hnl0 hRN hO hD
 obtain ⟨pa,un,lA,ln,lc,lk,lt,bA,bn,bc,sA,sn,sc,s,jA,jn,jc,ja,jk,jo,jf,jx,je,jd⟩:=F
 obtain ⟨hX,hl,hb,hs,hj⟩:=hF
 simp only at hl hb hs hj
 try simp only at h1 h2 h3 h4 h5 h6 h7 hl16 hrP
 refine Qaa (args:=[.pt (.agg (GFun.dat _))]) (c:=(Qwa _)) Tryz.func87 rfl hX rfl rfl ?_
 obtain ⟨_,_,_,hnt,_,har,_,hcm,_,_,_,_,ar01,ar12,zpl,hzpl,zjn,hzjn,_,_,zmi,hzmi,zdp,hzdp,hT⟩:=Qca
 have hc4:∀q i j,q<4->j<(Qwa ⟨pa,un,lA,ln,lc,lk,lt,bA,bn,bc,sA,sn,sc,s,jA,jn,jc,ja,jk,jo,jf,jx,je,jd⟩ q i).n->qbL 4 ((Qwa ⟨pa,un,lA,ln,lc,lk,lt,bA,bn,bc,sA,sn,sc,s,jA,jn,jc,ja,jk,jo,jf,jx,je,jd⟩ q i).el j)=true:=fun q i j hq hj=>by
  match q,hq with
  | 0,_=>rfl
  | 1,_=>rfl
  | 2,_=>rfl
  | 3,_=>rfl
 have hcG:∀(c:R9z) (K:Nat) (G:R9z),(∀q i j,q<K->j<(c q i).n->qbL K ((c q i).el j)=true)->(∀p i j,j<(G p i).n->Qob ((G p i).el j)=true)->∀q i j,q<K+1->j<(Q3a c K G q i).n->qbL (K+1) ((Q3a c K G q i).el j)=true:=fun c K G hc hG q i j hq hj=>by
  by_cases g:q<K
  · rw[Q4a g] at hj⊢
    exact Qvc _ (hc q i j g hj)
  · rw[Q2a o9] at hj⊢
    exact Q9c (hG _ _ _ hj)
 have hc5:=fun A=>hcG (Qwa ⟨pa,un,lA,ln,lc,lk,lt,bA,bn,bc,sA,sn,sc,s,jA,jn,jc,ja,jk,jo,jf,jx,je,jd⟩) 4 (gA A) hc4 (gp A)
 have hc6:=fun A n A2=>hcG _ 5 (tk n A2) (hc5 A) (tkp n A2)
 have hsk:∀k (A:AdF) (a:Option Addr) (cap:Nat),RowLe ⟨zpl k 1,1,zjn k (fun j=>[.val (.slice (A j).1 N (A j).2)]) (fun j=>Qte [.val (.slice a N cap)] (0+j * 1) 1)⟩ ⟨k+1,1,fun j=>[.val (.slice (tku A k (a,cap) j).1 N (tku A k (a,cap) j).2)]⟩:=fun k A a cap=>by
  refine Q7a hzpl hzjn rfl (fun j hj=>?_) ?_
  · rw[tk1 A _ _ j hj];exact Qpa _
  · rw[tk2];exact Qpa _
 have hsn:∀k (A:AdF) (a:Option Addr) (cap:Nat),RowLe ⟨zpl k 1,1,zjn k (fun j=>[.val (.slice (A j).1 (nl j) (A j).2)]) (fun j=>Qte [.val (.slice a (nl k) cap)] (0+j * 1) 1)⟩ ⟨k+1,1,fun j=>[.val (.slice (tnu A k (a,cap) j).1 (nl j) (tnu A k (a,cap) j).2)]⟩:=fun k A a cap=>by
  refine Q7a hzpl hzjn rfl (fun j hj=>?_) ?_
  · rw[tn1 A _ _ j hj];exact Qpa _
  · rw[tn2];exact Qpa _
 have hsu:∀k,RowLe ⟨zpl k 1,1,zjn k (fun j=>[.int .u32 (.ofNat (um j))]) (fun j=>Qte [.int .u32 (.ofNat (um k))] (0+j * 1) 1)⟩ ⟨k+1,1,fun j=>[.int .u32 (.ofNat (um j))]⟩:=fun k=>Q7a hzpl hzjn rfl (fun j hj=>Qpa _) (Qpa _)
 have hsm2:∀a t,RowLe ⟨zpl t 1,1,zjn t (fun j=>[.int .i64 (.ofNat (nm a j))]) (fun j=>Qte [.int .i64 (.ofNat (nm a t))] (0+j * 1) 1)⟩ ⟨t+1,1,fun j=>[.int .i64 (.ofNat (nm a j))]⟩:=fun a t=>Q7a hzpl hzjn rfl (fun j hj=>Qpa _) (Qpa _)
 have hcut:∀A:AdF,RowLe ⟨zmi rN ln,1,zdp ln (fun j=>[.val (.slice (A j).1 N (A j).2)])⟩ ⟨P,1,fun j=>[.val (.slice (A (j+ln)).1 N (A (j+ln)).2)]⟩:=fun A=>Qx1 hzmi hzdp o9 (fun j hj=>Qpa _)
 have hA0:∀j:Nat,Q3d w ((fun _=>((none:Option Addr),0):AdF) j).1:=fun j b p h=>by cases h
 have hgp9:∀(A:AdF) n (A2:AdF) m (A3:AdF) p {i j:Nat},j<(Qrj (gA A) (tk n A2) (tn m A3) p i).n->Qob ((Qrj (gA A) (tk n A2) (tn m A3) p i).el j)=true:=fun A n A2 m A3 p {i j} h=>by
  match p,h with
  | 0,h=>exact gp A 0 i j h
  | 1,h=>exact tkp n A2 0 i j h
  | p+2,h=>exact tnp m A3 p i j h
 have hga9:∀(A:AdF) n (A2:AdF) m {A3:AdF},(∀p i,(∃j,j<(gA A p i).n)->Q3d w (gA A p i).a)->(∀j,Q3d w (A2 j).1)->(∀j,Q3d w (A3 j).1)->∀p i,(∃j,j<(Qrj (gA A) (tk n A2) (tn m A3) p i).n)->Q3d w (Qrj (gA A) (tk n A2) (tn m A3) p i).a:=fun A n A2 m {A3} g1 g2 g3 p i h=>by
  match p,h with
  | 0,h=>exact g1 0 i h
  | 1,h=>exact tkA g2 0 i
  | p+2,h=>exact tnA g3 p i
 repeat' (first
  | refine goa ?_|refine go3 (fun hlt=>?_) (fun hge=>?_)|refine go2 (fun h=>?_) (fun h=>?_)|exact go0|refine gof ?_|refine Qvha ?_ ?_
  | ((first|with_reducible apply Qhb hT|with_reducible apply Qna hT);(·(cbv;try rfl));(·(cbv;try rfl));(·exact Qbh);(·exact Qbh);(·rfl))
  | refine gob ?_
  | ((with_reducible refine Q4c ?_ ?_);(·first|((show ln<=rN;omega))|((rw[hzpl];show k+1<=1073741824;omega))|((rw[hzpl];have h9:=hnl2 a;have h8:t<=nl a:=ht;show t+1<=1073741824;omega))|((rw[hzpl];show a+1<=1073741824;omega))))
  | (((with_reducible apply Qhc 4 (hf:=Tryz.call137));(·intro S;cbv;try rfl);(·intro wc S hbc hxc hrc;exact h1 wc hbc);(·intro A;rfl);(·intro A;rfl);(·rfl);(·rfl);(·trivial);(·exact hc4);(·intro A;exact ⟨fun j hj=>rfl,trivial⟩);(·intro A p i j hj;exact gp A p i j hj);(intro A1 hnew1);(refine Q0i 5 (G:=tk 0 (fun _=>(none,0))) (tk0 _) rfl rfl ⟨fun _ _=>rfl,trivial⟩ (hc5 A1) ?_)))
  | ((with_reducible apply Qoa (hf:=Tryz.call52));(·intro S;cbv;try rfl);(·intro wc S hbc hxc hrc;exact h2 wc hbc);(·rfl))
  | (((with_reducible apply Qoa (hf:=Tryz.call138));(·intro S;cbv;try rfl);(·intro wc S hbc hxc hrc;exact h3 wc hbc k y9);(·rfl);(refine Qnc 3 0 k (fun a cap=>tkh k A2 (a,cap)) (R:=⟨N,1,fun x=>[.bool (kb k x)]⟩) rfl (RowLe.rfl' _) rfl (fun v=>rfl) ⟨fun _ _=>rfl,fun _ _=>rfl,fun _ _=>rfl,trivial⟩ (fun j hj=>rfl) (hc5 A1) (fun p j x h=>tkp k A2 p j x h) (tkz k A2) (fun a cap p' i' h=>tk3 k A2 a cap p' i' h) (fun a cap=>tk4 k A2 a cap) (fun a1 c1 hn1=>?_))))
  | (((with_reducible apply Q9q 2 4 1);(·(cbv;try rfl))))
  | (((with_reducible refine Qne (σ:={x:Nat×AdF // x.1<=P/\∀j,Q3d w (x.2 j).1}) (fun x=>Q3a (Q3a (Qwa ⟨pa,un,lA,ln,lc,lk,lt,bA,bn,bc,sA,sn,sc,s,jA,jn,jc,ja,jk,jo,jf,jx,je,jd⟩) 4 (gA A1)) 5 (tk x.1.1 x.1.2)) [3,7,8,9,51,52,53,54,55,56,57,58,59,60,61,62,63,64,65,66,67,68,69] (fun x=>[(50,.pt (.one (.int .i64 (.ofNat x.1.1))))]) (fun x=>[]) (fun x=>[(0,⟨P,1,fun j=>[.val (.slice (A1 (j+ln)).1 N (A1 (j+ln)).2)]⟩),(2,⟨x.1.1,1,fun j=>[.val (.slice (x.1.2 j).1 N (x.1.2 j).2)]⟩)]) (fun x=>P - x.1.1) ⟨(0,fun _=>(none,0)),Nat.zero_le _,hA0⟩ rfl rfl ?_ ?_ ?_ ?_);(·(refine Q8c ?_ ?_ ?_ ?_<;>(cbv;(try simp only[true_and,and_true]);(try ((repeat' apply And.intro)<;>(first|trivial|rfl|exact RowLe.rfl' _|exact Q0a rfl (fun j hj=>absurd hj (Nat.not_lt_zero _))|(rw[Qda har _ o9];done)|exact hsk _ _ _ _|exact hsn _ _ _ _|exact hsu _|exact hsm2 _ _|exact hcut _|exact hcut _))))));(·(cbv;try rfl));(·simp);(rintro ⟨⟨k,A2⟩,hk0,hA2⟩ mm hmm);(have hk:k<=P:=hk0)))
  | (((with_reducible refine Qqe (⟨(k+1,tku A2 k (a1,c1)),Nat.succ_le_of_lt y9,tkN hA2 hn1⟩:{x:Nat×AdF // x.1<=P/\∀j,Q3d w (x.2 j).1}) (by (show _=Q3a _ 5 (tk (k+1) (tku A2 k (a1,c1))));rw[tkup]) ?_ ?_ ?_ ?_);(·exact Nat.lt_of_lt_of_eq (show P - (k+1)<P - k by omega) (Eq.symm y9));(·(refine Q8c ?_ ?_ ?_ ?_<;>(cbv;(try simp only[true_and,and_true]);(try ((repeat' apply And.intro)<;>(first|trivial|rfl|exact RowLe.rfl' _|exact Q0a rfl (fun j hj=>absurd hj (Nat.not_lt_zero _))|(rw[Qda har _ o9];done)|exact hsk _ _ _ _|exact hsn _ _ _ _|exact hsu _|exact hsm2 _ _|exact hcut _|exact hcut _))))));(·(cbv;try rfl));(·simp)))
  | (((with_reducible apply Qoa (hf:=Tryz.call67));(·intro S;cbv;try rfl);(·intro wc S hbc hxc hrc;exact h4 wc hbc);(·rfl);(refine Q0i 6 (G:=tn 0 (fun _=>(none,0))) (tn0 _) rfl rfl ⟨fun _ _=>rfl,fun _ _=>rfl,fun _ _=>rfl,fun _ _=>rfl,trivial⟩ (hc6 A1 _ _) ?_)))
  | (((with_reducible apply Q9q 2 0 1);(·(cbv;try rfl))))
  | (((with_reducible apply Q9q 2 1 1);(·(cbv;try rfl))))
  | (((with_reducible refine Qne (σ:={x:Nat×AdF // x.1<=N/\∀j,Q3d w (x.2 j).1}) (fun x=>Q3a (Q3a (Q3a (Qwa ⟨pa,un,lA,ln,lc,lk,lt,bA,bn,bc,sA,sn,sc,s,jA,jn,jc,ja,jk,jo,jf,jx,je,jd⟩) 4 (gA A1)) 5 (tk k A2)) 6 (tn x.1.1 x.1.2)) [3,11,12,13,14,15,16,17,18,19,20,21,82,83,84,85,86,87,88,89,90,91,92,93,94,95,96,97,98,99,100,101,102,103,104,105,106,107,108,109,110,111,112,113,114,115,116,117,118,119,120,121,122,123,124,125,126,127,128,129,130,131,132,133,134,135,136,137,138,139,140] (fun x=>[(81,.pt (.one (.int .i64 (.ofNat x.1.1))))]) (fun x=>[]) (fun x=>[(4,⟨x.1.1,1,fun j=>[.val (.slice (x.1.2 j).1 (nl j) (x.1.2 j).2)]⟩),(5,⟨x.1.1,1,fun j=>[.int .u32 (.ofNat (um j))]⟩)]) (fun x=>N - x.1.1) ⟨(0,fun _=>(none,0)),Nat.zero_le _,hA0⟩ rfl rfl ?_ ?_ ?_ ?_);(·(refine Q8c ?_ ?_ ?_ ?_<;>(cbv;(try simp only[true_and,and_true]);(try ((repeat' apply And.intro)<;>(first|trivial|rfl|exact RowLe.rfl' _|exact Q0a rfl (fun j hj=>absurd hj (Nat.not_lt_zero _))|(rw[Qda har _ o9];done)|exact hsk _ _ _ _|exact hsn _ _ _ _|exact hsu _))))));(·(cbv;try rfl));(·simp);(rintro ⟨⟨a,A3⟩,ha0,hA3⟩ mm hmm);(have ha:a<=N:=ha0)))
  | ((with_reducible apply Qoa (hf:=Tryz.call139));(·intro S;cbv;try rfl);(·intro wc S hbc hxc hrc;exact h5 wc hbc a y9);(·rfl))
  | (refine' Qiha Tryz.call140 ?_ ?_;rotate_left;(·intro wc hbc hxc;exact h6 wc hbc a t y9 y9))
  | (refine' Qiha Tryz.call57 ?_ ?_;rotate_left;(·intro wc hbc hxc;exact h7 wc hbc a y9))
  | ((with_reducible apply Qud 15 1);(·(cbv;try rfl)))
  | ((with_reducible refine Qgha (σ:={t:Nat // t<=nl a}) (zs9 [3,1,17,3,99,18]) (fun x=>[zc9 98 x.1]) (fun x=>[]) (fun x=>[(7,⟨x.1,1,fun j=>[.int .i64 (.ofNat (nm a j))]⟩)]) (fun x=>nl a - x.1) ⟨0,Nat.zero_le _⟩ ?_ ?_);(·exact pfp Qbh);(rintro ⟨t,ht⟩ mm hmm))
  | ((with_reducible refine Qfha (⟨t+1,Nat.succ_le_of_lt y9⟩:{t:Nat // t<=nl a}) ?_ ?_);(·exact Nat.lt_of_lt_of_eq (show nl a - (t+1)<nl a - t from by omega) (Eq.symm y9));(·exact pfp Qbh))
  | (((with_reducible refine Q4d (id:=38) (by kernel_rfl) ?_);(refine Qnc 7 0 a (fun ad cap=>tnh a A3 (ad,cap)) (R:=⟨nl a,1,fun k=>[.int .i64 (.ofNat (nm a k))]⟩) rfl (by have e9:t=nl a:=Nat.le_antisymm ht y9;exact Q0a e9 (fun j hj=>Qpa _)) rfl (fun v=>rfl) ⟨fun _ _=>rfl,fun _ _=>rfl,fun _ _=>rfl,fun _ _=>rfl,fun _ _=>rfl,fun _ _=>rfl,fun _ _=>rfl,trivial⟩ (fun j hj=>rfl) (hc6 A1 k A2) (fun p j x h=>tnp a A3 p j x h) (tnz a A3) (fun ad cap p' i' h=>tn3 a A3 ad cap p' i' h) (fun ad cap=>tn4 a A3 ad cap) (fun a2 c2 hn2=>?_));(refine Qy4 (σ:=Unit) (fun _=>Q3a (Q3a (Q3a (Qwa ⟨pa,un,lA,ln,lc,lk,lt,bA,bn,bc,sA,sn,sc,s,jA,jn,jc,ja,jk,jo,jf,jx,je,jd⟩) 4 (gA A1)) 5 (tk k A2)) 6 (tnh a A3 (a2,c2))) [128,129,130,131,132,133,134,135,136,137,138,139] (fun _=>[]) (fun _=>[]) (fun _=>[(4,⟨a+1,1,fun j=>[.val (.slice (tnu A3 a (a2,c2) j).1 (nl j) (tnu A3 a (a2,c2) j).2)]⟩),(5,⟨a+1,1,fun j=>[.int .u32 (.ofNat (um j))]⟩)]) rfl ?_ (fun _=>?_))))
  | (((with_reducible refine Qzh () rfl ?_ ?_ ?_);(·(refine Q8c ?_ ?_ ?_ ?_<;>(cbv;(try simp only[true_and,and_true]);(try ((repeat' apply And.intro)<;>(first|trivial|rfl|exact RowLe.rfl' _|exact hsn _ _ _ _|exact hsu _))))));(·(cbv;try rfl));(·simp)))
  | (((with_reducible refine Qqe (⟨(a+1,tnu A3 a (a2,c2)),Nat.succ_le_of_lt y9,tnN hA3 hn2⟩:{x:Nat×AdF // x.1<=N/\∀j,Q3d w (x.2 j).1}) (by (show _=Q3a _ 6 (tn (a+1) (tnu A3 a (a2,c2))));rw[tnup]) ?_ ?_ ?_ ?_);(·exact Nat.lt_of_lt_of_eq (show N - (a+1)<N - a by omega) (Eq.symm y9));(·(refine Q8c ?_ ?_ ?_ ?_<;>(cbv;(try simp only[true_and,and_true]);(try ((repeat' apply And.intro)<;>(first|trivial|rfl|exact RowLe.rfl' _|exact Q0a rfl (fun j hj=>absurd hj (Nat.not_lt_zero _))|(rw[Qda har _ o9];done)|exact hsk _ _ _ _|exact hsn _ _ _ _|exact hsu _))))));(·(cbv;try rfl));(·simp)))
  | (((have ek:k=P:=Nat.le_antisymm hk y9);(have ea:a=N:=Nat.le_antisymm ha y9);(subst ek);(subst ea);(refine Qoy (Qhv (K:=4)) ?_);(apply Qcc hT (A1,A2,A3) (K:=4) (c0:=Qwa ⟨pa,un,lA,ln,lc,lk,lt,bA,bn,bc,sA,sn,sc,s,jA,jn,jc,ja,jk,jo,jf,jx,je,jd⟩));(·(cbv;try rfl));(·(cbv;try rfl));(·(cbv;(try simp only[true_and,and_true]);(try ((repeat' apply And.intro)<;>(first|trivial|rfl|decide)))));(·(cbv;(try simp only[true_and,and_true]);(try ((repeat' apply And.intro)<;>(first|trivial|rfl|exact RowLe.rfl' _)))));(·rfl);(·exact fun p i j h=>hgp9 _ _ _ _ _ _ h);(·exact fun p i h=>hga9 _ _ _ _ hnew1 hA2 hA3 p i h);(·exact ⟨fun _ _=>rfl,fun _ _=>rfl,fun _ _=>rfl,fun _ _=>rfl,fun _ _=>rfl,trivial⟩);(·rfl)))
  | fail)
end Go.Proofs.YtemnfncbgalljaaGreat
