/- Lemmas. No condition. -/
import Derived.Test.YtemnfncbgalljaaGreatV5
namespace Go.Proofs.YtemnfncbgalljaaGreat
open Go.RowKit Go.Maps
set_option linter.all false
set_option maxRecDepth 100000
set_option maxHeartbeats 64000000
def Qdf (F:GFun):LiveG:=⟨F.ln,stN F.sn F.bn,Q0g F,fun n l=>uB F (pbN F n) (piN F n) l,fun n l=>decide (Int.ofNat l=sI F (pbN F n) (piN F n))⟩
noncomputable def liM (F:GFun) (n:Nat):Nat:=mk (fun l=>(Qdf F).liB l n) F.ln
theorem Qxaa {F:GFun} (hO:F.Ok) {b i:Nat} (hb:b<F.bn):sI F b i<F.ln:=by
 have hl:=hO.lpos
 unfold sI
 split
 · rename_i hi
   have hs:=hO.okS hb hi
   have h1:=hO.stIn hb hi
   unfold stS
   split
   · rename_i h3
     have:=h1 (⟨(F.s b i).l,false,0⟩,false) (by unfold Q3e;rw[if_pos h3];simp)
     exact this.2
   · rename_i h3
     split
     · rename_i h
       simp only[Bool.and_eq_true,decide_eq_true_eq] at h
       have:=h1 ((F.s b i).p,false) (by
        unfold Q3e
        rw[if_neg h3,if_neg o9,if_pos h.1]
        split
        · simp
        · split<;>simp)
       exact this.2
     · omega
 · split
   · rename_i h
     have:=hO.jmIn hb (F.jd b,false) (by unfold Qlp Qpi;rw[if_neg o9,if_pos h.1];simp)
     exact this.2
   · omega
theorem Qyq (E:O9z) (b:Nat) (o o':Obj):exSet (exSet E b o) b o'=exSet E b o':=by
 funext j;unfold exSet;split<;>rfl
theorem MapW.hasKey {es:Array MapEntry} {clock:Nat} {W:B9z} (h:MapW es clock W) {x:MapEntry} {n:Nat} (hx:x∈es.toList) (hk:x.key=.int .i64 (.ofNat n)):W n=true:=by
 obtain ⟨n',_,e,hW⟩:=h.key x hx
 rw[hk] at e
 simp only[Value.int.injEq,Int.ofNat_eq_natCast,Int.natCast_inj,true_and] at e
 rw[e];exact hW
theorem Qkr:(fun _:Nat=>false)=fun j=>decide (j<0):=by funext j;simp
theorem Qjr (i:Nat):(fun j=>if j=i then true else decide (j<i))=fun j=>decide (j<i+1):=by
 funext j
 by_cases h:j=i
 · subst h;simp
 · rw[if_neg h];exact decide_eq_decide.2 o9
theorem Qlb {p:Prop} (h:p:=by (first|((try with_reducible refine Q8c ?_ ?_ ?_ ?_);all_goals (cbv;(try simp only[true_and,and_true]);(try ((repeat' apply And.intro)<;>(first|trivial|rfl|exact RowLe.rfl' _|decide|(rw[Qda har _ o9];done)|((exact Q0a rfl (fun j hj=>⟨rfl,trivial⟩)))|((exact hob))|((rw[Qda har k (by have h8:=hnl2 i y9;have h9:k<nl i:=y9;omega)]))|((exact hst O3 B3 a _ ((uT har B3 a haN).1 (hge1 y9).1)))|((exact hst O3 B3 a _ ((uT har B3 a haN).2 (hge2 y9))))|((rw[(v0 B3 W3 a).1];exact RowLe.rfl' _))|((exact (hC2 (O:=O3) y9 y9).2))|((rw[(hC (O:=O3) y9 y9).1];exact RowLe.rfl' _))|((rw[Qda har k (by have h8:=hlbN a haN;have h9:k<lb (BA N a):=y9;omega)]))|((have e:k=lb (BA N a):=(Nat.le_antisymm hk y9);rw[e];exact RowLe.rfl' _))|((exact hend hI3 hL3 hsz y9))|fail))));done)|fail)):Pf p:=⟨h⟩
theorem Q57 (F:GFun) (w:World) (hF:F.At w) (hO:F.Ok) (hD:F.Fd):
 Calls Tryz.prog 246 #[F.val] w (RetR w (Qwa F) (.tup [.one (.rs 0),.one (.int .i64 0)]) [⟨stN F.sn F.bn,1,fun j=>[.int .u32 (.ofNat (liM F j))]⟩]):=by
 have h1 wc (hk:KB ⟨w,[]⟩ wc):=hO.chk wc (hF.later hk)
 have h30 wc (hk:KB ⟨w,[]⟩ wc):=Q7h F wc (hF.later hk) hO
 have h50 wc (hk:KB ⟨w,[]⟩ wc) (a:Nat) (ha:a<stN F.sn F.bn):=Q12 F wc (hF.later hk) hO (pbN F a) (piN F a) (Qoc ha).1 (Qoc ha).2.1
 have h60 wc (hk:KB ⟨w,[]⟩ wc) (b i:Nat):=Qcy F wc (hF.later hk) hO b i
 have h70 wc (hk:KB ⟨w,[]⟩ wc) (a:Nat) (ha:a<stN F.sn F.bn):=Qcw F wc (hF.later hk) hO hD (pbN F a) (piN F a) (Qoc ha).1
 have hN9:=hO.pts
 have hln:=hO.ln16
 obtain ⟨G,hG⟩:=x9 (Qdf F)
 obtain ⟨N,hN⟩:=x9 (stN F.sn F.bn)
 obtain ⟨pb,hpb⟩:=x9 (pbN F:N9z)
 obtain ⟨pi,hpi⟩:=x9 (piN F:N9z)
 have hR:ptR (Qgb F.sn F.bn)=⟨N,2,fun j=>[.int .i64 (.ofNat (pb j)),.int .i64 (.ofNat (pi j))]⟩:=by rw[ptR,Q6b,hN,hpb,hpi];rfl
 rw[hR] at h30
 obtain ⟨nl,hnl⟩:=x9 (fun a=>(Qgd F (pbN F a) (piN F a)).length:N9z)
 obtain ⟨q1,hq1⟩:=x9 (fun a k=>((Qgd F (pbN F a) (piN F a)).getD k (0,0)).1:Nat->Nat->Nat)
 obtain ⟨q2,hq2⟩:=x9 (fun a k=>((Qgd F (pbN F a) (piN F a)).getD k (0,0)).2:Nat->Nat->Nat)
 obtain ⟨nm,hnm⟩:=x9 (nmN F:Nat->Nat->Nat)
 have h5 wc (hk:KB ⟨w,[]⟩ wc) (a:Nat) (ha:a<N):Calls Tryz.prog 139 #[F.val,.agg #[.int .i64 (.ofNat (pb a)),.int .i64 (.ofNat (pi a))]] wc (RetR wc (Qwa F) (.tup [.one (.rs 0),.one (.int .i64 0)]) [⟨nl a,2,fun j=>[.int .i64 (.ofNat (q1 a j)),.int .i64 (.ofNat (q2 a j))]⟩]):=by
  rw[hpb,hpi,hnl,hq1,hq2];exact h50 wc hk a (hN▸ha)
 have h6 wc (hk:KB ⟨w,[]⟩ wc) (a k:Nat) (ha:a<N) (hk2:k<nl a):Calls Tryz.prog 140 #[F.val,.agg #[.int .i64 (.ofNat (q1 a k)),.int .i64 (.ofNat (q2 a k))]] wc (Ret wc (.tuple #[.int .i64 (.ofNat (nm a k)),.int .i64 0])):=by
  rw[hnl] at hk2
  have q:=Q7x hO (hN▸ha) hk2
  rw[hq1,hq2,hnm];exact h60 wc hk _ _ q.1 q.2.1
 obtain ⟨ln',hln'⟩:=x9 (F.ln:Nat)
 obtain ⟨um,hum⟩:=x9 (fun a=>mk (uB F (pbN F a) (piN F a)) ln':N9z)
 obtain ⟨sm,hsm⟩:=x9 (fun a=>sI F (pbN F a) (piN F a):I9z)
 have h7 wc (hk:KB ⟨w,[]⟩ wc) (a:Nat) (ha:a<N):Calls Tryz.prog 92 #[F.val,.agg #[.int .i64 (.ofNat (pb a)),.int .i64 (.ofNat (pi a))]] wc (Ret wc (.tuple #[.int .u32 (.ofNat (um a)),.int .i64 (sm a),.int .i64 0])):=by
  rw[hpb,hpi,hum,hsm,hln'];exact h70 wc hk a (hN▸ha)
 have hGN:G.N=N:=by rw[hG,hN];rfl
 have hGl:G.ln=ln':=by rw[hG,hln'];rfl
 have hsc:∀a,a<N->(G.sc a).length=nl a/\∀k,k<nl a->(G.sc a).getD k 0=nm a k/\nm a k<N:=fun a ha=>by
  have e:G.sc a=Q0g F a:=by rw[hG];rfl
  rw[e,hnl,hnm,hN]
  refine ⟨Qgg F a,fun k hk=>⟨Qau hk,?_⟩⟩
  exact (Q7x hO (hN▸ha) hk).2.2.1
 have hnl2:∀a,a<N->nl a<=2:=fun a ha=>by
  rw[hnl]
  exact Q4h
 obtain ⟨BA,hBA⟩:=x9 (G.bfA:Nat->Nat->List Nat)
 obtain ⟨BP,hBP⟩:=x9 (G.bfP:Nat->Nat->Nat->List Nat)
 have b0:BA 0=fun _=>[]:=by rw[hBA];rfl
 have b1:∀i,BP i 0=BA i:=fun i=>by rw[hBP,hBA];exact G.bfP_zero i
 have b2:∀i k,i<N->k<nl i->BP i (k+1)=fun j=>if j=nm i k then BP i k (nm i k)++[i] else BP i k j:=fun i k hi hk=>by
  rw[hBP,G.bfP_succ (by rw[(hsc i hi).1];exact hk),((hsc i hi).2 k hk).1];rfl
 have b3:∀i,i<N->BP i (nl i)=BA (i+1):=fun i hi=>by rw[hBP,hBA,<-(hsc i hi).1];exact G.bfP_end i
 have b4:∀i k j,i<N->(BP i k j).length<=2000:=fun i k j hi=>by
  have:=G.bfP_len (n:=j) (fun a=>by rw[hG];show (Q0g F a).length<=2;rw[Qgg];exact Q4h) i k
  rw[hBP]
  omega
 have hnmN:∀i k,i<N->k<nl i->nm i k<N:=fun i k hi hk=>((hsc i hi).2 k hk).2
 have hN6:N<=600:=by rw[hN];exact hN9
 have hmk:(N:Int)<=1073741824:=by omega
 clear h50 h60 h70
 obtain ⟨lb,hlb⟩:=x9 (List.length:List Nat->Nat)
 obtain ⟨nc,hnc⟩:=x9 (ntC:List Nat->Nat->List SC)
 obtain ⟨sv,hsv⟩:=x9 (fun V n v j=>if j=n then v else V j:(Nat->Value)->Nat->Value->Nat->Value)
 have hel1:∀{c:R9z} (L:List Nat),Q3c c ⟨lb L,1,nc L⟩ (ntR L):=fun L=>by rw[hlb,hnc];exact Q32 _ _
 have hel2:∀{c:R9z} {L:List Nat} {xs:List Value},xs.length=lb L->Q3c c ⟨lb L,1,nc L⟩ xs->xs=ntR L:=fun {c L xs} h1 h2=>by
  rw[hlb] at h1 h2;rw[hnc] at h2;exact Qe8 o9 h2
 have hrw:∀{E:O9z} {m:Nat} {es:Array MapEntry} {cl:Nat} {W:B9z} {V:Nat->Value} {B:Nat->List Nat},LSt E m es cl W N V B->∀{n:Nat},n<N->ExRow E 1 (V n) (lb (B n)) (ntR (B n)):=by
  intro E m es cl W V B h n hn
  rw[hlb];exact h.row n hn
 obtain ⟨mO,hmO⟩:=x9 (fun X j=>mk (X j) ln':(Nat->Nat->Bool)->Nat->Nat)
 obtain ⟨sO,hsO⟩:=x9 (fun O Bh a=>LiveG.setO O a (G.tr a (Bh a)):(Nat->Nat->Bool)->(Nat->Nat->Bool)->Nat->Nat->Nat->Bool)
 obtain ⟨vB,hvB⟩:=x9 (fun Bh W a k=>(G.visP Bh W a k).1:(Nat->Nat->Bool)->(Nat->Bool)->Nat->Nat->Nat->Nat->Bool)
 obtain ⟨vW,hvW⟩:=x9 (fun Bh W a k=>(G.visP Bh W a k).2:(Nat->Nat->Bool)->(Nat->Bool)->Nat->Nat->Nat->Bool)
 obtain ⟨me,hme⟩:=x9 (fun Bh W=>LiveG.lft G Bh N+FlowG.cnt W N:(Nat->Nat->Bool)->(Nat->Bool)->Nat)
 obtain ⟨bg,hbg⟩:=x9 (fun a k=>(BA N a).getD k 0:Nat->Nat->Nat)
 have i0:LiveG.Inv G (fun _ _=>false) (fun _ _=>false) (fun j=>decide (j<N)):=by rw[<-hGN];exact LiveG.inv_first
 have m00:∀j,(0:Int)=.ofNat (mO (fun _ _=>false) j):=fun j=>by rw[hmO];show (0:Int)=Int.ofNat (mk (fun _=>false) ln');rw[<-Q6x];rfl
 have bgN:∀a k,k<lb (BA N a)->bg a k<N:=fun a k hk=>by
  rw[hlb] at hk
  have hm:bg a k∈BA N a:=by rw[hbg];simp only[List.getD,List.getElem?_eq_getElem hk,Option.getD_some];exact List.getElem_mem hk
  rw[hBA] at hm
  exact ((G.bfA_mem N).1 hm).1
 have bgG:∀a k,k<lb (BA N a)->(ntR (BA N a))[k]? =some (.int .i64 (.ofNat (bg a k))):=fun a k hk=>by
  rw[hlb] at hk;rw[hbg];exact Qnr hk
 have v0:∀Bh W a,vB Bh W a 0=Bh/\vW Bh W a 0=fun j=>if j=a then false else W j:=fun Bh W a=>by
  rw[hvB,hvW];simp only[G.visP_zero];exact ⟨trivial,rfl⟩
 have mS:∀Bh W O a k n,mO (vB Bh W a k) n=mk (vB Bh W a k n) ln'/\mO (sO O Bh a) a=mk (G.tr a (Bh a)) ln':=fun Bh W O a k n=>by
  rw[hmO,hsO];refine ⟨rfl,?_⟩;show mk (LiveG.setO O a (G.tr a (Bh a)) a) ln'=_;congr 1;funext l;simp[LiveG.setO]
 have vS:∀Bh W a k,k<lb (BA N a)->G.visP Bh W a (k+1)=LiveG.relaxL G (G.tr a (Bh a)) (G.visP Bh W a k) (bg a k):=fun Bh W a k hk=>by
  rw[hlb,hBA,<-hGN] at hk
  rw[hbg,hBA,<-hGN];exact G.visP_succ hk
 have vT:∀Bh W O a k,k<lb (BA N a)->mk (fun l=>vB Bh W a k (bg a k) l||G.tr a (Bh a) l) ln'=mO (vB Bh W a k) (bg a k)->vB Bh W a (k+1)=vB Bh W a k/\vW Bh W a (k+1)=vW Bh W a k:=fun Bh W O a k hk h=>by
  rw[(mS Bh W O a k (bg a k)).1] at h
  have hs:LiveG.subB G (G.tr a (Bh a)) ((G.visP Bh W a k).1 (bg a k))=true:=Qla.2 fun l hl=>by
   have:=Q97 h (l:=l) (by rw[<-hGl];exact hl)
   rw[hvB] at this
   exact decide_eq_true this
  rw[hvB,hvW];simp only[vS Bh W a k hk,LiveG.relaxL,if_pos hs];exact ⟨trivial,trivial⟩
 have vF:∀Bh W O a k,k<lb (BA N a)->mk (fun l=>vB Bh W a k (bg a k) l||G.tr a (Bh a) l) ln'≠mO (vB Bh W a k) (bg a k)->vB Bh W a (k+1)=(fun j l=>if j=bg a k then vB Bh W a k (bg a k) l||G.tr a (Bh a) l else vB Bh W a k j l)/\vW Bh W a (k+1)=fun j=>if j=bg a k then true else vW Bh W a k j:=fun Bh W O a k hk h=>by
  rw[(mS Bh W O a k (bg a k)).1] at h
  have hs:¬LiveG.subB G (G.tr a (Bh a)) ((G.visP Bh W a k).1 (bg a k))=true:=fun hs=>h (Q9s fun l hl=>by
   have:=of_decide_eq_true (Qla.1 hs l (by rw[hGl];exact hl))
   rw[hvB];exact this)
  rw[hvB,hvW];simp only[vS Bh W a k hk,LiveG.relaxL,if_neg hs];exact ⟨trivial,trivial⟩
 have vN:∀{O Bh W a},LiveG.Inv G O Bh W->∀k n,vW Bh W a k n=true->n<N:=fun {O Bh W a} h k n hn=>by
  rw[hvW] at hn;rw[<-hGN];exact G.visP_wN h.wN k n hn
 have vE:∀{O Bh W a},LiveG.Inv G O Bh W->W a=true->LiveG.Inv G (sO O Bh a) (vB Bh W a (lb (BA N a))) (vW Bh W a (lb (BA N a)))/\me (vB Bh W a (lb (BA N a))) (vW Bh W a (lb (BA N a)))<me Bh W:=fun {O Bh W a} h ha=>by
  have e:G.visP Bh W a (lb (BA N a))=G.visit Bh W a:=by rw[hlb,hBA,<-hGN];exact G.visP_end Bh W a
  have:=LiveG.inv_step h ha
  rw[hvB,hvW,hme,hsO]
  simp only[e]
  rw[<-hGN];exact this
 have iE:∀{O Bh W},LiveG.Inv G O Bh W->(∀n,W n=false)->∀j,j<N->mO O j=liM F j:=fun {O Bh W} h hW j hj=>by
  rw[hmO]
  have hl:F.ln=ln':=hln'.symm
  unfold liM
  rw[hl,<-hG]
  exact Q9s fun l hl=>LiveG.inv_end (fun n hn q hq=>by
   rw[hGN] at hn⊢
   have e:G.sc n=Q0g F n:=by rw[hG];rfl
   rw[e] at hq
   rw[hN] at hn⊢;exact Qgi hO hn q hq) h hW (by rw[hGN];exact hj) (by rw[hGl];exact hl)
 have mN:∀(O Bh:B9y) (a j:Nat),¬j=a->mO (sO O Bh a) j=mO O j:=fun O Bh a j h=>by
  rw[hmO,hsO];show mk (LiveG.setO O a (G.tr a (Bh a)) j) ln'=_;congr 1;funext l;simp[LiveG.setO,h]
 have mP:∀(B:B9y) (S:B9z) (n j:Nat),¬j=n->mO (fun j l=>if j=n then S l else B j l) j=mO B j:=fun B S n j h=>by
  rw[hmO];simp only[if_neg h]
 have mQ:∀(B:B9y) (S:B9z) (n:Nat),mO (fun j l=>if j=n then S l else B j l) n=mk (fun l=>S l) ln':=fun B S n=>by
  rw[hmO];simp only[if_true]
 have hlbN:∀a,a<N->lb (BA N a)<=2000:=fun a ha=>by
  have hN0:0<N:=by omega
  have:=b4 (N - 1) (nl (N - 1)) a o9
  rw[b3 (N - 1) o9,Nat.sub_add_cancel hN0] at this
  rw[hlb];exact this
 have uO:∀{ar:A9z},ar=rAr->∀{Bh:B9y} {W:B9z} {O:B9y} {a k n:Nat},ar .or .u32 (.ofNat (mO (vB Bh W a k) n)) (.ofNat (mO (sO O Bh a) a))=.ofNat (mk (fun l=>vB Bh W a k n l||G.tr a (Bh a) l) ln'):=by
  intro ar har Bh W O a k n
  rw[(mS Bh W O a k n).1,(mS Bh W O a k n).2]
  exact Q60 har (n:=ln') o9 _ _
 have uT:∀{ar:A9z},ar=rAr->∀Bh a,a<N->(0<=sm a->ar .or .u32 (ar .andNot .u32 (.ofNat (mO Bh a)) (ar .shl .u32 1 (sm a))) (.ofNat (um a))=.ofNat (mk (G.tr a (Bh a)) ln'))/\(¬0<=sm a->ar .or .u32 (.ofNat (mO Bh a)) (.ofNat (um a))=.ofNat (mk (G.tr a (Bh a)) ln')):=by
  intro ar har Bh a ha
  have hl32:ln'<=32:=by omega
  have et:∀l,G.tr a (Bh a) l=((Bh a l&&!decide (Int.ofNat l=sm a))||uB F (pbN F a) (piN F a) l):=fun l=>by rw[hG,hsm];rfl
  have es:sm a<ln':=by rw[hsm,hln'];exact Qxaa hO (Qoc (hN▸ha)).1
  refine ⟨fun h0=>?_,fun h0=>?_⟩
  · have e1:sm a=.ofNat (sm a).toNat:=by simp only[Int.ofNat_eq_natCast];omega
    have e2:ar .shl .u32 1 (sm a)=.ofNat (mk (fun l=>decide (l=(sm a).toNat)) ln'):=by
     rw[<-Qz2 (show (sm a).toNat<ln' by omega),<-Qyz har (show (sm a).toNat<32 by omega),<-e1]
    rw[e2,hmO,Q5x har (n:=ln') hl32,hum,Q60 har (n:=ln') hl32]
    refine congrArg Int.ofNat (Q9s fun l hl=>?_)
    rw[et]
    have:decide (l=(sm a).toNat)=decide (Int.ofNat l=sm a):=decide_eq_decide.2 (by simp only[Int.ofNat_eq_natCast];omega)
    rw[this]
  · rw[hmO,hum,Q60 har (n:=ln') hl32]
    refine congrArg Int.ofNat (Q9s fun l hl=>?_)
    rw[et]
    have:decide (Int.ofNat l=sm a)=false:=decide_eq_false (by simp only[Int.ofNat_eq_natCast];omega)
    rw[this];simp
 rw[<-hN]
 obtain ⟨z,hz⟩:=x9 (liM F:N9z)
 rw[<-hz] at iE⊢
 clear hpb hpi hR hnl hq1 hq2 hnm hum hsm hO hD hN9 hmO hsO hvB hvW hme hbg vS hsc hG hGl hln' hBA hBP hz hln
 obtain ⟨pa,un,lA,ln,lc,lk,lt,bA,bn,bc,sA,sn,sc,s,jA,jn,jc,ja,jk,jo,jf,jx,je,jd⟩:=F
 obtain ⟨hX,hl,hb,hs,hj⟩:=hF
 simp only at hl hb hs hj
 refine Qaa (args:=[.pt (.agg (GFun.dat _))]) (c:=(Qwa _)) Tryz.func246 rfl hX rfl rfl ?_
 obtain ⟨_,_,_,hnt,ar,har,cm,hcm,mx,hmx,_,_,ar01,ar12,zpl,hzpl,zjn,hzjn,zup,hzup,_,_,_,_,hT⟩:=Qca
 have hap:∀i k j,i<N->(zpl (lb (BP i k j)) 1).le 1073741824:=fun i k j hi=>by
  rw[hzpl,hlb]
  have:=b4 i k j hi
  show (BP i k j).length+1<=1073741824
  omega
 have hturn:∀{c:R9z} {E:O9z} {m:Nat} {es:Array MapEntry} {cl:Nat} {W:B9z} {V:Nat->Value} {E1 E2:O9z} {i k:Nat} {ad:Option Addr} {cap:Nat} {xs:List Value} {g:Nat->List SC},LSt E m es cl W N V (BP i k)->i<N->k<nl i->(∀b,(V (nm i k)).ownBlock≠some b->E1 b=E b)->(∀b,(V (nm i k)).ownBlock=some b->E1 b=none)->
  (∀b,(Value.slice ad (zpl (lb (BP i k (nm i k))) 1) cap).ownBlock≠some b->E2 b=E1 b)->(∀b,(Value.slice ad (zpl (lb (BP i k (nm i k))) 1) cap).ownBlock=some b->E1 b=none)->Qbc (g 0) [.int .i64 (.ofNat i)]->
  ExRow E2 1 (.slice ad (zpl (lb (BP i k (nm i k))) 1) cap) (zpl (lb (BP i k (nm i k))) 1) xs->Q3c c ⟨zpl (lb (BP i k (nm i k))) 1,1,zjn (lb (BP i k (nm i k))) (nc (BP i k (nm i k))) g⟩ xs->
  LSt E2 m es cl W N (sv V (nm i k) (.slice ad (zpl (lb (BP i k (nm i k))) 1) cap)) (BP i (k+1)):=by
  intro c E m es cl W V E1 E2 i k ad cap xs g hL hi hk t1 t2 g1 g2 hg g3 g4
  rw[hlb,hnc] at g4
  have hle:=Qd8 hzpl hzjn (L:=BP i k (nm i k)) (x:=i) (g:=g) hg
  have h9:zpl (BP i k (nm i k)).length 1=(BP i k (nm i k)++[i]).length:=hle.n
  have hx:=Qe8 (by have e:=g3.1;rw[hlb] at e;rw[e,h9]) (hle.els g4)
  have hn:zpl (lb (BP i k (nm i k))) 1=(BP i k (nm i k)++[i]).length:=by rw[hlb];exact hle.n
  rw[hx] at g3
  have g3':ExRow E2 1 (.slice ad (zpl (lb (BP i k (nm i k))) 1) cap) (BP i k (nm i k)++[i]).length (ntR (BP i k (nm i k)++[i])):=by rw[<-hn];exact g3
  have:=hL.turn (hnmN i k hi hk) t1 t2 g1 g2 g3'
  rw[b2 i k hi hk,hsv]
  exact this
 have hob:∀{V:Nat->Value} {n:Nat} {v:Value},RowLe ⟨N,1,zup (fun j=>[.ob (V j)]) n 0 [.val v]⟩ ⟨N,1,fun j=>[.ob (sv V n v j)]⟩:=by
  intro V n v
  refine Qad hzup rfl (fun j hj h=>⟨?_,trivial⟩) (fun _=>⟨?_,trivial⟩)
  · rw[hsv];simp only[if_neg h];rfl
  · rw[hsv];simp only[if_true];rfl
 have hz0:RowLe ⟨N,1,fun x=>[SC.int .u32 0]⟩ ⟨N,1,fun j=>[SC.int .u32 (.ofNat (mO (fun _ _=>false) j))]⟩:=Q0a rfl fun j hj=>⟨⟨rfl,m00 j⟩,trivial⟩
 have hge1:∀{a:Nat},cm .geq (sm a) 0=true->0<=sm a/\sm a<(sm a).toNat+1:=fun {a} h=>by
  rw[hcm] at h
  have h:0<=sm a:=of_decide_eq_true h
  exact ⟨h,by omega⟩
 have hge2:∀{a:Nat},cm .geq (sm a) 0=false->¬0<=sm a:=fun {a} h=>by
  rw[hcm] at h
  exact of_decide_eq_false h
 have hst:∀(O Bh:B9y) (a:Nat) (X:Int),X=.ofNat (mk (G.tr a (Bh a)) ln')->RowLe ⟨N,1,zup (fun j=>[.int .u32 (.ofNat (mO O j))]) a 0 [.int .u32 X]⟩ ⟨N,1,fun j=>[.int .u32 (.ofNat (mO (sO O Bh a) j))]⟩:=fun O Bh a X hX=>by
  refine Qad hzup rfl (fun j hj h=>⟨⟨rfl,?_⟩,trivial⟩) (fun _=>⟨⟨rfl,?_⟩,trivial⟩)
  · rw[mN O Bh a j h]
  · rw[hX,(mS Bh (fun _=>false) O a 0 0).2]
 have hC:∀{Bh:B9y} {W:B9z} {O:B9y} {a k:Nat},k<lb (BA N a)->decide (ar .or .u32 (.ofNat (mO (vB Bh W a k) (bg a k))) (.ofNat (mO (sO O Bh a) a))=Int.ofNat (mO (vB Bh W a k) (bg a k)))=true->vB Bh W a (k+1)=vB Bh W a k/\vW Bh W a (k+1)=vW Bh W a k:=fun {Bh W O a k} hk h=>by
  rw[uO har] at h
  exact vT Bh W O a k hk (Int.ofNat.inj (of_decide_eq_true h))
 have hC2:∀{Bh:B9y} {W:B9z} {O:B9y} {a k:Nat},k<lb (BA N a)->decide (ar .or .u32 (.ofNat (mO (vB Bh W a k) (bg a k))) (.ofNat (mO (sO O Bh a) a))=Int.ofNat (mO (vB Bh W a k) (bg a k)))=false->vW Bh W a (k+1)=(fun j=>if j=bg a k then true else vW Bh W a k j)/\
  RowLe ⟨N,1,zup (fun j=>[.int .u32 (.ofNat (mO (vB Bh W a k) j))]) (bg a k) 0 [.int .u32 (ar .or .u32 (.ofNat (mO (vB Bh W a k) (bg a k))) (.ofNat (mO (sO O Bh a) a)))]⟩ ⟨N,1,fun j=>[.int .u32 (.ofNat (mO (vB Bh W a (k+1)) j))]⟩:=fun {Bh W O a k} hk h=>by
  rw[uO har] at h⊢
  have hv:=vF Bh W O a k hk (fun e=>of_decide_eq_false h (congrArg Int.ofNat e))
  refine ⟨hv.2,Qad hzup rfl (fun j hj h=>⟨⟨rfl,?_⟩,trivial⟩) (fun _=>⟨⟨rfl,?_⟩,trivial⟩)⟩
  · rw[hv.1,mP _ _ _ _ h]
  · rw[hv.1,mQ]
 have hend:∀{O Bh:B9y} {W:B9z} {E:O9z} {m:Nat} {es:Array MapEntry} {cl:Nat} {V:Nat->Value} {sz:Nat},LiveG.Inv G O Bh W->LSt E m es cl W N V (BA N)->es.size=sz->cm .gtr (.ofNat sz) 0=false->RowLe ⟨N,1,fun j=>[.int .u32 (.ofNat (mO O j))]⟩ ⟨N,1,fun j=>[.int .u32 (.ofNat (z j))]⟩:=by
  intro O Bh W E m es cl V sz hI hL hsz h
  have h0:sz=0:=by
   rw[hcm] at h
   have h:¬0<sz:=fun g=>of_decide_eq_false h (Int.ofNat_lt.2 g)
   omega
  refine Q0a rfl fun j hj=>⟨⟨rfl,?_⟩,trivial⟩
  have:=iE hI (fun n=>?_) j hj
  · rw[this]
  · cases hn:W n with
    | false=>rfl
    | true=>
      obtain ⟨x,hx,_⟩:=hL.mw.has n hn
      have:0<es.size:=by
       have:=List.length_pos_of_mem hx
       simpa using this
      omega
 have htk1:∀{W3:B9z} {seen:Array Nat} {out:Int} {nn:Nat} {b:Nat},((out= -1/\seen=#[])\/∃n:Nat,out=.ofNat n/\W3 n=true)->W3 nn=true->((mx out (.ofNat nn)= -1/\seen.push b=#[])\/∃n:Nat,mx out (.ofNat nn)=.ofNat n/\W3 n=true):=by
  intro W3 seen out nn b h hn
  refine .inr ?_
  rw[hmx]
  rcases h with ⟨rfl,_⟩|⟨n,rfl,hW⟩
  · exact ⟨nn,by show max (-1:Int) (nn:Int)=(nn:Int);omega,hn⟩
  · by_cases g:n<=nn
    · exact ⟨nn,by simp only[rMx,Int.ofNat_eq_natCast];split<;>omega,hn⟩
    · exact ⟨n,by simp only[rMx,Int.ofNat_eq_natCast];split<;>omega,hW⟩
 have htk2:∀{W3:B9z} {seen:Array Nat} {out:Int} {es3:Array MapEntry} {sz:Nat},((out= -1/\seen=#[])\/∃n:Nat,out=.ofNat n/\W3 n=true)->es3.size=sz->cm .gtr (.ofNat sz) 0=true->(leftOf es3 seen).size=0->∃n:Nat,out=.ofNat n/\W3 n=true:=by
  intro W3 seen out es3 sz h hsz hg hno
  rcases h with ⟨_,rfl⟩|h
  · exfalso
    rw[hcm] at hg
    have hg:0<sz:=Int.ofNat_lt.1 (of_decide_eq_true hg)
    have hx:es3[0]'o9∈es3.toList:=by simp
    have:=all_seen es3 #[] hno _ hx
    simp at this
  · exact h
 have hnW:∀{O B:B9y} {W:B9z} {n:Nat},LiveG.Inv G O B W->W n=true->n<N:=fun h hn=>hGN▸h.wN _ hn
 refine Que (fun _=>none) (fun b o h=>h) ?_
 repeat' (first
  | refine goa ?_|refine go3 (fun hlt=>?_) (fun hge=>?_)|refine go2 (fun h=>?_) (fun h=>?_)|refine god ?_|refine gof ?_
  | exact gor (ha:=Qlb) (hb:=Qlb)
  | refine gob ?_
  | ((with_reducible refine Q4c ?_ ?_);(·first|((exact ⟨Int.natCast_nonneg N,hmk⟩))|((exact hap i k _ y9))|((exact ⟨Int.natCast_nonneg N,hmk⟩))))
  | (refine' Qiha Tryz.call85 ?_ ?_;rotate_left;(·intro wc hbc hxc;exact h1 wc hbc.nx))
  | ((with_reducible apply Qoa (hf:=Tryz.call67));(·intro S;cbv;try rfl);(·intro wc S hbc hxc hrc;exact h30 wc hbc.nx);(·rfl))
  | (((refine Qqw rfl rfl ?_);intro m hm1 hm2))
  | (((refine Qdp (m:=m) rfl rfl Tryz.underlying310 Tryz.underlying3 rfl rfl (show i<100000 by omega) hL.em hL.mw ?_);intro es1 cl1 hM1;have hL1:=(hL.put hM1).same (Qjr i) rfl;generalize exSet E m (.map es1 cl1)=E1 at hL1⊢;clear hM1))
  | ((with_reducible apply Qoa (hf:=Tryz.call139));(·intro S;cbv;try rfl);(·intro wc S hbc hxc hrc;exact h5 wc hbc.nx i y9);(·rfl))
  | (refine' Qiha Tryz.call140 ?_ ?_;rotate_left;(·intro wc hbc hxc;exact h6 wc hbc.nx i k y9 y9))
  | ((with_reducible refine Q9e (σ:={x:Nat×(Nat->Option Obj)×(Nat->Value)×Array MapEntry×Nat // x.1<=N/\LSt x.2.1 m x.2.2.2.1 x.2.2.2.2 (fun j=>decide (j<x.1)) N x.2.2.1 (BA x.1)}) (fun _=>Qwa ⟨pa,un,lA,ln,lc,lk,lt,bA,bn,bc,sA,sn,sc,s,jA,jn,jc,ja,jk,jo,jf,jx,je,jd⟩) (fun x=>x.1.2.1) [10,11,12,13,15,16,17,50,51,52,53,54,55,56,57,58,59,60,61,62,63,64,65,66,67,68,69,70,71,72,73,74,75,76,77,78,79,80,81,82,83,84,85,86,87,88,89,90,91] (fun x=>[(49,.pt (.one (.int .i64 (.ofNat x.1.1))))]) (fun x=>[]) (fun x=>[(2,⟨N,1,fun j=>[.ob (x.1.2.2.1 j)]⟩)]) (fun x=>N - x.1.1) ⟨(0,exSet (fun _=>none) m (.map #[] 0),(fun _=>.slice none 0 0),#[],0),Nat.zero_le _,(LSt.first _ m N).same (Qkr) b0.symm⟩ ?_ ?_ ?_ ?_ ?_ ?_);(·rfl);(·exact fun b o h=>h);(·rfl);(·exact pfp Qlb);(·(cbv;try rfl));(rintro ⟨⟨i,E,V,es,cl⟩,hi,hL⟩ mm hmm;refine Que E (fun b o h=>h) ?_))
  | ((with_reducible refine Q9e (σ:={x:Nat×(Nat->Option Obj)×(Nat->Value) // x.1<=nl i/\LSt x.2.1 m es1 cl1 (fun j=>decide (j<i+1)) N x.2.2 (BP i x.1)}) (fun _=>Qwa ⟨pa,un,lA,ln,lc,lk,lt,bA,bn,bc,sA,sn,sc,s,jA,jn,jc,ja,jk,jo,jf,jx,je,jd⟩) (fun x=>x.1.2.1) [15,16,17,68,69,70,71,72,73,74,75,76,77,78,79,80,81,82,83,84,85,86,87,88,89,90] (fun x=>[(67,.pt (.one (.int .i64 (.ofNat x.1.1))))]) (fun x=>[]) (fun x=>[(2,⟨N,1,fun j=>[.ob (x.1.2.2 j)]⟩)]) (fun x=>nl i - x.1.1) ⟨(0,E1,V),Nat.zero_le _,hL1.same rfl (b1 i).symm⟩ ?_ ?_ ?_ ?_ ?_ ?_);(·rfl);(·exact fun b o h=>h);(·rfl);(·exact pfp Qlb);(·(cbv;try rfl));(rintro ⟨⟨k,E2,V2⟩,hk,hL2⟩ mm hmm;refine Que E2 (fun b o h=>h) ?_))
  | (((with_reducible apply Qxa);(·exact Int.natCast_nonneg _);(·exact Int.ofNat_lt.2 (hnmN i k y9 y9))))
  | ((refine Qjg (Q54 [85] (nc (BP i k (nm i k))) (hrw hL2 (hnmN i k y9 y9)) (hel1 _) (by first|(cbv;done)|(cbv;simp)) ?_);intro E3 t1 t2))
  | ((refine Qjg (Qnw 4 rfl ?_);intro ad4 cap4 xs4 E4 g1 g2 g3 g4))
  | ((refine Qpe (⟨(k+1,E4,sv V2 (nm i k) (.slice ad4 (zpl (lb (BP i k (nm i k))) 1) cap4)),Nat.succ_le_of_lt y9,hturn hL2 y9 y9 t1 t2 g1 (fun b hb=>(g2 b hb).2) (Qpa _) g3 g4⟩:{x:Nat×(Nat->Option Obj)×(Nat->Value) // x.1<=nl i/\LSt x.2.1 m es1 cl1 (fun j=>decide (j<i+1)) N x.2.2 (BP i x.1)}) ?_ ?_ ?_ ?_ ?_);(·rfl);(·exact fun b o h=>h);(·exact Nat.lt_of_lt_of_eq (show nl i - (k+1)<nl i - k from by omega) (Eq.symm y9));(·exact pfp Qlb);(·(cbv;try rfl)))
  | ((refine Qpe (⟨(i+1,E2,V2,es1,cl1),Nat.succ_le_of_lt y9,hL2.same rfl (by rw[<-b3 i y9];exact congrArg (BP i) (Nat.le_antisymm hk y9))⟩:{x:Nat×(Nat->Option Obj)×(Nat->Value)×Array MapEntry×Nat // x.1<=N/\LSt x.2.1 m x.2.2.2.1 x.2.2.2.2 (fun j=>decide (j<x.1)) N x.2.2.1 (BA x.1)}) ?_ ?_ ?_ ?_ ?_);(·rfl);(·exact fun b o h=>h);(·exact Nat.lt_of_lt_of_eq (show N - (i+1)<N - i from by omega) (Eq.symm y9));(·exact pfp Qlb);(·(cbv;try rfl)))
  | ((with_reducible refine Q9e (σ:={x:(Nat->Option Obj)×Array MapEntry×Nat×(Nat->Bool)×(Nat->Nat->Bool)×(Nat->Nat->Bool) // LSt x.1 m x.2.1 x.2.2.1 x.2.2.2.1 N V (BA N)/\LiveG.Inv G x.2.2.2.2.1 x.2.2.2.2.2 x.2.2.2.1}) (fun _=>Qwa ⟨pa,un,lA,ln,lc,lk,lt,bA,bn,bc,sA,sn,sc,s,jA,jn,jc,ja,jk,jo,jf,jx,je,jd⟩) (fun x=>x.1.1) [19,20,21,22,23,25,26,95,96,97,98,99,100,101,102,103,104,105,106,107,108,109,110,111,112,113,114,115,116,117,118,119,120,121,122,123,124,125,126,127,128,129,130,131,132,133,134,135,136,137,138,139,140,141,142,143,144,145,146,147,148,149,150,151,152,153,154,155,156,157,158,159] (fun x=>[]) (fun x=>[]) (fun x=>[(1,⟨N,1,fun j=>[.int .u32 (.ofNat (mO x.1.2.2.2.2.1 j))]⟩),(3,⟨N,1,fun j=>[.int .u32 (.ofNat (mO x.1.2.2.2.2.2 j))]⟩)]) (fun x=>me x.1.2.2.2.2.2 x.1.2.2.2.1) ⟨(E,es,cl,fun j=>decide (j<N),fun _ _=>false,fun _ _=>false),(by have e:i=N:=Nat.le_antisymm hi y9;rw[e] at hL;exact hL),i0⟩ ?_ ?_ ?_ ?_ ?_ ?_);(·rfl);(·exact fun b o h=>h);(·rfl);(·exact pfp Qlb);(·(cbv;try rfl));(rintro ⟨⟨E3,es3,cl3,W3,O3,B3⟩,hL3,hI3⟩ mm hmm;refine Que E3 (fun b o h=>h) ?_))
  | (((refine Qpw (c1:=⟨.builtin .len,#[],#[]⟩) rfl rfl Tryz.underlying310 rfl hL3.em ?_);generalize hsz:es3.size=sz))
  | refine Qhha Tryz.func276 Tryz.results276 Tryz.call276 ?_
  | (((refine Qr0 rfl rfl Tryz.underlying310 rfl hL3.em ?_);intro r hr1 hr2))
  | ((with_reducible refine Q9e (σ:={x:Array Nat×Int // (x.2= -1/\x.1=#[])\/∃n:Nat,x.2=.ofNat n/\W3 n=true}) (fun _=>Qwa ⟨pa,un,lA,ln,lc,lk,lt,bA,bn,bc,sA,sn,sc,s,jA,jn,jc,ja,jk,jo,jf,jx,je,jd⟩) (fun x=>exSet E3 r (.mapIter (some m) cl3 x.1.1 cl3)) [4,7,8,9,10,11,12,13] (fun x=>[(3,.pt (.one (.int .i64 x.1.2)))]) (fun x=>[]) (fun x=>[]) (fun x=>(leftOf es3 x.1.1).size) ⟨(#[],-1),.inl ⟨rfl,rfl⟩⟩ ?_ ?_ ?_ ?_ ?_ ?_);(·rfl);(·exact fun b o h=>h);(·rfl);(·exact pfp Qlb);(·(cbv;try rfl));(rintro ⟨⟨seen,out⟩,hs⟩ mm hmm;refine Que (exSet E3 r (.mapIter (some m) cl3 seen cl3)) (fun b o h=>h) ?_))
  | ((refine Q34 (m:=m) (r:=r) rfl rfl rfl (hL3.beside (.inl hr2)).em (Qle _ _ _) hL3.mw (Nat.le_refl _) (fun hno=>?_) (fun xe nn hxe hkey=>Que (exSet E3 r (.mapIter (some m) cl3 (seen.push xe.born) cl3)) (fun b o h=>by rw[Qyq];exact h) ?_)))
  | ((refine Qm0 (m:=m) (r:=r) (en:=xe) rfl rfl rfl (hL3.beside (.inl hr2)).em (Qle _ _ _) hL3.mw (mem_left hxe).1 hkey ?_))
  | ((refine Qpe (⟨(seen.push xe.born,mx out (.ofNat nn)),htk1 hs (hL3.mw.hasKey (mem_left hxe).1 hkey)⟩:{x:Array Nat×Int // (x.2= -1/\x.1=#[])\/∃n:Nat,x.2=.ofNat n/\W3 n=true}) ?_ ?_ ?_ ?_ ?_);(·rfl);(·exact fun b o h=>h);(·(exact Nat.lt_of_lt_of_eq (left_shrinks es3 seen xe hxe) (Eq.symm y9)));(·exact pfp Qlb);(·(cbv;try rfl)))
  | ((obtain ⟨a,haO,haW⟩:=htk2 hs hsz y9 hno;subst haO;refine Qow rfl rfl Tryz.underlying310 Tryz.underlying3 rfl rfl (Nat.lt_of_lt_of_le (hnW hI3 haW) o9) (hL3.beside (.inl hr2)).em hL3.mw ?_;intro es5 hM5;have hL5:LSt (exSet (exSet E3 r (.mapIter (some m) cl3 seen cl3)) m (.map es5 cl3)) m es5 cl3 (fun j=>if j=a then false else W3 j) N V (BA N):=(LSt.beside (E:=E3) hL3 (.inl hr2)).put hM5;have haN:=hnW hI3 haW;clear hM5;generalize exSet (exSet E3 r (.mapIter (some m) cl3 seen cl3)) m (.map es5 cl3)=E5 at hL5⊢))
  | (refine' Qiha Tryz.call92 ?_ ?_;rotate_left;(·intro wc hbc hxc;exact h7 wc hbc.nx a haN))
  | (((with_reducible apply Qxa);(·exact (hge1 y9).1);(·exact (hge1 y9).2)))
  | ((refine Qp0 hT rfl rfl rfl rfl (hrw hL5 haN) ?_))
  | ((with_reducible refine Q9e (σ:={x:Nat×(Nat->Option Obj)×Array MapEntry×Nat // x.1<=lb (BA N a)/\LSt x.2.1 m x.2.2.1 x.2.2.2 (vW B3 W3 a x.1) N V (BA N)}) (fun _=>Qwa ⟨pa,un,lA,ln,lc,lk,lt,bA,bn,bc,sA,sn,sc,s,jA,jn,jc,ja,jk,jo,jf,jx,je,jd⟩) (fun x=>x.1.2.1) [25,26,135,136,137,138,139,140,141,142,143,144,145,146,147,148,149,150,151,152,153,154,155,156,157,158,159] (fun x=>[(134,.pt (.one (.int .i64 (.ofNat x.1.1))))]) (fun x=>[]) (fun x=>[(1,⟨N,1,fun j=>[.int .u32 (.ofNat (mO (sO O3 B3 a) j))]⟩),(3,⟨N,1,fun j=>[.int .u32 (.ofNat (mO (vB B3 W3 a x.1.1) j))]⟩)]) (fun x=>lb (BA N a) - x.1.1) ⟨(0,E5,es5,cl3),Nat.zero_le _,hL5.same (v0 B3 W3 a).2.symm rfl⟩ ?_ ?_ ?_ ?_ ?_ ?_);(·rfl);(·exact fun b o h=>h);(·rfl);(·exact pfp Qlb);(·(cbv;try rfl));(rintro ⟨⟨k,E6,es6,cl6⟩,hk,hL6⟩ mm hmm;refine Que E6 (fun b o h=>h) ?_))
  | ((refine Qtw (x1:=.int .i64 (.ofNat (bg a k))) hT rfl rfl rfl rfl rfl y9 (hrw hL6 haN) (bgG a k y9) ?_;intro g6 p6 cur6 ty6 hEg hcur))
  | ((refine Quw hT rfl rfl rfl rfl rfl hEg hcur ?_))
  | (((with_reducible apply Qxa);(·exact Int.natCast_nonneg _);(·exact Int.ofNat_lt.2 (bgN a k y9))))
  | ((refine Qdp (m:=m) rfl rfl Tryz.underlying310 Tryz.underlying3 rfl rfl (Nat.lt_of_lt_of_le (bgN a k y9) o9) hL6.em hL6.mw ?_;intro es7 cl7 hM7;have hL7:LSt (exSet E6 m (.map es7 cl7)) m es7 cl7 (fun j=>if j=bg a k then true else vW B3 W3 a k j) N V (BA N):=LSt.put (E:=E6) hL6 hM7;clear hM7;generalize exSet E6 m (.map es7 cl7)=E7 at hL7⊢))
  | ((refine Qpe (⟨(k+1,E7,es7,cl7),Nat.succ_le_of_lt y9,hL7.same (hC2 (O:=O3) y9 y9).1.symm rfl⟩:{x:Nat×(Nat->Option Obj)×Array MapEntry×Nat // x.1<=lb (BA N a)/\LSt x.2.1 m x.2.2.1 x.2.2.2 (vW B3 W3 a x.1) N V (BA N)}) ?_ ?_ ?_ ?_ ?_);(·rfl);(·exact fun b o h=>h);(·exact Nat.lt_of_lt_of_eq (show lb (BA N a) - (k+1)<lb (BA N a) - k from by omega) (Eq.symm y9));(·exact pfp Qlb);(·(cbv;try rfl)))
  | ((refine Qpe (⟨(k+1,E6,es6,cl6),Nat.succ_le_of_lt y9,hL6.same (hC (O:=O3) y9 y9).2.symm rfl⟩:{x:Nat×(Nat->Option Obj)×Array MapEntry×Nat // x.1<=lb (BA N a)/\LSt x.2.1 m x.2.2.1 x.2.2.2 (vW B3 W3 a x.1) N V (BA N)}) ?_ ?_ ?_ ?_ ?_);(·rfl);(·exact fun b o h=>h);(·exact Nat.lt_of_lt_of_eq (show lb (BA N a) - (k+1)<lb (BA N a) - k from by omega) (Eq.symm y9));(·exact pfp Qlb);(·(cbv;try rfl)))
  | ((refine Qpe (⟨(E6,es6,cl6,vW B3 W3 a (lb (BA N a)),sO O3 B3 a,vB B3 W3 a (lb (BA N a))),hL6.same (congrArg (vW B3 W3 a) (Nat.le_antisymm hk y9)) rfl,(vE hI3 haW).1⟩:{x:(Nat->Option Obj)×Array MapEntry×Nat×(Nat->Bool)×(Nat->Nat->Bool)×(Nat->Nat->Bool) // LSt x.1 m x.2.1 x.2.2.1 x.2.2.2.1 N V (BA N)/\LiveG.Inv G x.2.2.2.2.1 x.2.2.2.2.2 x.2.2.2.1}) ?_ ?_ ?_ ?_ ?_);(·rfl);(·exact fun b o h=>h);(·(exact Nat.lt_of_lt_of_eq (vE hI3 haW).2 (Eq.symm y9)));(·exact pfp Qlb);(·(cbv;try rfl)))
  | fail)
end Go.Proofs.YtemnfncbgalljaaGreat
