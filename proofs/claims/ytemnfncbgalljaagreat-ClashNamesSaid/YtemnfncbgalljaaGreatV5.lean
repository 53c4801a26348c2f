/- Lemmas. No condition. -/
import Derived.Test.YtemnfncbgalljaaGreatV4
namespace Go.Proofs.YtemnfncbgalljaaGreat
open Go.RowKit Go.Shelf Go.Sort
set_option linter.all false
set_option maxRecDepth 100000
set_option maxHeartbeats 64000000
def tkB (L:List Int) (k l:Nat):Bool:=(L.take k).contains (Int.ofNat l)
theorem Q71 {L:List Int} {k:Nat} (hk:k<L.length) {x:Nat} (hx:L.getD k 0=Int.ofNat x):tkB L (k+1)=fun l=>tkB L k l||decide (l=x):=by
 funext l
 unfold tkB
 rw[List.take_add_one,List.contains_append]
 congr 1
 rw[List.getElem?_eq_getElem hk,Option.toList_some]
 rw[List.getD,List.getElem?_eq_getElem hk,Option.getD_some] at hx
 rw[hx]
 rw[Bool.eq_iff_iff]
 simp
 omega
theorem Qr6 {L:List Int} {k:Nat} (hk:L.length<=k):tkB L k=fun l=>L.contains (Int.ofNat l):=by
 funext l;unfold tkB;rw[List.take_of_length_le hk]
theorem Quj {p:Prop} (h:p:=by (first|((try with_reducible refine Q8c ?_ ?_ ?_ ?_);all_goals (cbv;(try simp only[true_and,and_true]);(try ((repeat' apply And.intro)<;>(first|trivial|rfl|exact RowLe.rfl' _|decide|(rw[Qda har _ o9];done)|((exact hbits k y9))|fail))));done)|fail)):Pf p:=⟨h⟩
theorem Qcw (F:GFun) (w:World) (hF:F.At w) (hO:F.Ok) (hD:F.Fd) (b i:Nat) (hbb:b<F.bn):
 Calls Tryz.prog 92 #[F.val,.agg #[.int .i64 (.ofNat b),.int .i64 (.ofNat i)]] w (Ret w (.tuple #[.int .u32 (.ofNat (mk (uB F b i) F.ln)),.int .i64 (sI F b i),.int .i64 0])):=by
 have h1 (hi:i<F.sn b) (wc:World) {c:R9z}:=Calls.to (c':=c) (Qbf _) rfl (Qn6 (F.s b i) (hO.okS hbb hi) ((hD b hbb).1 i hi) wc)
 have h2 (hi:i<F.sn b) (wc:World):=Qk6 (F.s b i) (hO.okS hbb hi) ((hD b hbb).1 i hi) wc
 have h3 wc (hk:KB ⟨w,[]⟩ wc):=Q94 F b wc (hF.later hk) (hO.okJ hbb) (hD b hbb).2
 have h4 wc (hk:KB ⟨w,[]⟩ wc):=Q84 F b wc (hF.later hk) (hO.okJ hbb) (hD b hbb).2
 have hs24:=hO.sn24 hbb
 have hln:=hO.ln16
 obtain ⟨L,hL⟩:=x9 (uL F b i)
 obtain ⟨z,hz⟩:=x9 (sI F b i)
 have hin:∀x∈L,0<=x/\x<F.ln:=fun x hx=>Q4aa hO hbb (by rw[<-hL];exact hx)
 have hl16:L.length<=16:=by rw[hL];exact Qe9 F b i
 obtain ⟨ln',hln'⟩:=x9 (F.ln:Nat)
 have hU:mk (uB F b i) F.ln=mk (tkB L L.length) ln':=by rw[hln',Qr6 (Nat.le_refl _),hL];rfl
 rw[hU,<-hz]
 obtain ⟨mS,hmS⟩:=x9 (fun k=>mk (tkB L k) ln':N9z)
 obtain ⟨n,hn⟩:=x9 (L.length)
 obtain ⟨tc,htc⟩:=x9 (fun j=>L.getD j 0:I9z)
 have hR:inR L=⟨n,1,fun j=>[.int .i64 (tc j)]⟩:=by rw[inR,hn,htc]
 have m0:(0:Int)=.ofNat (mS 0):=by
  rw[hmS]
  have:tkB L 0=fun _=>false:=by funext l;simp[tkB]
  show (0:Int)=Int.ofNat (mk (tkB L 0) ln')
  rw[this,<-Q6x];rfl
 have me:mk (tkB L L.length) ln'=mS n:=by rw[hmS,hn]
 have hin2:∀k,k<n->0<=tc k/\tc k<ln':=fun k hk=>by
  rw[hn] at hk
  rw[htc,hln']
  refine hin _ ?_
  simp only[List.getD,List.getElem?_eq_getElem hk,Option.getD_some]
  exact List.getElem_mem hk
 have m1:∀k,k<n->mS (k+1)=mk (fun l=>tkB L k l||decide (l=(tc k).toNat)) ln':=fun k hk=>by
  have q:=hin2 k hk
  rw[hmS]
  simp only
  rw[Q71 (x:=(tc k).toNat) o9 (by rw[htc] at q⊢;simp only[Int.ofNat_eq_natCast] at q⊢;omega)]
 have hn16:n<=16:=by omega
 have hln32:ln'<=16:=by omega
 rw[me]
 clear hU hin hl16 me hln' hO hD
 have hbits:∀{ar:A9z},ar=rAr->∀k,k<n->ar .or .u32 (.ofNat (mS k)) (ar .shl .u32 1 (tc k))=.ofNat (mS (k+1)):=fun {ar} har k hk=>by
  have q:=hin2 k hk
  have e:tc k=.ofNat (tc k).toNat:=by simp only[Int.ofNat_eq_natCast];omega
  have e2:ar .shl .u32 1 (tc k)=.ofNat (mk (fun l=>decide (l=(tc k).toNat)) ln'):=by
   rw[<-Qz2 (show (tc k).toNat<ln' by omega),<-Qyz har (show (tc k).toNat<32 by omega),<-e]
  rw[e2,m1 k hk,hmS]
  exact Q60 har (n:=ln') o9 _ _
 have hsh:∀k,k<n->0<=tc k/\tc k<(tc k).toNat+1:=fun k hk=>by have:=hin2 k hk;omega
 clear m1 hmS
 by_cases hi:i<F.sn b
 · have h1 (wc:World) {c:R9z}:=h1 hi wc (c:=c)
   have h2:=h2 hi
   have e1:stU (F.s b i)=L:=by rw[hL];unfold uL;rw[if_pos hi]
   have e2:stS (F.s b i)=z:=by rw[hz];unfold sI;rw[if_pos hi]
   rw[e1,hR] at h1
   rw[e2] at h2
   clear h3 h4 e1 e2 hL hz hR hn htc
   obtain ⟨pa,un,lA,ln,lc,lk,lt,bA,bn,bc,sA,sn,sc,s,jA,jn,jc,ja,jk,jo,jf,jx,je,jd⟩:=F
   obtain ⟨hX,hl,hb,hs,hj⟩:=hF
   simp only at hl hb hs hj
   simp only at h1 h2 hi hbb hs24
   refine Qaa (args:=[.pt (.agg (GFun.dat _)),.pt (.agg [.int .i64 (.ofNat b),.int .i64 (.ofNat i)])]) (c:=(Qwa _)) Tryz.func92 rfl hX rfl rfl ?_
   obtain ⟨_,_,_,hnt,ar,har,cm,hcm,_,_,_,_,ar01,ar12,_,hzpl,_,_,_,_,_,_,_,_,hT⟩:=Qca
   have hq:cm .lss (.ofNat i) (.ofNat (sn b))=true:=by rw[hcm];exact decide_eq_true (Int.ofNat_lt.2 hi)
   have hbits:=hbits har
   repeat' (first
    | refine goa ?_|refine go3 (fun hlt=>?_) (fun hge=>?_)|refine gof ?_
    | ((with_reducible apply Qoa (hf:=Tryz.call150));(·intro S;cbv;try rfl);(·intro wc S hbc hxc hrc;exact h1 wc);(·rfl))
    | (refine' Qiha Tryz.call151 ?_ ?_;rotate_left;(·intro wc hbc hxc;exact h2 wc))
    | (((with_reducible apply Qxa);(·exact (hsh k y9).1);(·exact (hsh k y9).2)))
    | ((with_reducible refine Qgha (σ:={k:Nat // k<=n}) (zs9 [15,1,68,8]) (fun x=>[zc9 67 x.1,(13,.pt (.one (.int .u32 (.ofNat (mS x.1)))))]) (fun x=>[]) (fun x=>[]) (fun x=>n - x.1) ⟨0,by omega⟩ ?_ ?_);(·exact pfp Quj);(rintro ⟨k,hk⟩ mm hmm))
    | ((with_reducible refine Qfha (⟨k+1,by omega⟩:{k:Nat // k<=n}) ?_ ?_);(·exact msr o9 y9);(·exact pfp Quj))
    | fail)
   all_goals (have haN:k=n:=by omega)
   all_goals (subst haN;rfl)
 · have e1:Qss (jmS F b) 16=L:=by rw[hL];unfold uL;rw[if_neg hi]
   have e2:(if F.jk b=4/\wholeP (F.jd b)=true then (F.jd b).l else -1)=z:=by rw[hz];unfold sI;rw[if_neg hi]
   rw[e2] at h4
   rw[e1,hR] at h3
   clear h1 h2 e1 e2 hL hz hR hn htc
   obtain ⟨pa,un,lA,ln,lc,lk,lt,bA,bn,bc,sA,sn,sc,s,jA,jn,jc,ja,jk,jo,jf,jx,je,jd⟩:=F
   obtain ⟨hX,hl,hb,hs,hj⟩:=hF
   simp only at hl hb hs hj
   simp only at h3 h4 hi hbb hs24
   refine Qaa (args:=[.pt (.agg (GFun.dat _)),.pt (.agg [.int .i64 (.ofNat b),.int .i64 (.ofNat i)])]) (c:=(Qwa _)) Tryz.func92 rfl hX rfl rfl ?_
   obtain ⟨_,_,_,hnt,ar,har,cm,hcm,_,_,_,_,ar01,ar12,_,hzpl,_,_,_,_,_,_,_,_,hT⟩:=Qca
   have hq:cm .lss (.ofNat i) (.ofNat (sn b))=false:=by rw[hcm];exact decide_eq_false (fun g=>hi (Int.ofNat_lt.1 g))
   have hbits:=hbits har
   repeat' (first
    | refine goa ?_|refine go3 (fun hlt=>?_) (fun hge=>?_)|refine gof ?_
    | ((with_reducible apply Qoa (hf:=Tryz.call152));(·intro S;cbv;try rfl);(·intro wc S hbc hxc hrc;exact h3 wc hbc);(·rfl))
    | (refine' Qiha Tryz.call153 ?_ ?_;rotate_left;(·intro wc hbc hxc;exact h4 wc hbc))
    | (((with_reducible apply Qxa);(·exact (hsh k y9).1);(·exact (hsh k y9).2)))
    | ((with_reducible refine Qgha (σ:={k:Nat // k<=n}) (zs9 [15,1,68,8]) (fun x=>[zc9 67 x.1,(13,.pt (.one (.int .u32 (.ofNat (mS x.1)))))]) (fun x=>[]) (fun x=>[]) (fun x=>n - x.1) ⟨0,by omega⟩ ?_ ?_);(·exact pfp Quj);(rintro ⟨k,hk⟩ mm hmm))
    | ((with_reducible refine Qfha (⟨k+1,by omega⟩:{k:Nat // k<=n}) ?_ ?_);(·exact msr o9 y9);(·exact pfp Quj))
    | fail)
   all_goals (have haN:k=n:=by omega)
   all_goals (subst haN;rfl)
section
open Go.RowKit Go.Maps
theorem Q7h (F:GFun) (w:World) (hF:F.At w) (hO:F.Ok):
 Calls Tryz.prog 67 #[F.val] w (RetR w (Qwa F) (.tup [.one (.rs 0),.one (.int .i64 0)]) [ptR (Qgb F.sn F.bn)]):=by
 have h:=Qty F w hF hO.small hO.chk
 have hR:ptR (Qgb F.sn F.bn)=⟨stN F.sn F.bn,2,fun j=>[.int .i64 (.ofNat ((Qgb F.sn F.bn).getD j (0,0)).1),.int .i64 (.ofNat ((Qgb F.sn F.bn).getD j (0,0)).2)]⟩:=by rw[ptR,Q6b]
 rw[hR];exact h
def ntR (L:List Nat):List Value:=L.map fun x=>Value.int .i64 (.ofNat x)
def ntC (L:List Nat) (j:Nat):List SC:=[.int .i64 (.ofNat (L.getD j 0))]
theorem Qnr {L:List Nat} {j:Nat} (hj:j<L.length):(ntR L)[j]? =some (.int .i64 (.ofNat (L.getD j 0))):=by
 unfold ntR
 simp only[List.getElem?_map,List.getD,List.getElem?_eq_getElem hj,Option.map_some,Option.getD_some]
theorem Q32 (c:R9z) (L:List Nat):Q3c c ⟨L.length,1,ntC L⟩ (ntR L):=fun j hj=>by
 have hj:j<L.length:=hj
 have hl:j<(ntR L).length:=by simp[ntR,hj]
 have e:((ntR L).drop (j * 1)).take 1=[.int .i64 (.ofNat (L.getD j 0))]:=by
  rw[Nat.mul_one,List.drop_eq_getElem_cons hl,List.take_succ_cons,List.take_zero]
  have:=Qnr hj
  rw[List.getElem?_eq_getElem hl] at this
  rw[Option.some.inj this]
 show isL _ (ntC L j) (((ntR L).drop (j * 1)).take 1)
 rw[e]
 exact ⟨rfl,trivial⟩
theorem Qe8 {c:R9z} {L:List Nat} {xs:List Value} (hl:xs.length=L.length * 1) (h:Q3c c ⟨L.length,1,ntC L⟩ xs):xs=ntR L:=by
 have h2:=Q32 c L
 apply List.ext_getElem?
 intro j
 by_cases hj:j<L.length
 · have g1:=h j hj
   have hj2:j<xs.length:=by omega
   have hl:j<(ntR L).length:=by simp[ntR,hj]
   have e:(xs.drop (j * 1)).take 1=[xs[j]]:=by
    rw[Nat.mul_one,List.drop_eq_getElem_cons hj2,List.take_succ_cons,List.take_zero]
   have g1:isL _ (ntC L j) ((xs.drop (j * 1)).take 1):=g1
   rw[e] at g1
   have g3:xs[j]=.int .i64 (.ofNat (L.getD j 0)):=g1.1
   rw[Qnr hj,List.getElem?_eq_getElem hj2,g3]
 · have:(ntR L).length=L.length:=by simp[ntR]
   rw[List.getElem?_eq_none o9,List.getElem?_eq_none o9]
theorem Qd8 {pl:Nat->Nat->Nat} {jn:Nat->(Nat->List SC)->(Nat->List SC)->Nat->List SC} (hpl:pl=fun x y=>x+y) (hjn:jn=rJn) {L:List Nat} {x:Nat} {g:Nat->List SC} (hg:Qbc (g 0) [.int .i64 (.ofNat x)]):RowLe ⟨pl L.length 1,1,jn L.length (ntC L) g⟩ ⟨(L++[x]).length,1,ntC (L++[x])⟩:=by
 refine Q7a hpl hjn (by rw[List.length_append];rfl) (fun j hj=>?_) ?_
 · show Qbc (ntC L j) (ntC (L++[x]) j)
   unfold ntC
   rw[show (L++[x]).getD j 0=L.getD j 0 by simp[List.getD,List.getElem?_append_left hj]]
   exact Qpa _
 · unfold ntC
   rw[show (L++[x]).getD L.length 0=x by simp[List.getD]]
   exact hg
structure LSt (E:O9z) (m:Nat) (es:Array MapEntry) (clock:Nat) (W:B9z) (N:Nat) (V:Nat->Value) (B:Nat->List Nat):Prop where
 em:E m=some (.map es clock)
 mw:MapW es clock W
 row:∀j,j<N->ExRow E 1 (V j) (B j).length (ntR (B j))
 ne:∀i j b,i<N->j<N->i≠j->(V i).ownBlock=some b->(V j).ownBlock≠some b
namespace LSt
variable {E:O9z} {m:Nat} {es:Array MapEntry} {clock:Nat} {W:B9z} {N:Nat} {V:Nat->Value} {B:Nat->List Nat}
theorem nm (h:LSt E m es clock W N V B) {j:Nat} (hj:j<N):(V j).ownBlock≠some m:=fun hb=>by
 obtain ⟨cur,ty,g⟩:=(h.row j hj).some hb
 rw[h.em] at g;cases g
theorem first (E:O9z) (m N:Nat):LSt (exSet E m (.map #[] 0)) m #[] 0 (fun _=>false) N (fun _=>.slice none 0 0) (fun _=>[]):=
 ⟨Qle _ _ _,Q2x,fun j _=>.nil _ _,fun i j b _ _ _ h=>by cases h⟩
theorem put (h:LSt E m es clock W N V B) {es':Array MapEntry} {clock':Nat} {W':B9z} (hM:MapW es' clock' W'):LSt (exSet E m (.map es' clock')) m es' clock' W' N V B:=
 ⟨Qle _ _ _,hM,fun j hj=>(h.row j hj).to fun b hb=>Q8e fun e=>h.nm hj (by rw[hb,e]),h.ne⟩
theorem beside (h:LSt E m es clock W N V B) {r:Nat} {o:Obj} (hr:E r=none\/∃a b c d,E r=some (.mapIter a b c d)):LSt (exSet E r o) m es clock W N V B:=by
 have hrm:m≠r:=fun e=>by
  subst e
  rcases hr with hr|⟨_,_,_,_,hr⟩<;>(rw[h.em] at hr;cases hr)
 refine ⟨(Q8e hrm).trans h.em,h.mw,fun j hj=>(h.row j hj).to fun b hb=>Q8e fun e=>?_,h.ne⟩
 subst e
 obtain ⟨cur,ty,g⟩:=(h.row j hj).some hb
 rcases hr with hr|⟨_,_,_,_,hr⟩<;>(rw[g] at hr;cases hr)
theorem same (h:LSt E m es clock W N V B) {W':B9z} {B':Nat->List Nat} (hW:W=W') (hB:B=B'):LSt E m es clock W' N V B':=by
 subst hW hB;exact h
theorem turn (h:LSt E m es clock W N V B) {n:Nat} (hn:n<N) {E1 E2:O9z} {v:Value} {L:List Nat}
 (t1:∀b,(V n).ownBlock≠some b->E1 b=E b) (t2:∀b,(V n).ownBlock=some b->E1 b=none)
 (g1:∀b,v.ownBlock≠some b->E2 b=E1 b) (g2:∀b,v.ownBlock=some b->E1 b=none) (hr:ExRow E2 1 v L.length (ntR L)):
 LSt E2 m es clock W N (fun j=>if j=n then v else V j) (fun j=>if j=n then L else B j):=by
 have key:∀b o,E b=some o->(V n).ownBlock≠some b->E2 b=some o:=fun b o hb hv=>by
  have e1:=(t1 b hv).trans hb
  rw[g1 b (fun hv2=>by rw[g2 b hv2] at e1;cases e1),e1]
 refine ⟨key m _ h.em (h.nm hn),h.mw,fun j hj=>?_,fun i j b hi hj hij hb=>?_⟩
 · by_cases g:j=n
   · subst g;simp only[if_true];exact hr
   · simp only[if_neg g]
     refine (h.row j hj).to fun b hb=>?_
     obtain ⟨cur,ty,e⟩:=(h.row j hj).some hb
     rw[e]
     exact key b _ e fun hv=>h.ne n j b hn hj (fun e=>g e.symm) hv hb
 · have hx:∀j,j<N->j≠n->∀b,(V j).ownBlock=some b->v.ownBlock≠some b:=fun j hj g b hb hv=>by
    obtain ⟨cur,ty,e⟩:=(h.row j hj).some hb
    have e1:=(t1 b (fun hv=>h.ne n j b hn hj (fun e=>g e.symm) hv hb)).trans e
    rw[g2 b hv] at e1;cases e1
   by_cases gi:i=n
   · subst gi
     simp only[if_true] at hb
     simp only[if_neg (fun e=>hij (Eq.symm e))]
     exact fun hc=>hx j hj (fun e=>hij e.symm) b hc hb
   · simp only[if_neg gi] at hb
     by_cases gj:j=n
     · subst gj;simp only[if_true];exact hx i hi gi b hb
     · simp only[if_neg gj];exact h.ne i j b hi hj hij hb
end LSt
end
end Go.Proofs.YtemnfncbgalljaaGreat
