/- Layer 11 of the program: which points are reached. No condition. -/
import Derived.Test.YtaafofmfbcnaaaaGreatGrF
namespace Go.Proofs.YtaafofmfbcnaaaaGreat
open Go.RowKit
set_option linter.unusedVariables false
set_option linter.unusedSimpArgs false
def visP (F:GFun) (S:Nat→Bool) (T:List Nat) (k:Nat):(Nat→Bool)×List Nat:=((leadsN F (T.getD 0 0)).take k).foldl visit (S,T.tail)
theorem visP_zero (F:GFun) (S:Nat→Bool) (T:List Nat):visP F S T 0=(S,T.tail):=by simp[visP]
theorem visP_succ {F:GFun} {S:Nat→Bool} {T:List Nat} {k:Nat} (hk:k<(leadsN F (T.getD 0 0)).length):visP F S T (k+1)=visit (visP F S T k) ((leadsN F (T.getD 0 0)).getD k 0):=by
 have key:∀(L:List Nat) (x:(Nat→Bool)×List Nat),k<L.length→(L.take (k+1)).foldl visit x=visit ((L.take k).foldl visit x) (L.getD k 0):=fun L x hk=>by
  rw[List.take_add_one,List.foldl_append]
  simp only[List.getElem?_eq_getElem hk,Option.toList_some,List.foldl_cons,List.foldl_nil,List.getD,Option.getD_some]
 exact key _ _ hk
theorem visP_end (F:GFun) (S:Nat→Bool) (b:Nat) (T:List Nat):visP F S (b::T) (leadsN F b).length=(leadsN F b).foldl visit (S,T):=by
 simp[visP]
theorem tail_getD (T:List Nat) (j:Nat):T.tail.getD j 0=T.getD (j+1) 0:=by
 cases T<;>simp[List.getD]
theorem unmet_nonneg_le (S:Nat→Bool) (m:Nat):unmet S m≤m:=unmet_le S m
theorem visP_size {F:GFun} {S:Nat→Bool} {b:Nat} {T:List Nat} (k:Nat) (hl:∀n∈leadsN F b,n<F.bn):unmet (visP F S (b::T) k).1 F.bn+(visP F S (b::T) k).2.length=unmet S F.bn+T.length:=by
 have:=visit_size F.bn ((leadsN F b).take k) (S,T) (fun n hn=>hl n (List.mem_of_mem_take hn))
 simpa [visP] using this
theorem leadsN_lt {F:GFun} (hO:F.Ok) {b:Nat} (hb:b<F.bn):∀n∈leadsN F b,n<F.bn:=fun n hn=>by
 obtain ⟨m,hm,rfl⟩:=List.mem_map.1 hn
 have:=hO.lead hb m hm
 omega
theorem intR_leads {F:GFun} (hO:F.Ok) {b:Nat} (hb:b<F.bn):intR (F.jump b).leads=⟨(leadsN F b).length,1,fun j=>[.int .i64 (.ofNat ((leadsN F b).getD j 0))]⟩:=by
 rw[intR,leadsN,List.length_map]
 congr 1
 funext j
 by_cases hj:j<(F.jump b).leads.length
 · have h2:=hO.lead hb _ (List.getElem_mem hj)
   have e:(F.jump b).leads[j]=Int.ofNat (F.jump b).leads[j].toNat:=by simp only[Int.ofNat_eq_natCast];omega
   simp only[List.getD,List.getElem?_map,List.getElem?_eq_getElem hj,Option.map_some,Option.getD_some]
   rw[←e]
 · simp only[List.getD,List.getElem?_map,List.getElem?_eq_none (show (F.jump b).leads.length≤j by omega),Option.map_none,Option.getD_none]
   rfl
theorem le_gt {t:Nat} {L:List Nat} (h:L.length=t):0<t→∃b T,L=b::T:=fun h0=>by
 cases L with
 | nil=>simp at h;omega
 | cons b T=>exact ⟨b,T,rfl⟩
noncomputable def reachR (F:GFun) (N:Nat):ORow:=⟨N,1,fun j=>[.bool (reachB F (pbN F j))]⟩
theorem wGrG_0 {p:Prop} (h:p:=by (first|(cbv;(try simp only[true_and,and_true]);(try ((repeat' apply And.intro)<;>(first|trivial|rfl|exact RowLe.rfl' _|decide|(rw[wrap_nat har _ (by omega)];done)|((exact rowLe_of rfl (fun j hj=>absurd hj (Nat.not_lt_zero _))))|((exact hle3 hQ ‹_› (by omega)))|((exact hle4 _ _))|((exact hle5))|((exact hle6))|((rw[wrap_nat har _ (by have:=dnb (gt_ T 0);have h9:k<dn (gt_ T 0):=hlt;omega)]))|((exact hle7 hk hge))|((exact hle8 hk hge))|((exact hle9 hlt ‹_›))|((exact hle10 hlt ‹_›))|((exact hle11 hlt ‹_›))|((exact hle12 hlt ‹_›))|fail)));done)|fail)):Pf p:=⟨h⟩
set_option maxRecDepth 100000 in
set_option maxHeartbeats 8000000 in
theorem reachedC (F:GFun) (w:World) (hF:F.At w) (hO:F.Ok):
 Calls Tryz.prog 21 #[F.val] w (RetR w (funX F) (.tup [.one (.rs 0),.one (.int .i64 0)]) [reachR F (stN F.sn F.bn)]):=by
 have h1 (wc:World) (hk:KB ⟨w,[]⟩ wc):=hO.chk wc (hF.later hk)
 have h2 (wc:World) (hk:KB ⟨w,[]⟩ wc):=allC F wc (hF.later hk) hO.small.s hO.small.b
 have h30 (wc:World) (hk:KB ⟨w,[]⟩ wc) (b:Nat) (hb:b<F.bn):=targetsC F wc (hF.later hk) b (hO.okJ hb)
 have hN9:=hO.pts
 have hbp:=hO.bpos
 have hb24:=hO.bn24
 have hpb0:∀j,j<stN F.sn F.bn→pbN F j<F.bn:=fun j hj=>(num_pt hj).1
 obtain ⟨ln_,hln⟩:∃f:List Nat→Nat,f=List.length:=⟨_,rfl⟩
 obtain ⟨gt_,hgt⟩:∃f:List Nat→Nat→Nat,f=fun L j=>L.getD j 0:=⟨_,rfl⟩
 obtain ⟨V1,hV1⟩:∃f:(Nat→Bool)→List Nat→Nat→Nat→Bool,f=fun S T k=>(visP F S T k).1:=⟨_,rfl⟩
 obtain ⟨V2,hV2⟩:∃f:(Nat→Bool)→List Nat→Nat→List Nat,f=fun S T k=>(visP F S T k).2:=⟨_,rfl⟩
 obtain ⟨dn,hdn⟩:∃f:Nat→Nat,f=fun b=>(leadsN F b).length:=⟨_,rfl⟩
 obtain ⟨ld,hld⟩:∃f:Nat→Nat→Nat,f=fun b j=>(leadsN F b).getD j 0:=⟨_,rfl⟩
 obtain ⟨Q,hQ⟩:∃f:(Nat→Bool)→List Nat→Prop,f=RInv F:=⟨_,rfl⟩
 obtain ⟨me,hme⟩:∃f:(Nat→Bool)→List Nat→Nat,f=fun S T=>unmet S F.bn+T.length:=⟨_,rfl⟩
 obtain ⟨rb,hrb⟩:∃f:Nat→Bool,f=reachB F:=⟨_,rfl⟩
 obtain ⟨N,hN⟩:∃N,N=stN F.sn F.bn:=⟨_,rfl⟩
 obtain ⟨pb,hpb⟩:∃f:Nat→Nat,f=pbN F:=⟨_,rfl⟩
 obtain ⟨pi,hpi⟩:∃f:Nat→Nat,f=piN F:=⟨_,rfl⟩
 obtain ⟨bm,hbm⟩:∃n,n=F.bn:=⟨_,rfl⟩
 have h3 (wc:World) (hk:KB ⟨w,[]⟩ wc) (b:Nat) (hb:b<bm):Calls Tryz.prog 74 #[jmpV F b] wc (RetR wc (funX F) (.tup [.one (.rs 0),.one (.int .i64 0)]) [⟨dn b,1,fun j=>[.int .i64 (.ofNat (ld b j))]⟩]):=by
  have:=h30 wc hk b (hbm▸hb)
  rw[intR_leads hO (hbm▸hb)] at this
  rw[hdn,hld];exact this
 have hR:ptR (allPts F.sn F.bn)=⟨N,2,fun j=>[.int .i64 (.ofNat (pb j)),.int .i64 (.ofNat (pi j))]⟩:=by rw[ptR,allPts_len,hN,hpb,hpi];rfl
 rw[hR] at h2
 have hR2:reachR F (stN F.sn F.bn)=⟨N,1,fun j=>[.bool (rb (pb j))]⟩:=by rw[reachR,hN,hpb,hrb]
 rw[hR2]
 have qh:∀{S T},Q S T→0<ln_ T→gt_ T 0<bm:=fun {S T} h h0=>by
  rw[hQ] at h;rw[hln] at h0
  obtain ⟨b,T,rfl⟩:=le_gt rfl h0
  rw[hgt,hbm];exact (h.r b (h.t b List.mem_cons_self)).2
 have q0:Q (fun j=>decide (j=0)) [0]:=by rw[hQ];exact rinv_first F hbp
 have qs:∀{S T},Q S T→0<ln_ T→Q (V1 S T (dn (gt_ T 0))) (V2 S T (dn (gt_ T 0)))∧me (V1 S T (dn (gt_ T 0))) (V2 S T (dn (gt_ T 0)))<me S T:=fun {S T} h h0=>by
  rw[hQ] at h⊢;rw[hln] at h0
  obtain ⟨b,T,rfl⟩:=le_gt rfl h0
  have hb:=(h.r b (h.t b List.mem_cons_self)).2
  have hl:=leadsN_lt hO hb
  have e:gt_ (b::T) 0=b:=by rw[hgt];rfl
  have hs:=visP_size (S:=S) (T:=T) (dn b) hl
  rw[e,hme]
  rw[hdn] at hs⊢
  rw[hV1,hV2]
  simp only at hs⊢
  refine ⟨?_,by rw[hs];simp only[List.length_cons];omega⟩
  rw[visP_end]
  exact rinv_step h hl
 have ql:∀{S T},Q S T→0<ln_ T→∀k,ln_ (V2 S T k)≤24:=fun {S T} h h0 k=>by
  rw[hQ] at h;rw[hln] at h0
  obtain ⟨b,T,rfl⟩:=le_gt rfl h0
  have hb:=(h.r b (h.t b List.mem_cons_self)).2
  have hs:=visP_size (S:=S) (T:=T) k (leadsN_lt hO hb)
  have hm:=h.m
  rw[hln,hV2]
  simp only[List.length_cons] at hm hs⊢
  omega
 have qe:∀{S T},Q S T→ln_ T=0→∀j,S j=rb j:=fun {S T} h h0 j=>by
  rw[hQ] at h;rw[hln] at h0
  obtain rfl:T=[]:=List.eq_nil_of_length_eq_zero h0
  rw[hrb];exact rinv_eq h j
 have v0:∀{S T},V1 S T 0=S∧ln_ (V2 S T 0)=ln_ T - 1∧∀j,gt_ (V2 S T 0) j=gt_ T (j+1):=fun {S T}=>by
  rw[hV1,hV2,hln,hgt];simp only[visP_zero]
  exact ⟨trivial,List.length_tail,fun j=>tail_getD T j⟩
 have vt:∀{S T k},k<dn (gt_ T 0)→V1 S T k (ld (gt_ T 0) k)=true→V1 S T (k+1)=V1 S T k∧V2 S T (k+1)=V2 S T k:=fun {S T k} hk h=>by
  rw[hdn,hgt] at hk;rw[hV1,hld,hgt] at h;rw[hV1,hV2]
  simp only at h⊢
  rw[visP_succ hk]
  unfold visit
  rw[if_pos h]
  exact ⟨rfl,rfl⟩
 have vf:∀{S T k},k<dn (gt_ T 0)→V1 S T k (ld (gt_ T 0) k)=false→(∀j,V1 S T (k+1) j=if j=ld (gt_ T 0) k then true else V1 S T k j)∧ln_ (V2 S T (k+1))=ln_ (V2 S T k)+1∧(∀j,j<ln_ (V2 S T k)→gt_ (V2 S T (k+1)) j=gt_ (V2 S T k) j)∧gt_ (V2 S T (k+1)) (ln_ (V2 S T k))=ld (gt_ T 0) k:=fun {S T k} hk h=>by
  rw[hdn,hgt] at hk;rw[hV1,hld,hgt] at h;rw[hV1,hV2,hld,hln,hgt]
  simp only at h⊢
  rw[visP_succ hk]
  have e:∀x n,x.1 n=false→visit x n=(fun j=>if j=n then true else x.1 j,x.2++[n]):=fun x n h=>by unfold visit;rw[if_neg (by simp[h])]
  rw[e _ _ h]
  refine ⟨fun j=>rfl,by simp,fun j hj=>?_,?_⟩
  · simp only[List.getD,List.getElem?_append_left hj]
  · simp[List.getD]
 have ldb:∀{b k},b<bm→k<dn b→ld b k<bm:=fun {b k} hb hk=>by
  rw[hdn] at hk;rw[hbm] at hb⊢;rw[hld]
  simp only[List.getD,List.getElem?_eq_getElem hk,Option.getD_some]
  exact leadsN_lt hO hb _ (List.getElem_mem hk)
 have dnb:∀b,dn b≤2:=fun b=>by
  rw[hdn];simp only[leadsN,List.length_map]
  unfold GJump.leads
  split
  · simp
  · split<;>simp
 have l0:ln_ [0]=1:=by rw[hln];rfl
 have g0:gt_ [0] 0=0:=by rw[hgt];rfl
 rw[←hN] at hN9 hpb0
 rw[←hpb] at hpb0
 rw[←hbm] at hpb0 hbp hb24
 clear hR hR2 hN hpb hpi hrb hme hQ hld hdn hV1 hV2 hgt hln h30 hO
 obtain ⟨pa,un,lA,ln,lc,lk,lt,bA,bn,bc,sA,sn,sc,s,jA,jn,jc,ja,jk,jo,jf,jx,je,jd⟩:=F
 obtain ⟨hX,hl,hb,hs,hj⟩:=hF
 simp only at hl hb hs hj
 simp only at h1 h2 h3 hbm
 have hbm:=hbm.symm
 subst hbm
 refine go_start (args:=[.pt (.agg (GFun.dat ⟨pa,un,lA,ln,lc,lk,lt,bA,bn,bc,sA,sn,sc,s,jA,jn,jc,ja,jk,jo,jf,jx,je,jd⟩))]) (c:=(funX ⟨pa,un,lA,ln,lc,lk,lt,bA,bn,bc,sA,sn,sc,s,jA,jn,jc,ja,jk,jo,jf,jx,je,jd⟩)) Tryz.func21 rfl hX rfl rfl ?_
 obtain ⟨nd,hnd,nt,hnt,ar,har,cm,hcm,mx,hmx,mn,hmn,ar01,ar12,zpl,hzpl,zjn,hzjn,zup,hzup,zmi,hzmi,zdp,hzdp,hT⟩:=t0_all
 have hmk:(bn:Int)≤1073741824:=by omega
 have hle1:RowLe ⟨bn,1,zup (fun x=>[SC.lit false]) 0 0 [SC.lit true]⟩ ⟨bn,1,fun j=>[SC.bool (decide (j=0))]⟩:=by
  refine rowLe_up hzup rfl (fun j hj h=>⟨?_,trivial⟩) (fun _=>⟨?_,trivial⟩)
  · rw[decide_eq_false h];show false=false;rfl
  · exact rfl
 have hle2:RowLe ⟨1,1,fun j=>cutL [SC.int IntKind.i64 0] (j * 1) 1⟩ ⟨ln_ [0],1,fun j=>[SC.int IntKind.i64 (Int.ofNat (gt_ [0] j))]⟩:=by
  refine rowLe_of l0.symm (fun j hj=>?_)
  have hj2:j=0:=by omega
  subst hj2
  rw[g0]
  exact ⟨⟨rfl,rfl⟩,trivial⟩
 have hpos:∀{T},cm .gtr (.ofNat (ln_ T)) 0=true→0<ln_ T:=fun {T} h=>by
  rw[hcm] at h;exact Int.ofNat_lt.1 (of_decide_eq_true h)
 have hzer:∀{T},cm .gtr (.ofNat (ln_ T)) 0=false→ln_ T=0:=fun {T} h=>by
  rw[hcm] at h
  have h2:¬(0<ln_ T):=fun g=>of_decide_eq_false h (Int.ofNat_lt.2 g)
  omega
 have hle3:∀{S T a},Q S T→cm .gtr (.ofNat (ln_ T)) 0=false→a=N→RowLe ⟨a,1,fun j=>[SC.bool (S (pb j))]⟩ ⟨N,1,fun j=>[SC.bool (rb (pb j))]⟩:=fun {S T a} h hz e=>by
  refine rowLe_of e (fun j hj=>?_)
  rw[qe h (hzer hz)]
  exact ⟨rfl,trivial⟩
 have hle4:∀(S:Nat→Bool) (a:Nat),RowLe ⟨zpl a 1,1,zjn a (fun j=>[SC.bool (S (pb j))]) (fun j=>cutL [SC.bool (S (pb a))] (0+j * 1) 1)⟩ ⟨a+1,1,fun j=>[SC.bool (S (pb j))]⟩:=fun S a=>
  rowLe_snoc hzpl hzjn rfl (fun j hj=>⟨rfl,trivial⟩) ⟨rfl,trivial⟩
 have hle5:∀{S T},RowLe ⟨zmi (ln_ T) 1,1,zdp 1 (fun j=>[SC.int .i64 (.ofNat (gt_ T j))])⟩ ⟨ln_ (V2 S T 0),1,fun j=>[SC.int .i64 (.ofNat (gt_ (V2 S T 0) j))]⟩:=fun {S T}=>
  rowLe_dp hzmi hzdp v0.2.1 (fun j hj=>by rw[v0.2.2];exact ⟨⟨rfl,rfl⟩,trivial⟩)
 have hle6:∀{S T},RowLe ⟨bn,1,fun j=>[SC.bool (S j)]⟩ ⟨bn,1,fun j=>[SC.bool (V1 S T 0 j)]⟩:=fun {S T}=>
  rowLe_of rfl (fun j hj=>by rw[v0.1];exact ⟨rfl,trivial⟩)
 have hle7:∀{S T k},k≤dn (gt_ T 0)→dn (gt_ T 0)≤k→RowLe ⟨bn,1,fun j=>[SC.bool (V1 S T k j)]⟩ ⟨bn,1,fun j=>[SC.bool (V1 S T (dn (gt_ T 0)) j)]⟩:=fun {S T k} h1 h2=>by
  rw[Nat.le_antisymm h1 h2];exact RowLe.rfl' _
 have hle8:∀{S T k},k≤dn (gt_ T 0)→dn (gt_ T 0)≤k→RowLe ⟨ln_ (V2 S T k),1,fun j=>[SC.int .i64 (.ofNat (gt_ (V2 S T k) j))]⟩ ⟨ln_ (V2 S T (dn (gt_ T 0))),1,fun j=>[SC.int .i64 (.ofNat (gt_ (V2 S T (dn (gt_ T 0))) j))]⟩:=fun {S T k} h1 h2=>by
  rw[Nat.le_antisymm h1 h2];exact RowLe.rfl' _
 have hle9:∀{S T k},k<dn (gt_ T 0)→V1 S T k (ld (gt_ T 0) k)=true→RowLe ⟨bn,1,fun j=>[SC.bool (V1 S T k j)]⟩ ⟨bn,1,fun j=>[SC.bool (V1 S T (k+1) j)]⟩:=fun {S T k} h1 h2=>by
  rw[(vt h1 h2).1];exact RowLe.rfl' _
 have hle10:∀{S T k},k<dn (gt_ T 0)→V1 S T k (ld (gt_ T 0) k)=true→RowLe ⟨ln_ (V2 S T k),1,fun j=>[SC.int .i64 (.ofNat (gt_ (V2 S T k) j))]⟩ ⟨ln_ (V2 S T (k+1)),1,fun j=>[SC.int .i64 (.ofNat (gt_ (V2 S T (k+1)) j))]⟩:=fun {S T k} h1 h2=>by
  rw[(vt h1 h2).2];exact RowLe.rfl' _
 have hle11:∀{S T k},k<dn (gt_ T 0)→V1 S T k (ld (gt_ T 0) k)=false→RowLe ⟨bn,1,zup (fun j=>[SC.bool (V1 S T k j)]) (ld (gt_ T 0) k) 0 [SC.lit true]⟩ ⟨bn,1,fun j=>[SC.bool (V1 S T (k+1) j)]⟩:=fun {S T k} h1 h2=>by
  refine rowLe_up hzup rfl (fun j hj h=>⟨?_,trivial⟩) (fun _=>⟨?_,trivial⟩)
  · rw[(vf h1 h2).1,if_neg h];exact rfl
  · rw[(vf h1 h2).1,if_pos rfl];show true=true;rfl
 have hle12:∀{S T k},k<dn (gt_ T 0)→V1 S T k (ld (gt_ T 0) k)=false→RowLe ⟨zpl (ln_ (V2 S T k)) 1,1,zjn (ln_ (V2 S T k)) (fun j=>[SC.int .i64 (.ofNat (gt_ (V2 S T k) j))]) (fun j=>cutL [SC.int .i64 (.ofNat (ld (gt_ T 0) k))] (0+j * 1) 1)⟩ ⟨ln_ (V2 S T (k+1)),1,fun j=>[SC.int .i64 (.ofNat (gt_ (V2 S T (k+1)) j))]⟩:=fun {S T k} h1 h2=>by
  have q:=vf h1 h2
  refine rowLe_snoc hzpl hzjn q.2.1 (fun j hj=>⟨⟨rfl,?_⟩,trivial⟩) ⟨⟨rfl,?_⟩,trivial⟩
  · rw[q.2.2.1 j hj]
  · rw[q.2.2.2]
 repeat' (first
  | refine go1 ?_|refine gobn ?_|refine go3 (fun hlt=>?_) (fun hge=>?_)|refine go2 (fun h=>?_) (fun h=>?_)|refine gof ?_
  | ((with_reducible apply go_ret_rowsP hT);(·(cbv;try rfl));(·(cbv;try rfl));(·exact wGrG_0);(·exact wGrG_0);(·rfl))
  | ((with_reducible refine go_ob ?_ ?_);(·first|trivial|(refine ⟨trivial,?_⟩;omega)|(rw[hzpl];refine ⟨trivial,?_⟩;show _+_≤1073741824;omega)|(rw[hzpl];show _+_≤1073741824;omega)|((exact ⟨Int.natCast_nonneg bn,hmk⟩))|((exact hpos ‹_›))|((rw[hzpl];exact Nat.le_trans (Nat.add_le_add_right (ql hQ (hpos ‹_›) k) 1) (Nat.le_of_ble_eq_true rfl)))))
  | ((with_reducible apply go_call (f:=63) (hf:=Tryz.call63));(·(cbv;try rfl));(·intro wc hbc hxc;exact h1 wc hbc))
  | ((with_reducible apply go_callR (f:=64) (hf:=Tryz.call64));(·intro S;cbv;try rfl);(·intro wc S hbc hxc hrc;exact h2 wc hbc);(·rfl))
  | ((with_reducible apply go_callR (f:=74) (hf:=Tryz.call74));(·intro S;cbv;try rfl);(·intro wc S hbc hxc hrc;exact h3 wc hbc _ (qh hQ (hpos ‹_›)));(·rfl))
  | ((with_reducible apply go_row 6 1);(·(cbv;try rfl)))
  | ((with_reducible apply go_row 12 1);(·(cbv;try rfl)))
  | ((with_reducible refine go_loopk (σ:={x:(Nat→Bool)×List Nat // Q x.1 x.2}) [7,8,9,11,27,28,29,30,31,32,33,34,35,36,37,38,39,40,41,42,43,44,45,46,47,48,49,50,51,52,53,54,55,56,57,58,59,60,61,62,63] (fun x=>[]) (fun x=>[]) (fun x=>[(0,⟨bn,1,fun j=>[.bool (x.1.1 j)]⟩),(1,⟨ln_ x.1.2,1,fun j=>[.int .i64 (.ofNat (gt_ x.1.2 j))]⟩)]) (fun x=>me x.1.1 x.1.2) ⟨(fun j=>decide (j=0),[0]),q0⟩ ?_ ?_ ?_ ?_);(·exact le_mkP wGrG_0 wGrG_0 wGrG_0 wGrG_0);(·(cbv;try rfl));(·simp);(rintro ⟨⟨S,T⟩,hQ⟩ mm hmm))
  | ((with_reducible refine go_loopk (σ:={k:Nat // k≤dn (gt_ T 0)}) [11,34,48,49,50,51,52,53,54,55,56,57,58,59,60,61,62,63] (fun x=>[(47,.pt (.one (.int .i64 (.ofNat x.1))))]) (fun x=>[]) (fun x=>[(0,⟨bn,1,fun j=>[.bool (V1 S T x.1 j)]⟩),(1,⟨ln_ (V2 S T x.1),1,fun j=>[.int .i64 (.ofNat (gt_ (V2 S T x.1) j))]⟩)]) (fun x=>dn (gt_ T 0) - x.1) ⟨0,by omega⟩ ?_ ?_ ?_ ?_);(·exact le_mkP wGrG_0 wGrG_0 wGrG_0 wGrG_0);(·(cbv;try rfl));(·simp);(rintro ⟨k,hk⟩ mm hmm))
  | ((with_reducible refine go_loopk (σ:={a:Nat // a≤N}) [14,68,69,70,71,72,73,74,75,76,77,78,79] (fun x=>[(67,.pt (.one (.int .i64 (.ofNat x.1))))]) (fun x=>[]) (fun x=>[(3,⟨x.1,1,fun j=>[.bool (S (pb j))]⟩)]) (fun x=>N - x.1) ⟨0,by omega⟩ ?_ ?_ ?_ ?_);(·exact le_mkP wGrG_0 wGrG_0 wGrG_0 wGrG_0);(·(cbv;try rfl));(·simp);(rintro ⟨a,ha⟩ mm hmm))
  | (((with_reducible apply go_need);(·exact Int.le_refl 0);(·exact Int.natCast_pos.2 (hpos ‹_›))))
  | (((with_reducible apply go_need);(·exact Int.natCast_nonneg _);(·exact Int.ofNat_lt.2 (qh hQ (hpos ‹_›)))))
  | (((with_reducible apply go_need);(·exact Int.natCast_nonneg _);(·exact Int.ofNat_lt.2 (hpb0 _ hlt))))
  | (((with_reducible apply go_need);(·exact Int.natCast_nonneg _);(·exact Int.ofNat_lt.2 (ldb (qh hQ (hpos ‹_›)) hlt))))
  | ((with_reducible refine go_stop (⟨a+1,by omega⟩:{a:Nat // a≤N}) ?_ ?_ ?_ ?_);(·exact Nat.lt_of_lt_of_eq (show N - (a+1)<N - a from by omega) (Eq.symm ‹_›));(·exact le_mkP wGrG_0 wGrG_0 wGrG_0 wGrG_0);(·(cbv;try rfl));(·simp))
  | (((with_reducible apply go_need);(·exact Int.natCast_nonneg _);(·exact Int.ofNat_lt.2 hlt)))
  | ((with_reducible refine go_stop (⟨(V1 S T (dn (gt_ T 0)),V2 S T (dn (gt_ T 0))),(qs hQ (hpos ‹_›)).1⟩:{x:(Nat→Bool)×List Nat // Q x.1 x.2}) ?_ ?_ ?_ ?_);(·(exact Nat.lt_of_lt_of_eq (qs hQ (hpos ‹_›)).2 (Eq.symm ‹_›)));(·exact le_mkP wGrG_0 wGrG_0 wGrG_0 wGrG_0);(·(cbv;try rfl));(·simp))
  | ((with_reducible refine go_stop (⟨k+1,Nat.succ_le_of_lt hlt⟩:{k:Nat // k≤dn (gt_ T 0)}) ?_ ?_ ?_ ?_);(·subst hmm;(have hlt2:k<dn (gt_ T 0):=hlt;show dn (gt_ T 0) - (k+1)<dn (gt_ T 0) - k;omega));(·exact le_mkP wGrG_0 wGrG_0 wGrG_0 wGrG_0);(·(cbv;try rfl));(·simp))
  | fail)
 all_goals trace_state
end Go.Proofs.YtaafofmfbcnaaaaGreat
