/- Layer 19, literals: what a literal's constraints and points are. No condition. -/
import Derived.Test.YtaafofmfbcnaaaaGreatCnA
import Derived.Test.YtaafofmfbcnaaaaGreatSvD
import Derived.Test.YtaafofmfbcnaaaaGreatV6
namespace Go.Proofs.YtaafofmfbcnaaaaGreat
open Go.RowKit
set_option linter.unusedVariables false
set_option linter.unusedSimpArgs false
theorem allConBad' (F:GFun) (w:World) (hF:F.At w) (hz:fchkV F≠0):
 Calls Tryz.prog 30 #[F.val] w (Ret w (.tuple #[.slice none 0 0,.int .i64 (fchkV F)])):=by
 have h1 (wc:World) (hk:KB ⟨w,[]⟩ wc):=fnChk F wc (hF.later hk)
 generalize fchkV F=z at h1 hz⊢
 have hq:decide (z=0)=false:=decide_eq_false hz
 clear hz
 obtain ⟨pa,un,lA,ln,lc,lk,lt,bA,bn,bc,sA,sn,sc,s,jA,jn,jc,ja,jk,jo,jf,jx,je,jd⟩:=F
 obtain ⟨hX,hl,hb,hs,hj⟩:=hF
 simp only at hl hb hs hj
 refine go_start (args:=[.pt (.agg (GFun.dat _))]) (c:=(funX _)) Tryz.func30 rfl hX rfl rfl ?_
 obtain ⟨nd,hnd,nt,hnt,ar,har,cm,hcm,mx,hmx,mn,hmn,ar01,ar12,zpl,hzpl,zjn,hzjn,zup,hzup,zmi,hzmi,zdp,hzdp,hT⟩:=t0_all
 repeat' (first
  | refine go1 ?_|refine gobt ?_|refine gobn ?_|refine go3 (fun hlt=>?_) (fun hge=>?_)|refine go2 (fun h=>?_) (fun h=>?_)|exact go0|refine god ?_|refine gof ?_|refine gob ?_|(with_reducible refine fork_cons ?_ ?_)
  | ((with_reducible apply go_call (f:=63) (hf:=Tryz.call63));(·(cbv;try rfl));(·intro wc hbc hxc;exact h1 wc hbc))
  | ((with_reducible apply go_callq (f:=63) (hf:=Tryz.call63));(·(cbv;try rfl));(·intro wc hbc hxc;exact h1 wc hbc))
  | fail)
 all_goals rfl
def tabT (T:List (List Bool)) (i j:Nat):Bool:=(T.getD i []).getD j false
def ownOk (F:GFun) (K:Nat) (M:List Nat) (T:List (List Bool)):Bool:=liveOk F K M&&allN F.ln fun i=>allN (stN F.sn F.bn) fun j=>tabT T i j==(isRefK (F.lk i)&&(M.getD j 0).testBit i)
theorem own_lit {F:GFun} (hO:F.Ok) {K:Nat} {M:List Nat} {T:List (List Bool)} (h:ownOk F K M T=true) {i j:Nat} (hi:i<F.ln) (hj:j<stN F.sn F.bn):ownB F i j=tabT T i j:=by
 simp only[ownOk,Bool.and_eq_true] at h
 have h2:=allN_iff.1 (allN_iff.1 h.2 i hi) j hj
 simp only[beq_iff_eq] at h2
 rw[h2,←live_lit hO h.1 hj]
 unfold ownB liM
 rw[mk_bit,decide_eq_true hi,Bool.true_and]
section
variable {P:Program} {Q:Exit→Act→World→Prop} {c:Nat→Nat→Row} {w0:Base}
theorem go_callBX {α:Type} {f:Nat} {args:List SV} {dst:Option Nat} {k:List Item} {st:St} {vs:(Nat→Value)→(Nat→Nat)→List Value} {x:α→SV} {r:α→List ORow} {G:α→Nat→Nat→Row} (K:Nat) (hv:∀S B,toVsB S B c args=some (vs S B)) (hf:∀(args:Array Value) (w:World),(callFunc f args).run P w=.ok (.enter f args) w)
 (hC:∀(w:World) (S:Nat→Value) (B:Nat→Nat),KB w0 w→XOk ⟨[],c,[]⟩ ⟨w,[]⟩→MemIs c w S B st→Calls P f (vs S B).toArray w (RetX w x r G)) (hx:∀A,(x A).rsOk=true) (hxx:∀A,(x A).noX=true) (hk:noA k=true) (hn:st.qb K=true) (hr:qbR K st.r) (hc:∀q i j,q<K→j<(c q i).n→qbL K ((c q i).el j)=true)
 (hp:∀A,plainR (r A)) (hG:∀A p i j,j<(G A p i).n→plainL ((G A p i).el j)=true)
 (h:∀(A:α),Goes P Q (chiG c K (G A)) w0 k (({ st with r:=st.r++someR (r A) }:St).put dst ((x A).shR (lenM st.r)))):OutOk P Q c w0 (.call f args dst k st):=⟨fun e s a w hce F us hu=>by
 subst hce
 rw[toVsB_is rfl (S:=fun q=>(e.sg[q]?).getD undef) (B:=fun k=>(e.rho[k]?).getD 0) (fun q v hq=>by simp only[hq,Option.getD_some]) (fun k b hb=>by simp only[hb,Option.getD_some]) (hv _ _) hu]
 refine ⟨hf _ _,(hC w _ _ F.blw (F.ext.xok0 rfl) (F.mem rfl)).mono fun en w' ⟨A,v,g,he,hb,hg,hX,hA⟩=>⟨v,he,?_⟩⟩
 rw[KQ_chi hk]
 have F1:=F.adds hb (hg.to (c':=e.chi) (hp A))
 have hq1:∀l:List ORow,plainR l→qbR K (someR l):=by
  intro l
  induction l with
  | nil=>intro _;trivial
  | cons R l ih=>intro h;exact ⟨fun j hj=>plainL_qb (h.1 j hj),ih h.2⟩
 have hq2:∀l m:List (Option ORow),qbR K l→qbR K m→qbR K (l++m):=by
  intro l m
  induction l with
  | nil=>intro _ h;exact h
  | cons R l ih=>
    intro h h'
    cases R with
    | none=>exact ih h h'
    | some R=>exact ⟨h.1,ih h.2 h'⟩
 have F2:=F1.chi (K:=K) (c':=chiG e.chi K (G A)) (fun q i hl=>(chiG_lt hl).symm) hn (hq2 _ _ hr (hq1 _ (hp A))) hc (fun q i j hl hj=>by
  rw[chiG_ge hl] at hj⊢
  obtain ⟨b,p,f1,f2,f3,f4,vs,f5,f6⟩:=hA.ok _ _ j hj
  refine ⟨b,p,f1,f3,fun hm=>?_,fun k hk=>?_,fun q' hq=>?_,vs,plainL_is (hG A _ _ j hj) f5,f6⟩
  · obtain ⟨i,hi⟩:=List.mem_iff_getElem?.1 hm
    have:=F.hi i b (F.pre i b hi);omega
  · obtain ⟨cs,_,h4⟩:=hk
    have:=F.hi k b h4;omega
  · obtain ⟨R',v',h1,h2,h3⟩:=hq
    simp only[Env.adds] at h1 h2
    have hl:=F.rows.len
    by_cases hq':q'<st.r.length
    · rw[List.getElem?_append_left hq'] at h1
      rw[List.getElem?_append_left (by omega)] at h2
      have:=F.rows.hi q' b ⟨R',v',h1,h2,h3⟩
      omega
    · rw[List.getElem?_append_right (by omega)] at h2
      exact f4 v' (List.mem_of_getElem? h2) h3) (fun q i j b p hl hj ha=>by
  rw[chiG_ge hl] at hj ha
  obtain ⟨b',p',f1,f2,_⟩:=hA.ok _ _ j hj
  rw[ha] at f1;cases f1
  cases hx:w0.ex b with
  | none=>rfl
  | some ob=>have:=(Array.getElem?_eq_some_iff.1 (F.ext.ex b ob hx).2.2.1).1;omega)
 have hsh:=shV_is (e:=⟨e.rho,chiG e.chi K (G A),e.sg⟩) (hx A) (noXV_is (c':=chiG e.chi K (G A)) (hxx A) hX)
 have hl:e.sg.length=st.r.length:=F.rows.len
 simp only[hl] at hsh
 rw[←lenM_eq] at hsh
 exact (h A).run ⟨e.rho,chiG e.chi K (G A),e.sg++g⟩ s _ _ rfl (F2.put hsh)⟩
end
section
variable {Q:Exit→Act→World→Prop} {c:Nat→Nat→Row} {w0:Base}
theorem go_allLit (L:List KCon) {pa:Int} {un:Bool} {l b:SC} {dst:Option Nat} {k:List Item} {st:St} (hv:∀S B,toVsB S B c [.pt (.agg [.int .i64 pa,.lit un,l,b])]=some [(litF st.h B pa un l b).val]) (hok:litOk st.h l b=true) (hO:∀B,fchkV (litF st.h B pa un l b)=0) (hL:∀B,allCon (litF st.h B pa un l b)=L)
 (h:Goes Tryz.prog Q c w0 k (({ st with r:=st.r++someR [conR L] }:St).put dst ((SV.tup [.one (.rs 0),.one (.int .i64 0)]).shR (lenM st.r)))):OutOk Tryz.prog Q c w0 (.call 30 [.pt (.agg [.int .i64 pa,.lit un,l,b])] dst k st):=
 go_callB (vs:=fun S B=>[(litF st.h B pa un l b).val]) hv Tryz.call30 (fun w S B hk hx' hM=>allConLit hM pa un l b hok (hO B) L (hL B)) rfl h
theorem go_allNo (z:Int) {pa:Int} {un:Bool} {l b:SC} {dst:Option Nat} {k:List Item} {st:St} (hv:∀S B,toVsB S B c [.pt (.agg [.int .i64 pa,.lit un,l,b])]=some [(litF st.h B pa un l b).val]) (hok:litOk st.h l b=true) (hz:∀B,fchkV (litF st.h B pa un l b)=z) (hz0:z≠0) (h:Goes Tryz.prog Q c w0 k (st.put dst (ofR (.tuple #[.slice none 0 0,.int .i64 z])))):OutOk Tryz.prog Q c w0 (.call 30 [.pt (.agg [.int .i64 pa,.lit un,l,b])] dst k st):=
 go_callBv (vs:=fun S B=>[(litF st.h B pa un l b).val]) hv Tryz.call30 (fun w S B hk hx hM=>by
  have:=allConBad' (litF st.h B pa un l b) w (litF_at hM hok) (by rw[hz];exact hz0)
  rw[hz] at this;exact this) h
theorem go_clivesNo (z:Int) {pa:Int} {un:Bool} {l b:SC} {dst:Option Nat} {k:List Item} {st:St} (hv:∀S B,toVsB S B c [.pt (.agg [.int .i64 pa,.lit un,l,b])]=some [(litF st.h B pa un l b).val]) (hok:litOk st.h l b=true) (hz:∀B,fchkV (litF st.h B pa un l b)=z) (hz0:z≠0) (h:Goes Tryz.prog Q c w0 k (st.put dst (ofR (.tuple #[.slice none 0 0,.int .i64 z])))):OutOk Tryz.prog Q c w0 (.call 31 [.pt (.agg [.int .i64 pa,.lit un,l,b])] dst k st):=
 go_callBv (vs:=fun S B=>[(litF st.h B pa un l b).val]) hv Tryz.call31 (fun w S B hk hx hM=>by
  have:=clivesBad (litF st.h B pa un l b) w (litF_at hM hok) (by rw[hz];exact hz0)
  rw[hz] at this;exact this) h
theorem go_chkNo19 (z:Int) {pa:Int} {un:Bool} {l b:SC} {dst:Option Nat} {k:List Item} {st:St} (hv:∀S B,toVsB S B c [.pt (.agg [.int .i64 pa,.lit un,l,b])]=some [(litF st.h B pa un l b).val]) (hok:litOk st.h l b=true) (hz:∀B,fchkV (litF st.h B pa un l b)=z) (hn:∀B,(litF st.h B pa un l b).ln=0) (h:Goes Tryz.prog Q c w0 k (st.put dst (ofR (.int .i64 z)))):OutOk Tryz.prog Q c w0 (.call 32 [.pt (.agg [.int .i64 pa,.lit un,l,b])] dst k st):=
 go_callBv (vs:=fun S B=>[(litF st.h B pa un l b).val]) hv Tryz.call32 (fun w S B hk hx hM=>by
  have:=rFnChk (litF st.h B pa un l b) w (litF_at hM hok) (fun i hi=>by rw[hn] at hi;omega)
  rw[rchk_eq,hz] at this;exact this) h
theorem go_clivesLit (K:Nat) (n N R:Nat) (M:List Nat) (T:List (List Bool)) {pa:Int} {un:Bool} {l b:SC} {dst:Option Nat} {k:List Item} {st:St} (hv:∀S B,toVsB S B c [.pt (.agg [.int .i64 pa,.lit un,l,b])]=some [(litF st.h B pa un l b).val]) (hok:litOk st.h l b=true) (hO:∀B,fchkV (litF st.h B pa un l b)=0) (hD:∀B,fdB (litF st.h B pa un l b)=true)
 (hn:∀B,(litF st.h B pa un l b).ln=n) (hN:∀B,stN (litF st.h B pa un l b).sn (litF st.h B pa un l b).bn=N) (hm:∀B,ownOk (litF st.h B pa un l b) R M T=true) (hk:noA k=true) (hq:st.qb K=true) (hr:qbR K st.r) (hc:∀q i j,q<K→j<(c q i).n→qbL K ((c q i).el j)=true)
 (h:∀A:Nat→Option Addr×Nat,Goes Tryz.prog Q (chiG c K (rrG A (nnN n N) (tabT T))) w0 k (({ st with r:=st.r++someR [⟨n,1,fun j=>[.val (.slice (A j).1 N (A j).2)]⟩] }:St).put dst ((SV.tup [.one (.rs 0),.one (.int .i64 0)]).shR (lenM st.r)))):OutOk Tryz.prog Q c w0 (.call 31 [.pt (.agg [.int .i64 pa,.lit un,l,b])] dst k st):=
 go_callBX (α:=Nat→Option Addr×Nat) (x:=fun _=>.tup [.one (.rs 0),.one (.int .i64 0)]) (r:=fun A=>[⟨n,1,fun j=>[.val (.slice (A j).1 N (A j).2)]⟩]) (G:=fun A=>rrG A (nnN n N) (tabT T)) K (vs:=fun S B=>[(litF st.h B pa un l b).val]) hv Tryz.call31 (fun w S B hk hx' hM=>by
  have hOO:GFun.Ok (litF st.h B pa un l b):=hO B
  have:=clivesC _ w (litF_at hM hok) hOO (fdB_is (hD B))
  rw[hn,hN] at this
  refine this.mono fun en w' ⟨A,v,g,h1,h2,h3,h4,h5⟩=>⟨A,v,g,h1,h2,h3,h4,⟨fun q i j hj=>?_⟩⟩
  have h5:FamsAt w' w.heap.size g (rrG A (nnN n N) (ownB (litF st.h B pa un l b))):=h5
  have hj:j<(rrG A (nnN n N) (tabT T) q i).n:=hj
  have e:rrG A (nnN n N) (ownB (litF st.h B pa un l b)) q i=⟨(rrG A (nnN n N) (tabT T) q i).a,(rrG A (nnN n N) (tabT T) q i).n,(rrG A (nnN n N) (tabT T) q i).c,(rrG A (nnN n N) (tabT T) q i).size,(rrG A (nnN n N) (ownB (litF st.h B pa un l b)) q i).el⟩:=by
   unfold rrG;split<;>rfl
  have hx:=h5.ok q i j (by rw[e];exact hj)
  rw[e] at hx
  obtain ⟨b',p,f1,f2,f3,f4,vs,f5,f6⟩:=hx
  refine ⟨b',p,f1,f2,f3,f4,vs,?_,f6⟩
  show isL _ ((rrG A (nnN n N) (tabT T) q i).el j) vs
  unfold rrG at hj f5⊢
  by_cases hq:q=0
  · simp only[if_pos hq] at hj f5⊢
    by_cases hi:i<n
    · rw[nnN_lt hi] at hj
      rw[←own_lit hOO (hm B) (by rw[hn];exact hi) (by rw[hN];exact hj)]
      exact f5
    · rw[nnN,if_neg hi] at hj;exact absurd hj (Nat.not_lt_zero _)
  · rw[if_neg hq] at hj;exact absurd hj (Nat.not_lt_zero _)) (fun _=>rfl) (fun _=>rfl) hk hq hr hc (fun _=>⟨fun _ _=>rfl,trivial⟩) (fun A p i j hj=>rrG_plain p i j hj) h
theorem seenG {c:Nat→Nat→Row} {K n N:Nat} {A:Nat→Option Addr×Nat} {f:Nat→Nat→Bool} (j:Nat) (hj:j<n) (vs:List Value) (h:isL ⟨[],chiG c K (rrG A (nnN n N) f),[]⟩ [.val (.slice (A j).1 N (A j).2)] vs):isL ⟨[],chiG c K (rrG A (nnN n N) f),[]⟩ [.xs K j] vs:=by
 match vs,h with
 | [v],⟨h,_⟩=>
   refine ⟨?_,trivial⟩
   have h:v=.slice (A j).1 N (A j).2:=h
   show v=.slice (chiG c K (rrG A (nnN n N) f) K j).a (chiG c K (rrG A (nnN n N) f) K j).n (chiG c K (rrG A (nnN n N) f) K j).c
   rw[chiG_ge (Nat.le_refl _),Nat.sub_self]
   show v=.slice (A j).1 (nnN n N j) (A j).2
   rw[nnN_lt hj];exact h
end
end Go.Proofs.YtaafofmfbcnaaaaGreat
