/- Lemmas. No condition. -/
import Derived.Test.YtemnfncbgalljaaGreatClQ
import Derived.Test.YtemnfncbgalljaaGreatK6
namespace Go.Proofs.YtemnfncbgalljaaGreat
open Go.RowKit
set_option linter.all false
section
variable {P:Program} {ops:Array Oper} {Q:E9z} {md:Region.Mode} {S:World->Prop}
theorem Oper.wp_frame {o:Oper} {a:Act} {w:World} {K:Act->World->Prop} {R:E9z} {Pr:Act->Prop} (hput:∀u,Pr (a.put o.dst u)) (hdef:∀d u,Pr (({ a with defers:=d::a.defers }:Act).put o.dst u)) (hh:o.wp P a w K R):o.wp P a w (fun a' w'=>Pr a'/\K a' w') R:=by
 unfold Oper.wp at *
 generalize (execOp a.eval o).run P w=r at *
 cases r with
 | ok n w'=>
   cases n<;>simp only[Oper.upon] at hh⊢
   all_goals first
    | exact hh
    | exact ⟨hput _,hh⟩
    | exact ⟨hdef _ _,hh⟩
    | exact Calls.mono hh (fun e w'' he=>by cases e<;>first|exact ⟨hput _,he⟩|exact he)
    | exact Rows.mono hh fun u w'' he=>⟨hput _,he⟩
 | halt x w'=>cases x<;>simp only[Oper.upon] at hh⊢<;>exact hh
theorem Qlv {j:Nat} {oj:Oper} (hj:ops[j]? =some oj) {a:Act} {w:World} {K:Act->World->Prop} {Pr:Act->Prop} (hput:∀u,Pr (a.put oj.dst u)) (hdef:∀d u,Pr (({ a with defers:=d::a.defers }:Act).put oj.dst u)) (h:wpOp P ops Q j K a w):wpOp P ops Q j (fun a' w'=>Pr a'/\K a' w') a w:=by
 unfold wpOp at *
 simp only[hj] at *
 split
 · rename_i hw
   simp only[hw,if_true] at h
   exact h.imp (Oper.wp_frame hput hdef) id
 · rename_i hw
   rw[if_neg (by simpa using hw)] at h
   exact ⟨hput _,h⟩
theorem CallIf.wpOp {i:Nat} {o:Oper} {v:Value} {a:Act} (hi:ops[i]? =some o) (hc:CallIf P ops S o v a) {K:Act->World->Prop} {w:World} (hS:S w) (h:∀w'',Below w.heap.size w w''->S w''->K (a.put o.dst v) w''):wpOp P ops Q i K a w:=by
 obtain ⟨hw,f,args,hr⟩:=hc
 unfold Go.wpOp
 simp only[hi,hw,if_true]
 refine .inl ?_
 unfold Oper.wp
 rw[(hr w hS).1,Oper.upon_enter]
 exact (hr w hS).2.mono fun e w'' ⟨he,hb,hs⟩=>by subst he;exact h w'' hb hs
theorem Q91 {i:Nat} {oi:Oper} {v:Value} (hi:ops[i]? =some oi) (hsel:∀(j:Nat) (o:Oper) cs b,ops[j]? =some o->o.op≠.select cs b)
 (hQ:∀c a w,Q (.panic c) (a.put oi.dst v) w->Q (.panic c) a w) (hcl:∀w w',S w->Below w.heap.size w w'->S w'):
 ∀(fuel:Nat) (listed:Array Bool) (a:Act) (w:World),
  (∀j oj,ops[j]? =some oj->j≠i->listed.getD j true=false->(∀e∈oj.after,Region.binds md e=true->e.on≠i)->oi.apart ops oj=true)->
  i∈Region.ready md ops listed->CallIf P ops S oi v a->S w->
  wpL P md ops Q S fuel (listed.setIfInBounds i true) (a.put oi.dst v) w->wpL P md ops Q S (fuel+1) listed a w:=by
 intro fuel
 induction fuel with
 | zero=>
   intro listed a w _ hr hy hS H w' hb
   refine ⟨fun h=>(by rw[h] at hr;cases hr),fun j hj=>?_⟩
   by_cases hji:j=i
   · subst hji
     exact hy.wpOp hi (hcl _ _ hS hb) fun w'' hb' hS'=>⟨hS',Qni H (hb.trans (hb'.mono hb.size))⟩
   · have:=ready_mono hj hji
     rw[(H w' hb).1] at this
     cases this
 | succ fuel ih=>
   intro listed a w hfree hr hy hS H w' hb
   refine ⟨fun h=>(by rw[h] at hr;cases hr),fun j hj=>?_⟩
   by_cases hji:j=i
   · subst hji
     exact hy.wpOp hi (hcl _ _ hS hb) fun w'' hb' hS'=>⟨hS',Qni H (hb.trans (hb'.mono hb.size))⟩
   · have h1:=(H w' hb).2 j (ready_mono hj hji)
     obtain ⟨hjun,oj,hoj,hall⟩:=mem_ready.1 hj
     have hnot:∀e∈oj.after,Region.binds md e=true->e.on≠i:=fun e he hbd heq=>by
      have g1:=hall e he hbd
      have g0:=(mem_ready.1 hr).1
      rw[heq] at g1
      rcases Nat.lt_or_ge i listed.size with h'|h'
      · simp[h'] at g0 g1;rw[g0] at g1;cases g1
      · simp[Array.getElem?_eq_none h'] at g1
     have hap:=hfree j oj hoj hji hjun hnot
     have h2:=wpOp_putIf (S:=fun _=>False) hoj hap (fun cs b=>hsel i oi cs b hi) (fun cs b=>hsel j oj cs b hoj) hQ (.inl ⟨hy.1,fun _ h=>h.elim⟩) h1
     have hd3:=(Oper.apart_spec hap).2.2
     have h3:=Qlv hoj (Pr:=CallIf P ops S oi v) (fun u=>hy.put (fun cs b=>hsel i oi cs b hi) hd3 u) (fun d u=>CallIf.put (a:=({ a with defers:=d::a.defers }:Act)) (fun cs b=>hsel i oi cs b hi) hy hd3 u) h2
     have hfree':∀k ok,ops[k]? =some ok->k≠i->(listed.setIfInBounds j true).getD k true=false->(∀e∈ok.after,Region.binds md e=true->e.on≠i)->oi.apart ops ok=true:=fun k ok hk hki hun hno=>by
      refine hfree k ok hk hki ?_ hno
      by_cases hjk:j=k
      · subst hjk;exact hjun
      · rw[getD_set_ne true hjk] at hun;exact hun
     refine wpOp_mono (fun a' w' h4=>⟨h4.2.2.1,ih (listed.setIfInBounds j true) a' w' hfree' (ready_mono hr (Ne.symm hji)) h4.1 h4.2.2.1 ?_⟩) h3
     rw[Array.setIfInBounds_comm _ _ hji]
     exact h4.2.2.2
end
section
variable {P:Program} {Q:E9z} {c:R9z} {w0:Base} {T:Tb}
def Q3ia (all:Array Oper) (st:St) (o:Oper):Option Bool:=match o.guard with
 | none=>some true
 | some (j,want)=>match (all[j]?).bind (·.dst) with
   | some d=>match nth st.t d with
     | some (.pt (.one (.lit b)))=>some (b==want)
     | some (.tup _)=>some false
     | _=>none
   | none=>none
theorem Q4ia {e:Env} {st:St} {a:Act} {s:List Act} {w:World} (F:Fit e w0 st a s w) {all:Array Oper} {o:Oper} {b:Bool} (hb:Q3ia all st o=some b):Region.wanted o (yielded all a.tmps)=b:=by
 unfold Q3ia at hb
 split at hb
 · rename_i hg;cases hb;simp[Region.wanted,hg]
 · rename_i j want hg
   split at hb
   · rename_i d hd
     split at hb
     · rename_i b' hb'
       cases hb
       rw[Qva] at hb'
       have hy:=Q6d F hd hb'
       simp only[Region.wanted,hg,hy]
       cases b'<;>cases want<;>rfl
     · rename_i l hb'
       cases hb
       rw[Qva] at hb'
       exact Q0e hg (Qxg F hd hb')
     · cases hb
   · cases hb
theorem go_takeC (n:Nat) (hT:TOk P T) {all:Array Oper} {i:Nat} {listed:List Bool} {f:Nat} {k:List Item} {l:List (List Item)} {st:St} {o:Oper} {cl:Call} {g:Nat} {args:List SV} {vs:List Value} {v:Value} (_hn:l[n]? =some (.aop all i listed f::k))
 (hl:l=(Region.ready .any all listed.toArray).map fun j=>(.aop all j listed f::k:List Item)) (hi:all[i]? =some o) (ho:o.op=.call cl) (hA:cl.callee≠.builtin .append) (hns:Region.noSelect all=true) (hfr:Region.free .any all listed.toArray i=true) (hr:(Region.ready .any all listed.toArray).contains i=true)
 (hg:Q3ia all st o=some true) (hE:opE T c st o.op=.call g args) (hv:Q2r c args=some vs) (hfun:∀(args:Array Value) (w:World),(callFunc g args).run P w=.ok (.enter g args) w)
 (hC:∀w,Calls P g vs.toArray w (Ret w v)) (h:Goes P Q c w0 (.aops all (Q0b listed i true) f::k) (st.put o.dst (ofR v))):OutOk P Q c w0 (.fork l st):=⟨fun x hx=>⟨fun e s a w hc F=>by
 rw[hl] at hx
 obtain ⟨j,hj,rfl⟩:=List.mem_map.1 hx
 have hSX:SX c w:=F.ext.xok0 hc
 have hH:=(h.run e s (a.put o.dst v) w hc (F.put (Qkm e v))).2
 rw[Qcd] at hH
 have hcall:CallIf P all (SX c) o v a:=by
  refine ⟨Q4ia F hg,g,vs.toArray,fun w1 hS=>?_⟩
  have:=Qor (P:=P) (T:=T) (e:=e) (st:=st) (a:=a) (w:=w1) hT F.tm F.rl hA o ho
  rw[hc,hE] at this
  obtain ⟨us,h1,h2⟩:=this
  have e1:=Qko hc hv h1
  subst e1
  refine ⟨by rw[h2,hfun],(hC w1).mono fun en w'' ⟨he,hb⟩=>⟨he,hb,Qje _ _ hS hb⟩⟩
 have:=Q91 (Q:=NP (KQ P Q c k s)) hi (Region.noSelect_spec hns) (fun _ _ _ h=>h.elim) Qje f listed.toArray a w (Region.free_spec hi hfr) (by simpa using hr) hcall hSX hH
 exact (this w (Below.refl _ _)).2 j hj⟩⟩
end
section
open Go.RowKit Go.Shelf Go.Sort
namespace LiveG
def it (G:LiveG):Nat->Nat->Nat->Bool
 | 0,_,_=>false
 | k+1,n,l=>((G.sc n).any fun q=>it G k q l)&&!G.st n l||G.us n l
theorem it_cl {G:LiveG} (hs:∀n,n<G.N->∀q∈G.sc n,q<G.N) {l:Nat}:∀k n,n<G.N->it G k n l=true->Cl (G.Z l) (G.R l) n
 | 0,n,_,h=>by simp[it] at h
 | k+1,n,hn,h=>by
   simp only[it,Bool.or_eq_true,Bool.and_eq_true,List.any_eq_true,Bool.not_eq_true'] at h
   rcases h with ⟨⟨q,h1,h2⟩,h3⟩|h
   · exact .step (it_cl hs k q (hs n hn q h1) h2) ⟨hn,h1,h3⟩
   · exact .zero ⟨hn,h⟩
theorem it_li {G:LiveG} (hs:∀n,n<G.N->∀q∈G.sc n,q<G.N) {l k:Nat} (he:∀n,n<G.N->it G (k+1) n l=it G k n l) {n:Nat} (hn:n<G.N):G.liB l n=it G k n l:=by
 refine (Qh7 (N:=G.N) (S:=fun n=>it G k n l) (fun n hz=>hz.1) (fun m n hr=>hr.1) (fun n hn h=>it_cl hs k n hn h) (fun n hn hz=>?_) (fun m n hm hn hS hr=>?_) hn).symm
 · rw[<-he n hn];simp[it,hz.2]
 · rw[<-he n hn]
   simp only[it,Bool.or_eq_true,Bool.and_eq_true,List.any_eq_true,Bool.not_eq_true']
   exact .inl ⟨⟨m,hr.2.1,hS⟩,hr.2.2⟩
end LiveG
def Q0ba (F:GFun):LiveG:=⟨F.ln,stN F.sn F.bn,Q0g F,fun n l=>usC F (pbN F n) (piN F n) l,fun n l=>decide (Int.ofNat l=sI F (pbN F n) (piN F n))⟩
theorem Quca (F:GFun):Qdf F=Q0ba F:=by
 unfold Qdf Q0ba
 congr 1
 funext n l
 exact Q3aa F _ _ l
def Q9ba (F:GFun) (K:Nat) (M:List Nat):Bool:=Qed (stN F.sn F.bn) fun n=>decide (M.getD n 0<2 ^ F.ln)&&Qed F.ln fun l=>(LiveG.it (Q0ba F) K n l==(M.getD n 0).testBit l)&&(LiveG.it (Q0ba F) (K+1) n l==(M.getD n 0).testBit l)
theorem Q4ca {F:GFun} (hO:F.Ok) {K:Nat} {M:List Nat} (h:Q9ba F K M=true) {n:Nat} (hn:n<stN F.sn F.bn):liM F n=M.getD n 0:=by
 have h1:∀n,n<stN F.sn F.bn->M.getD n 0<2 ^ F.ln/\∀l,l<F.ln->LiveG.it (Q0ba F) K n l=(M.getD n 0).testBit l/\LiveG.it (Q0ba F) (K+1) n l=(M.getD n 0).testBit l:=fun n hn=>by
  have:=Qla.1 h n hn
  simp only[Bool.and_eq_true,decide_eq_true_eq] at this
  refine ⟨this.1,fun l hl=>?_⟩
  have:=Qla.1 this.2 l hl
  simp only[Bool.and_eq_true,beq_iff_eq] at this
  exact this
 unfold liM
 rw[Quca]
 refine Nat.eq_of_testBit_eq fun l=>?_
 rw[Qze]
 by_cases hl:l<F.ln
 · rw[decide_eq_true hl,Bool.true_and,LiveG.it_li (G:=Q0ba F) (k:=K) (fun n hn q hq=>Qgi hO hn q hq) (fun n hn=>by rw[((h1 n hn).2 l hl).1,((h1 n hn).2 l hl).2]) hn]
   exact ((h1 n hn).2 l hl).1
 · rw[decide_eq_false hl,Bool.false_and]
   exact (Nat.testBit_lt_two_pow (Nat.lt_of_lt_of_le (h1 n hn).1 (Nat.pow_le_pow_right (by decide) o9))).symm
end
def owT (F:GFun) (M:List Nat) (i j:Nat):Bool:=decide (i<F.ln)&&Qzd (F.lk i)&&(M.getD j 0).testBit i
def rgT (F:GFun) (M:List Nat):Nat->Nat->Nat->Bool
 | 0,k,j=>owT F M k j
 | r+1,k,j=>rgT F M r k j||(Qlc F).any fun c=>decide (c.fr.toNat=k)&&rgT F M r c.to.toNat j
def Qpda (F:GFun) (M:List Nat) (r:Nat):Bool:=Qed (stN F.sn F.bn) fun j=>(Qlc F).all fun c=>!rgT F M r c.to.toNat j||rgT F M r c.fr.toNat j
theorem Q8ca {F:GFun} (hO:F.Ok) {K:Nat} {M:List Nat} (hM:Q9ba F K M=true) {i j:Nat} (hj:j<stN F.sn F.bn):owB F i j=owT F M i j:=by
 unfold owB owT
 by_cases hi:i<F.ln
 · rw[<-Q4ca hO hM hj]
   unfold liM
   rw[Qze,decide_eq_true hi];simp only[Bool.true_and]
 · rw[decide_eq_false hi];rfl
theorem Q9ca {F:GFun} {M:List Nat} {k j:Nat} (h:owT F M k j=true):∀r,rgT F M r k j=true
 | 0=>h
 | r+1=>by simp only[rgT,Q9ca h r,Bool.true_or]
theorem Qida {F:GFun} {c:KCon} (h:c∈Qlc F):∃i,i<(Qlc F).length/\Qe4 F i=c.fr/\Qg4 F i=c.to:=by
 obtain ⟨i,hi,rfl⟩:=List.mem_iff_getElem.1 h
 refine ⟨i,hi,?_,?_⟩
 · unfold Qe4;rw[List.getD,List.getElem?_eq_getElem hi];rfl
 · unfold Qg4;rw[List.getD,List.getElem?_eq_getElem hi];rfl
theorem Qgca {F:GFun} (hO:F.Ok) {K:Nat} {M:List Nat} (hM:Q9ba F K M=true) {j:Nat} (hj:j<stN F.sn F.bn):∀r k,rgT F M r k j=true->∃i,i<Q4g F/\Leads (Qlc F).length (Qe4 F) (Qg4 F) i k/\owB F i j=true
 | 0,k,h=>by
   have h2:k<F.ln:=by
    simp only[rgT,owT,Bool.and_eq_true,decide_eq_true_eq] at h
    exact h.1.1
   exact ⟨k,by unfold Q4g;omega,.refl _,by rw[Q8ca hO hM hj];exact h⟩
 | r+1,k,h=>by
   simp only[rgT,Bool.or_eq_true,List.any_eq_true,Bool.and_eq_true,decide_eq_true_eq] at h
   rcases h with h|⟨c,hc,h1,h2⟩
   · exact Qgca hO hM hj r k h
   · obtain ⟨i,hi,h3,h4⟩:=Qgca hO hM hj r _ h2
     obtain ⟨x,hx,e1,e2⟩:=Qida hc
     have hf:=Qaw hO x hx
     refine ⟨i,hi,?_,h4⟩
     rw[<-h1,<-e1]
     exact .step x hx h3 (by rw[e2];rw[e2] at hf;omega)
theorem Qeda {F:GFun} (hO:F.Ok) {K:Nat} {M:List Nat} (hM:Q9ba F K M=true) {r:Nat} (hc:Qpda F M r=true) {k j:Nat} (hj:j<stN F.sn F.bn):Qfl F k j=rgT F M r k j:=by
 rw[Bool.eq_iff_iff]
 unfold Qfl Qd6
 simp only[decide_eq_true_eq]
 refine ⟨fun ⟨i,hi,h1,h2⟩=>?_,fun h=>Qgca hO hM hj r k h⟩
 have hc:=Qla.1 hc j hj
 rw[List.all_eq_true] at hc
 induction h1 with
 | refl=>exact Q9ca (by rw[<-Q8ca hO hM hj];exact h2) r
 | @step b x hx _ e ih=>
   have hm:(Qlc F).getD x .zero∈Qlc F:=Q9m hx
   have:=hc _ hm
   simp only[Bool.or_eq_true,Bool.not_eq_true'] at this
   have e2:((Qlc F).getD x .zero).to.toNat=b:=by
    have e:((Qlc F).getD x .zero).to=(b:Int):=e
    rw[e];rfl
   rw[e2] at this
   have ih:rgT F M r b j=true:=by first|exact ih|exact ih hi h2|exact ih ⟨i,hi,y9,h2⟩|exact ih ⟨_,hi,by assumption,h2⟩
   rcases this with g|g
   · rw[ih] at g;cases g
   · exact g
namespace WyG
theorem cong {G:WyG} {rg':B9z} (hp:G.p<G.N) (hl:∀m,m<G.N->∀q∈G.sc m,q<G.N) (hr:∀m,m<G.N->G.rg m=rg' m) (m:Nat):G.inB m=WyG.inB ⟨G.N,G.p,G.sc,rg',G.kl,G.tw⟩ m/\G.usB m=WyG.usB ⟨G.N,G.p,G.sc,rg',G.kl,G.tw⟩ m:=by
 obtain ⟨G',hG'⟩:=x9 (⟨G.N,G.p,G.sc,rg',G.kl,G.tw⟩:WyG)
 rw[<-hG']
 have hR:∀n m,n<G.N->(G.R n m↔G'.R n m):=fun n m hn=>by
  subst hG'
  unfold R
  refine ⟨fun h=>⟨h.1,h.2.1,?_⟩,fun h=>⟨h.1,h.2.1,?_⟩⟩
  · show rg' m=true
    rw[<-hr m (hl n hn m h.2.1)];exact h.2.2
  · rw[hr m (hl n hn m h.2.1)];exact h.2.2
 have ep:G'.p=G.p:=by rw[hG']
 have eN:G'.N=G.N:=by rw[hG']
 have et:G'.tw=G.tw:=by rw[hG']
 have es:G'.sc=G.sc:=by rw[hG']
 have hl':∀m,m<G'.N->∀q∈G'.sc m,q<G'.N:=by rw[eN,es];exact hl
 have a1:∀m,G.inB m=true->G'.inB m=true:=fun m g=>by
  have g':=Qmb.1 g
  clear g
  induction g' with
  | zero g=>exact in0 (by rw[ep];exact (hR _ _ hp).1 g)
  | step h g ih=>exact in1 ih ((hR _ _ (inB_lt hp hl (Qmb.2 h))).1 g)
 have a2:∀m,G'.inB m=true->G.inB m=true:=fun m g=>by
  have g':=Qmb.1 g
  clear g
  induction g' with
  | zero g=>exact in0 ((hR _ _ hp).2 (by rw[ep] at g;exact g))
  | step h g ih=>exact in1 ih ((hR _ _ (inB_lt hp hl ih)).2 g)
 have b1:∀m,G.usB m=true->G'.usB m=true:=fun m g=>by
  have g':=Qmb.1 g
  clear g
  induction g' with
  | zero g=>
    obtain ⟨n,g1,g2,g3⟩:=g
    exact us0 (a1 n g1) (by rw[et];exact g2) ((hR _ _ (inB_lt hp hl g1)).1 g3)
  | step h g ih=>exact us1 ih ((hR _ _ (inB_lt hp hl (us_in (Qmb.2 h)))).1 g)
 have b2:∀m,G'.usB m=true->G.usB m=true:=fun m g=>by
  have g':=Qmb.1 g
  clear g
  induction g' with
  | zero g=>
    obtain ⟨n,g1,g2,g3⟩:=g
    exact us0 (a2 n g1) (by rw[<-et];exact g2) ((hR _ _ (inB_lt hp hl (a2 n g1))).2 g3)
  | step h g ih=>exact us1 ih ((hR _ _ (inB_lt hp hl (us_in ih))).2 g)
 refine ⟨?_,?_⟩
 · rw[Bool.eq_iff_iff];exact ⟨a1 m,a2 m⟩
 · rw[Bool.eq_iff_iff];exact ⟨b1 m,b2 m⟩
end WyG
def wyT (F:GFun) (M:List Nat) (r k:Nat):WyG:=⟨stN F.sn F.bn,lpN F k,Q0g F,fun m=>rgT F M r (k+F.ln) m,fun n=>Qqf F k n,fun n=>decide ((stAt F (lpN F k)).r.bo=3)&&uB F (pbN F n) (piN F n) (lnL F (lpN F k)).toNat⟩
def Q7ba (T:List (List Bool)) (i j:Nat):Bool:=(T.getD i []).getD j false
def Qqda (F:GFun) (K:Nat) (M:List Nat) (r s:Nat) (T U:List (List Bool)):Bool:=Q9ba F K M&&Qpda F M r&&Qed (lnC F) fun k=>(wyT F M r k).shut s&&Qed (stN F.sn F.bn) fun j=>((wyT F M r k).inT s j==Q7ba T k j)&&((wyT F M r k).usT s s j==Q7ba U k j)
theorem Q1ba {F:GFun} (hO:F.Ok) {K:Nat} {M:List Nat} {r s:Nat} {T U:List (List Bool)} (h:Qqda F K M r s T U=true) {k j:Nat} (hk:k<lnC F) (hj:j<stN F.sn F.bn):scI F k j=Q7ba T k j/\scU F k j=Q7ba U k j:=by
 simp only[Qqda,Bool.and_eq_true] at h
 have hs:=Qla.1 h.2 k hk
 simp only[Bool.and_eq_true] at hs
 have ht:=Qla.1 hs.2 j hj
 simp only[Bool.and_eq_true,beq_iff_eq] at ht
 have hl:∀m,m<stN F.sn F.bn->∀q∈Q0g F m,q<stN F.sn F.bn:=fun m hm q hq=>Qgi hO hm q hq
 have hc:=WyG.cong (G:=wyF F k) (rg':=fun m=>rgT F M r (k+F.ln) m) (Qhm hk).1 hl (fun m hm=>Qeda hO h.1.1 h.1.2 hm) j
 have hl2:=WyG.lit (G:=wyT F M r k) hl hs.1 j
 refine ⟨?_,?_⟩
 · rw[<-ht.1];exact hc.1.trans hl2.1
 · rw[<-ht.2];exact hc.2.trans hl2.2
def sbC (p q:Nat):List (Nat×Nat)->List (Nat×Nat)
 | []=>[]
 | x::l=>(swI p q x.1,x.2)::sbC p q l
def SC.sb (p q:Nat):SC->SC
 | .ptr k o=>.ptr (swI p q k) o
 | .pi k o=>.pi (swI p q k) o
 | .sl k o n c=>.sl (swI p q k) o n c
 | .fn f cap=>.fn f (sbC p q cap)
 | x=>x
def sbL (p q:Nat):List SC->List SC
 | []=>[]
 | c::l=>c.sb p q::sbL p q l
def SA.sb (p q:Nat):SA->SA
 | .one c=>.one (c.sb p q)
 | .agg l=>.agg (sbL p q l)
def sbA (p q:Nat):List SA->List SA
 | []=>[]
 | c::l=>c.sb p q::sbA p q l
def SV.sb (p q:Nat):SV->SV
 | .pt a=>.pt (a.sb p q)
 | .tup l=>.tup (sbA p q l)
def sbV (p q:Nat):List SV->List SV
 | []=>[]
 | c::l=>c.sb p q::sbV p q l
def sbF (p q:Nat):List (List SV)->List (List SV)
 | []=>[]
 | c::l=>sbV p q c::sbF p q l
def sbH (p q:Nat):List (Option (List SC))->List (Option (List SC))
 | []=>[]
 | none::l=>none::sbH p q l
 | some c::l=>some (sbL p q c)::sbH p q l
def St.sb (st:St) (p q:Nat):St:=⟨sbV p q st.t,swN (sbH p q st.h) p q,sbF p q st.fr,st.r⟩
section
variable {e:Env} {p q:Nat} {g:List Nat}
theorem Qbda (hq:∀k v,e.rho[k]? =some v->g[swI p q k]? =some v):∀{l:List (Nat×Nat)} {vs:List Value},Qfd e l vs->Qfd ⟨g,e.chi,e.sg⟩ (sbC p q l) vs
 | [],[],_=>trivial
 | (k,o)::l,v::vs,⟨⟨x,hx,hv⟩,h⟩=>⟨⟨x,hq _ _ hx,hv⟩,Qbda hq h⟩
 | [],_::_,h=>h.elim
 | _::_,[],h=>h.elim
theorem SC.sb_is (hq:∀k v,e.rho[k]? =some v->g[swI p q k]? =some v) {x:SC} {v:Value} (h:x.is e v):(x.sb p q).is ⟨g,e.chi,e.sg⟩ v:=by
 cases x<;>try exact h
 case ptr k o=>obtain ⟨b,h1,h2⟩:=h;exact ⟨b,hq _ _ h1,h2⟩
 case pi k o=>obtain ⟨b,h1,h2⟩:=h;exact ⟨b,hq _ _ h1,h2⟩
 case sl k o n c=>obtain ⟨b,h1,h2⟩:=h;exact ⟨b,hq _ _ h1,h2⟩
 case fn f cap=>obtain ⟨vs,h1,h2⟩:=h;exact ⟨vs,h1,Qbda hq h2⟩
theorem Qyca (hq:∀k v,e.rho[k]? =some v->g[swI p q k]? =some v):∀{l:List SC} {vs:List Value},isL e l vs->isL ⟨g,e.chi,e.sg⟩ (sbL p q l) vs
 | [],[],_=>trivial
 | c::l,v::vs,h=>⟨SC.sb_is hq h.1,Qyca hq h.2⟩
 | [],_::_,h=>h.elim
 | _::_,[],h=>h.elim
theorem SA.sb_is (hq:∀k v,e.rho[k]? =some v->g[swI p q k]? =some v) {x:SA} {v:Value} (h:x.is e v):(x.sb p q).is ⟨g,e.chi,e.sg⟩ v:=by
 cases x
 · exact SC.sb_is hq h
 · obtain ⟨vs,hv,hl⟩:=h;exact ⟨vs,hv,Qyca hq hl⟩
theorem Qada (hq:∀k v,e.rho[k]? =some v->g[swI p q k]? =some v):∀{l:List SA} {vs:List Value},isA e l vs->isA ⟨g,e.chi,e.sg⟩ (sbA p q l) vs
 | [],[],_=>trivial
 | c::l,v::vs,h=>⟨SA.sb_is hq h.1,Qada hq h.2⟩
 | [],_::_,h=>h.elim
 | _::_,[],h=>h.elim
theorem SV.sb_is (hq:∀k v,e.rho[k]? =some v->g[swI p q k]? =some v) {x:SV} {v:Value} (h:x.is e v):(x.sb p q).is ⟨g,e.chi,e.sg⟩ v:=by
 cases x
 · exact SA.sb_is hq h
 · obtain ⟨vs,hv,hl⟩:=h;exact ⟨vs,hv,Qada hq hl⟩
theorem Qzca (hq:∀k v,e.rho[k]? =some v->g[swI p q k]? =some v):∀{l:List SV} {vs:List Value},isV e l vs->isV ⟨g,e.chi,e.sg⟩ (sbV p q l) vs
 | [],[],_=>trivial
 | c::l,v::vs,h=>⟨SV.sb_is hq h.1,Qzca hq h.2⟩
 | [],_::_,h=>h.elim
 | _::_,[],h=>h.elim
theorem Qcda (hq:∀k v,e.rho[k]? =some v->g[swI p q k]? =some v):∀{ts:List (List SV)} {us:List Act},Qzl e ts us->Qzl ⟨g,e.chi,e.sg⟩ (sbF p q ts) us
 | [],[],_=>trivial
 | c::l,v::vs,h=>⟨⟨h.1.1,Qzca hq h.1.2⟩,Qcda hq h.2⟩
 | [],_::_,h=>h.elim
 | _::_,[],h=>h.elim
end
theorem Qjca {p q:Nat}:∀{l:List (Option (List SC))} {k:Nat} {cs:List SC},(sbH p q l)[k]? =some (some cs)->∃cs0,l[k]? =some (some cs0)/\cs=sbL p q cs0
 | [],k,cs,h=>by simp[sbH] at h
 | none::l,0,cs,h=>by simp[sbH] at h
 | some c::l,0,cs,h=>by simp[sbH] at h;exact ⟨c,by simp,h.symm⟩
 | none::l,k+1,cs,h=>by simpa using Qjca (l:=l) (by simpa [sbH] using h)
 | some c::l,k+1,cs,h=>by simpa using Qjca (l:=l) (by simpa [sbH] using h)
theorem Qpba {p q:Nat}:∀l:List (Option (List SC)),(sbH p q l).length=l.length
 | []=>rfl
 | none::l=>by simp[sbH,Qpba l]
 | some _::l=>by simp[sbH,Qpba l]
section
variable {P:Program} {Q:E9z} {c:R9z} {w0:Base}
theorem Fit.sb {e:Env} {st:St} {a:Act} {s:List Act} {w:World} (F:Fit e w0 st a s w) {p q:Nat} (hp:p<st.h.length) (hq:q<st.h.length) (hp0:w0.mo.length<=p) (hq0:w0.mo.length<=q):
 Fit ⟨swN e.rho p q,e.chi,e.sg⟩ w0 (st.sb p q) a s w:=by
 have hl:=F.len
 have hg:∀k b,e.rho[k]? =some b->(swN e.rho p q)[swI p q k]? =some b:=fun k b h=>by
  rw[Qnl _ o9 o9,Qyr];exact h
 have hg':∀k b,(swN e.rho p q)[k]? =some b->e.rho[swI p q k]? =some b:=fun k b h=>by
  rw[Qnl _ o9 o9] at h;exact h
 have hh:∀k cs,(st.sb p q).h[k]? =some (some cs)->∃cs0,st.h[swI p q k]? =some (some cs0)/\cs=sbL p q cs0:=fun k cs h=>by
  simp only[St.sb] at h
  rw[Qnl _ (by rw[Qpba];exact hp) (by rw[Qpba];exact hq)] at h
  exact Qjca h
 have hH:∀k b,Qhd ⟨swN e.rho p q,e.chi,e.sg⟩ (st.sb p q) k b->Qhd e st (swI p q k) b:=fun k b ⟨cs,h1,h2⟩=>by
  obtain ⟨cs0,h3,_⟩:=hh k cs h1
  exact ⟨cs0,h3,hg' k b h2⟩
 have hR:∀k b,Qdd ⟨swN e.rho p q,e.chi,e.sg⟩ (st.sb p q) k b->Qdd e st k b:=fun k b h=>h
 refine ⟨Qcda hg F.fr,F.dfr,Qzca hg F.tm,F.blw,fun k b h=>F.lo _ b (hg' k b h),fun k b h=>F.hi _ b (hg' k b h),fun j k b h h'=>?_,by simp only[St.sb,Qp6,Qpba];exact hl,fun k b cs h1 h2=>?_,⟨fun q' i j hj=>?_,fun b o hbo=>?_,F.ext.exx⟩,fun i b h=>?_,⟨F.rows.len,F.rows.row,F.rows.lo,F.rows.hi,F.rows.nd,fun k b h i hi=>F.rows.no k b (hR k b h) _ (hH i b hi)⟩⟩
 · have:=F.nd _ _ b (hg' j b h) (hg' k b h')
   have h2:=congrArg (swI p q) this
   rwa [Qyr,Qyr] at h2
 · obtain ⟨cs0,h3,rfl⟩:=hh k cs h2
   obtain ⟨vs,t,g1,g2⟩:=F.cells _ b cs0 (hg' k b h1) h3
   exact ⟨vs,t,g1,Qyca hg g2⟩
 · obtain ⟨b,p',f1,f2,f3,f4,f5,f6⟩:=F.ext.ok q' i j hj
   exact ⟨b,p',f1,f2,f3,fun k h=>f4 _ (hH k b h),fun k h=>f5 _ (hR k b h),f6⟩
 · obtain ⟨f1,f2,f3,f4,f5⟩:=F.ext.ex b o hbo
   exact ⟨f1,f2,f3,fun k h=>f4 _ (hH k b h),fun k h=>f5 _ (hR k b h)⟩
 · have hi:i<w0.mo.length:=by
    rcases Nat.lt_or_ge i w0.mo.length with g|g
    · exact g
    · rw[List.getElem?_eq_none g] at h;cases h
   have e1:swI p q i=i:=by unfold swI;rw[if_neg o9,if_neg o9]
   have:=hg i b (F.pre i b h)
   rwa [e1] at this
theorem Q3ca {σ:Type} (C:σ->Nat->Nat->Row) (inv:σ->St) {ops:Array Oper} {l:List Bool} {f:Nat} {k:List Item} {st:St} (hk:noA k=true)
 (h1:Goes P (fun _ _ _=>False) c w0 [.aops ops l f,.stop (Q3z C w0 inv)] st) (h2:∀y,Goes P Q (C y) w0 k (inv y)):Goes P Q c w0 (.aops ops l f::k) st:=⟨fun e s a w hc F=>by
 have:=h1.run e s a w hc F
 simp only[KQ,Exit.then] at this⊢
 refine ⟨this.1,Qql (fun en a' w' hq=>?_) _ _ _ _ this.2⟩
 cases en with
 | normal=>
   obtain ⟨y,e',h3,h4⟩:=hq
   have h5:KQ P Q (C y) k s .normal a' w':=(h2 y).run e' s a' w' h3 h4
   rw[Qkc (c':=c) hk] at h5
   exact h5
 | _=>first|exact hq|exact hq.elim⟩
theorem Q5ba (ws:List Nat) (ups:List (Nat×SV)) (hups:List (Nat×List SC)) (hh:List (Option (List SC))) {ops:Array Oper} {l:List Bool} {f:Nat} {k:List Item} {st:St} (hk:noA k=true)
 (h1:Goes P (fun _ _ _=>False) c w0 [.aops ops l f,.stop (Q3z (fun _:Unit=>c) w0 (fun _=>{ st.lay ws ups hups [] with h:=(st.lay ws ups hups []).h++hh }))] st) (h2:Goes P Q c w0 k { st.lay ws ups hups [] with h:=(st.lay ws ups hups []).h++hh }):Goes P Q c w0 (.aops ops l f::k) st:=Q3ca (fun _=>c) _ hk h1 (fun _=>h2)
def St.sbs:List (Nat×Nat)->St->St
 | [],st=>st
 | x::l,st=>St.sbs l (st.sb x.1 x.2)
def okS (m n:Nat):List (Nat×Nat)->Bool
 | []=>true
 | x::l=>decide (m<=x.1)&&decide (m<=x.2)&&decide (x.1<n)&&decide (x.2<n)&&okS m n l
theorem St.sb_len (st:St) (p q:Nat):(st.sb p q).h.length=st.h.length:=by simp only[St.sb,Qp6,Qpba]
theorem Fit.sbs {a:Act} {s:List Act} {w:World}:∀(l:List (Nat×Nat)) {e:Env} {st:St},okS w0.mo.length st.h.length l=true->Fit e w0 st a s w->∃rho,Fit ⟨rho,e.chi,e.sg⟩ w0 (St.sbs l st) a s w
 | [],e,st,_,F=>⟨e.rho,F⟩
 | x::l,e,st,h,F=>by
   simp only[okS,Bool.and_eq_true,decide_eq_true_eq] at h
   obtain ⟨⟨⟨⟨h1,h2⟩,h3⟩,h4⟩,h5⟩:=h
   exact Fit.sbs (e:=⟨swN e.rho x.1 x.2,e.chi,e.sg⟩) l (by rw[St.sb_len];exact h5) (F.sb h3 h4 h1 h2)
theorem Qtba (l:List (Nat×Nat)) {σ:Type} {C:σ->Nat->Nat->Row} {inv:σ->St} {k:List Item} {st:St} (y:σ) (hcy:c=C y) (hl:okS w0.mo.length st.h.length l=true) (h:Le (St.sbs l st) (inv y)) (hb:(inv y).bnd=true) (hw:w0.mo.length<=(inv y).h.length):OutOk P Q c w0 (.stop (Q3z C w0 inv) k st):=
 ⟨fun e s a w hc F=>by
  obtain ⟨rho,F'⟩:=F.sbs l hl
  exact ⟨y,(⟨rho,e.chi,e.sg⟩:Env).cut (inv y).h.length (inv y).r.length,hc.trans hcy,F'.le h hb hw⟩⟩
end
def feB (F:GFun):Bool:=Qed F.bn fun b=>(Qed (F.sn b) fun i=>decide (0<=(F.s b i).p.f)&&(decide (0<=(F.s b i).r.a.p.f)&&(decide (0<=(F.s b i).r.b.p.f)&&(decide (0<=(F.s b i).r.p.f)&&decide (0<=(F.s b i).a.p.f)))))&&(decide (0<=(F.jd b).f)&&(decide (0<=(F.jo b).p.f)&&Qed (F.jn b) fun j=>decide (0<=(F.ja b j).p.f)))
theorem Qzia {F:GFun} (h:feB F=true):F.Fe:=fun b hb=>by
 have:=Qla.1 h b hb
 simp only[Bool.and_eq_true,decide_eq_true_eq] at this
 obtain ⟨h1,h2,h3,h4⟩:=this
 refine ⟨fun i hi=>?_,h2,h3,fun j hj=>of_decide_eq_true (Qla.1 h4 j hj)⟩
 have:=Qla.1 h1 i hi
 simp only[Bool.and_eq_true,decide_eq_true_eq] at this
 exact ⟨this.1,this.2.1,this.2.2.1,this.2.2.2.1,this.2.2.2.2⟩
namespace ClaG
theorem ag_congr {G G':ClaG} {n:Nat} (hl:G.ln=G'.ln) (hP:∀k,k<G.P->G.sI k n=G'.sI k n/\G.sU k n=G'.sU k n) (t:GTouch) (b:Int):∀k,k<=G.P->G.ag n t b k=G'.ag n t b k
 | 0,_=>rfl
 | k+1,hk=>by
   have h:=hP k o9
   simp only[ag,ag_congr hl hP t b k o9,h.1,h.2,hl]
theorem al_congr {G G':ClaG} {N:Nat} (hl:G.ln=G'.ln) (hp:G.P=G'.P) (ht:G.tt=G'.tt) (hw:G.tw=G'.tw) (hP:∀k n,k<G.P->n<N->G.sI k n=G'.sI k n/\G.sU k n=G'.sU k n):∀n,n<=N->G.al n=G'.al n
 | 0,_=>rfl
 | n+1,hn=>by
   have hq:∀k,k<G.P->G.sI k n=G'.sI k n/\G.sU k n=G'.sU k n:=fun k hk=>hP k n hk o9
   have h1:∀i,G.tl n i=G'.tl n i:=fun i=>by
    induction i with
    | zero=>rfl
    | succ i ih=>simp only[tl,ih,ag_congr hl hq _ _ _ (Nat.le_refl _),ht];rw[hp]
   have h2:∀k,k<=G.P->G.ac n k=G'.ac n k:=fun k=>by
    induction k with
    | zero=>intro _;rfl
    | succ k ih=>
      intro hk
      have h:=hq k o9
      simp only[ac,ih o9,ag_congr hl hq _ _ _ (Nat.le_refl _),h.1,hl,hw]
      rw[hp]
   simp only[al,al_congr hl hp ht hw hP n o9,pt,h1,h2 _ (Nat.le_refl _),ht]
   rw[hp]
end ClaG
def Q1ia (F:GFun) (T U:List (List Bool)):ClaG:=⟨stN F.sn F.bn,lnC F,lnG F,Q7ba T,Q7ba U,fun k n=>decide ((stAt F (lpN F k)).r.bo=3)&&uB F (pbN F n) (piN F n) (lnL F (lpN F k)).toNat,fun n=>ptT F (pbN F n) (piN F n)⟩
def clT (F:GFun) (T U:List (List Bool)):List GClash:=(Q1ia F T U).al (stN F.sn F.bn)
theorem Qqia {F:GFun} (hO:F.Ok) {K:Nat} {M:List Nat} {r s:Nat} {T U:List (List Bool)} (h:Qqda F K M r s T U=true):claL F=clT F T U:=by
 unfold claL clT
 refine ClaG.al_congr (G:=clG F) (G':=Q1ia F T U) (N:=stN F.sn F.bn) rfl rfl rfl rfl (fun k n hk hn=>?_) _ (Nat.le_refl _)
 exact Q1ba hO h hk hn
namespace ClaG
end ClaG
def Q0ia (F:GFun):List (List Int):=(List.range (F.sn 0)).map fun j=>[(F.s 0 j).k,(F.s 0 j).p.l,(F.s 0 j).r.k,(F.s 0 j).r.bo,(F.s 0 j).r.p.l,(F.s 0 j).r.a.p.l]
section
variable {Q:E9z} {c:R9z} {w0:Base}
theorem Qjia (X:List (List Int)) (L:List GClash) {pa:Int} {un:Bool} {l b:SC} {dst:Option Nat} {k:List Item} {st:St} (hv:∀S B,Qjv S B c [.pt (.agg [.int .i64 pa,.lit un,l,b])]=some [(Qxba st.h B pa un l b).val]) (_ht:∀B,Q0ia (Qxba st.h B pa un l b)=X) (hok:Qtca st.h l b=true) (hO:∀B,fchkV (Qxba st.h B pa un l b)=0)
 (hE:∀B,feB (Qxba st.h B pa un l b)=true) (hL:∀B,GFun.Ok (Qxba st.h B pa un l b)->claL (Qxba st.h B pa un l b)=L)
 (h:Goes Tryz.prog Q c w0 k (({ st with r:=st.r++Qjq [claR L] }:St).put dst ((SV.tup [.one (.rs 0),.one (.int .i64 0)]).shR (Qyn st.r)))):OutOk Tryz.prog Q c w0 (.call 20 [.pt (.agg [.int .i64 pa,.lit un,l,b])] dst k st):=
 Qaia (vs:=fun S B=>[(Qxba st.h B pa un l b).val]) hv Tryz.call20 (fun w S B hk hx' hM=>by
  have hO:GFun.Ok (Qxba st.h B pa un l b):=hO B
  have:=Qzga _ w (Qfca hM hok) hO (Qzia (hE B))
  rw[hL B hO] at this
  exact Calls.to (c':=c) (Qsea L) rfl this) rfl h
end
end Go.Proofs.YtemnfncbgalljaaGreat
