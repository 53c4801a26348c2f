/- A drawn region taken by a plan: the order is checked by the kernel, the state alone is computed. No condition. -/
import Derived.Test.YtaafofmfbcnaaaaGreatSxQ
namespace Go.Proofs.YtaafofmfbcnaaaaGreat
open Go.RowKit
set_option linter.unusedVariables false
set_option linter.unusedSimpArgs false
def markAll:List Nat→List Bool→List Bool
 | [],l=>l
 | i::is,l=>markAll is (setN l i true)
def okPlan (all:Array Oper):List Nat→List Bool→Bool
 | [],_=>true
 | i::is,l=>((Region.ready .any all l.toArray).contains i&&Region.free .any all l.toArray i)&&okPlan all is (setN l i true)
def guardP (all:Array Oper) (st:St) (o:Oper):Option Bool:=match o.guard with
 | none=>some true
 | some (j,want)=>match (all[j]?).bind (·.dst) with
   | some d=>match nth st.t d with
     | some (.pt (.one (.lit b)))=>some (b==want)
     | some (.pt (.one (.bool b)))=>some (b==want)
     | some (.tup _)=>some false
     | _=>none
   | none=>none
def litC:SC→SC
 | .bool true=>.lit true
 | .bool false=>.lit false
 | c=>c
def litV:SV→SV
 | .pt (.one c)=>.pt (.one (litC c))
 | x=>x
theorem litV_is {x:SV} {e:Env} {v:Value} (h:x.is e v):(litV x).is e v:=by
 unfold litV
 split
 · rename_i c
   have h:c.is e v:=h
   show (litC c).is e v
   unfold litC
   split
   · exact h
   · exact h
   · exact h
 · exact h
def runPlan (b:Bool) (T:Tb) (e:Nat→Nat→Row) (all:Array Oper):List Nat→St→Option St
 | [],st=>some st
 | i::is,st=>match all[i]? with
   | none=>none
   | some o=>match guardP all st o with
     | some true=>(match stabE T e st o.op with
       | .v x=>if x.det then runPlan b T e all is (st.put o.dst (if b then litV x else x)) else none
       | .need j m x=>if x.det&&(decide (0≤j)&&decide (j<m)) then runPlan b T e all is (st.put o.dst (if b then litV x else x)) else none
       | _=>none)
     | some false=>runPlan b T e all is (st.put o.dst skipS)
     | none=>none
section
variable {P:Program} {Q:Exit→Act→World→Prop} {c:Nat→Nat→Row} {T:Tb} {w0:Base} {all:Array Oper} {k:List Item} {st:St}
theorem yields_bool {e:Env} {st:St} {a:Act} {s:List Act} {w:World} (F:Fit e w0 st a s w) {all:Array Oper} {j d:Nat} {b:Bool} (hj:(all[j]?).bind (·.dst)=some d) (h:st.t[d]? =some (.pt (.one (.bool b)))):yielded all a.tmps j=some b:=by
 obtain ⟨v,hv,hs⟩:=isV_get F.tm h
 have hs:v=.bool b:=hs
 subst hs
 have hv':a.tmps[d]? =some (.bool b):=by simpa using hv
 simp[yielded,hj,hv']
theorem guardP_is {e:Env} {st:St} {a:Act} {s:List Act} {w:World} (F:Fit e w0 st a s w) {all:Array Oper} {o:Oper} {b:Bool} (hb:guardP all st o=some b):Region.wanted o (yielded all a.tmps)=b:=by
 unfold guardP at hb
 split at hb
 · rename_i hg;cases hb;simp[Region.wanted,hg]
 · rename_i j want hg
   split at hb
   · rename_i d hd
     split at hb
     · rename_i b' hb'
       cases hb
       rw[nth_eq] at hb'
       have hy:=yields_lit F hd hb'
       simp only[Region.wanted,hg,hy]
       cases b'<;>cases want<;>rfl
     · rename_i b' hb'
       cases hb
       rw[nth_eq] at hb'
       have hy:=yields_bool F hd hb'
       simp only[Region.wanted,hg,hy]
       cases b'<;>cases want<;>rfl
     · rename_i l hb'
       cases hb
       rw[nth_eq] at hb'
       exact not_wanted hg (yields_tup0 F hd hb')
     · cases hb
   · cases hb
theorem go_takeP1 (hT:TOk P T) {i:Nat} {o:Oper} {x x':SV} {l:List Bool} {f:Nat} (hx:∀e v,x.is e v→x'.is e v) (hns:Region.noSelect all=true) (hr:(Region.ready .any all l.toArray).contains i=true) (hf:Region.free .any all l.toArray i=true) (ho:all[i]? =some o) (hg:guardP all st o=some true) (hs:stabE T c st o.op=.v x) (hd:x.det=true)
 (h:Goes P Q c w0 (.aops all (setN l i true) f::k) (st.put o.dst x')):Goes P Q c w0 (.aops all l (f+1)::k) st:=⟨fun e s a w hc F=>by
 have hSX:SX c w:=F.ext.xok0 hc
 refine ⟨hSX,?_⟩
 show wpL P .any all (NP (KQ P Q c k s)) (SX c) (f+1) l.toArray a w
 have hop:=stab_v hT F o (by rw[hc];exact hs)
 rw[hc] at hop
 obtain ⟨v,h1,h2⟩:=hop w hSX
 refine wpL_take (v:=v) ho hns hf hr (fun _ _ _ h=>h.elim) SX_later (.inl ⟨guardP_is F hg,fun w' hS=>?_⟩) hSX ?_
 · obtain ⟨v',h1',h2'⟩:=hop w' hS
   rw[h2',SV.one_of hd h1' h1]
 · rw[←setN_arr]
   exact (h.run e s _ w hc (F.put (hx e v h1))).2⟩
theorem go_needP1 (hT:TOk P T) {i:Nat} {o:Oper} {x x':SV} {j:Int} {m:Nat} {l:List Bool} {f:Nat} (hx:∀e v,x.is e v→x'.is e v) (hns:Region.noSelect all=true) (hr:(Region.ready .any all l.toArray).contains i=true) (hf:Region.free .any all l.toArray i=true) (ho:all[i]? =some o) (hg:guardP all st o=some true) (hs:stabE T c st o.op=.need j m x) (h0:0≤j) (h1:j<m) (hd:x.det=true)
 (h:Goes P Q c w0 (.aops all (setN l i true) f::k) (st.put o.dst x')):Goes P Q c w0 (.aops all l (f+1)::k) st:=⟨fun e s a w hc F=>by
 have hSX:SX c w:=F.ext.xok0 hc
 refine ⟨hSX,?_⟩
 show wpL P .any all (NP (KQ P Q c k s)) (SX c) (f+1) l.toArray a w
 have hop:=stab_need hT F o (by rw[hc];exact hs) h0 h1
 rw[hc] at hop
 obtain ⟨v,h1,h2⟩:=hop w hSX
 refine wpL_take (v:=v) ho hns hf hr (fun _ _ _ h=>h.elim) SX_later (.inl ⟨guardP_is F hg,fun w' hS=>?_⟩) hSX ?_
 · obtain ⟨v',h1',h2'⟩:=hop w' hS
   rw[h2',SV.one_of hd h1' h1]
 · rw[←setN_arr]
   exact (h.run e s _ w hc (F.put (hx e v h1))).2⟩
theorem go_skipP {i:Nat} {o:Oper} {l:List Bool} {f:Nat} (hns:Region.noSelect all=true) (hr:(Region.ready .any all l.toArray).contains i=true) (hf:Region.free .any all l.toArray i=true) (ho:all[i]? =some o) (hg:guardP all st o=some false)
 (h:Goes P Q c w0 (.aops all (setN l i true) f::k) (st.put o.dst skipS)):Goes P Q c w0 (.aops all l (f+1)::k) st:=⟨fun e s a w hc F=>by
 have hSX:SX c w:=F.ext.xok0 hc
 refine ⟨hSX,?_⟩
 show wpL P .any all (NP (KQ P Q c k s)) (SX c) (f+1) l.toArray a w
 refine wpL_take (v:=undef) ho hns hf hr (fun _ _ _ h=>h.elim) SX_later (.inr ⟨guardP_is F hg,rfl⟩) hSX ?_
 rw[←setN_arr]
 exact (h.run e s _ w hc (F.put (undef_is e))).2⟩
theorem plan_ok (b:Bool) (hT:TOk P T) (hns:Region.noSelect all=true) {f:Nat}:∀(is:List Nat) (l:List Bool) (st st':St),okPlan all is l=true→runPlan b T c all is st=some st'→Goes P Q c w0 (.aops all (markAll is l) f::k) st'→Goes P Q c w0 (.aops all l (f+is.length)::k) st
 | [],l,st,st',_,hr,h=>by
   simp only[runPlan,Option.some.injEq] at hr
   subst hr;exact h
 | i::is,l,st,st',hp,hr,h=>by
   simp only[okPlan,Bool.and_eq_true] at hp
   obtain ⟨⟨h1,h2⟩,h3⟩:=hp
   show Goes P Q c w0 (.aops all l (f+is.length+1)::k) st
   unfold runPlan at hr
   split at hr
   · cases hr
   · rename_i o ho
     split at hr
     · rename_i hg
       split at hr
       · rename_i x hx
         split at hr
         · rename_i hd
           exact go_takeP1 hT (x':=if b then litV x else x) (fun e v h=>by cases b;exact h;exact litV_is h) hns h1 h2 ho hg hx hd (plan_ok b hT hns is _ _ _ h3 hr h)
         · cases hr
       · rename_i j m x hx
         split at hr
         · rename_i hd
           simp only[Bool.and_eq_true,decide_eq_true_eq] at hd
           exact go_needP1 hT (x':=if b then litV x else x) (fun e v h=>by cases b;exact h;exact litV_is h) hns h1 h2 ho hg hx hd.2.1 hd.2.2 hd.1 (plan_ok b hT hns is _ _ _ h3 hr h)
         · cases hr
       · cases hr
     · rename_i hg
       exact go_skipP hns h1 h2 ho hg (plan_ok b hT hns is _ _ _ h3 hr h)
     · cases hr
theorem go_plan (b:Bool) (hT:TOk P T) (m n:Nat) (is:List Nat) {l l':List Bool} {f f':Nat} {st':St} (hm:all.size=m) (hn:l.count true=n) (hf:f'=f+is.length) (hns:Region.noSelect all=true) (hp:okPlan all is l=true) (hl:markAll is l=l') (hr:runPlan b T c all is st=some st') (h:Goes P Q c w0 (.aops all l' f::k) st'):Goes P Q c w0 (.aops all l f'::k) st:=by
 subst hf hl
 exact plan_ok b hT hns is l st st' hp hr h
theorem go_one1 (m n i:Nat) {l:List Bool} {f:Nat} (hm:all.size=m) (hn:l.count true=n) (hr:Region.ready .any all l.toArray=[i]) (h:Goes P Q c w0 (.aop all i l f::k) st):Goes P Q c w0 (.aops all l (f+1)::k) st:=⟨fun e s a w hc F=>by
 have hSX:SX c w:=F.ext.xok0 hc
 refine ⟨hSX,?_⟩
 show wpL P .any all (NP (KQ P Q c k s)) (SX c) (f+1) l.toArray a w
 refine wpL_all hr (by simp) fun w' hw' j hj=>?_
 have:j=i:=by simpa using hj
 subst this
 exact h.run e s a w' hc (F.later hw')⟩
theorem go_two1 (m n i j:Nat) {l:List Bool} {f:Nat} (hm:all.size=m) (hn:l.count true=n) (hr:Region.ready .any all l.toArray=[i,j]) (h:Goes P Q c w0 (.aop all i l f::k) st) (h':Goes P Q c w0 (.aop all j l f::k) st):Goes P Q c w0 (.aops all l (f+1)::k) st:=⟨fun e s a w hc F=>by
 have hSX:SX c w:=F.ext.xok0 hc
 refine ⟨hSX,?_⟩
 show wpL P .any all (NP (KQ P Q c k s)) (SX c) (f+1) l.toArray a w
 refine wpL_all hr (by simp) fun w' hw' t ht=>?_
 have:t=i∨t=j:=by simpa using ht
 rcases this with rfl|rfl
 · exact h.run e s a w' hc (F.later hw')
 · exact h'.run e s a w' hc (F.later hw')⟩
theorem go_oneNb (hT:TOk P T) {i:Nat} {o:Oper} {l:List Bool} {f:Nat} {cs:List SC} {x:SV} (ho:all[i]? =some o) (hg:guardP all st o=some true) (hop:opE T c st o.op=.nb cs x) (h:Goes P Q c w0 (.aops all (setN l i true) f::k) (({ st with h:=st.h++[some cs] }:St).put o.dst x)):Goes P Q c w0 (.aop all i l f::k) st:=⟨fun e s a w hc F=>by
 show wpOp P all (NP (KQ P Q c k s)) i (fun a w=>SX c w∧wpL P .any all (NP (KQ P Q c k s)) (SX c) f (l.toArray.setIfInBounds i true) a w) a w
 rw[←setN_arr]
 unfold wpOp
 simp only[ho,guardP_is F hg,if_true]
 refine .inl ?_
 have hop':=opE_ok hT F o
 rw[hc,hop] at hop'
 obtain ⟨vs,t,v,h1,h2,h3⟩:=hop'
 unfold Oper.wp
 rw[h2,Oper.upon_value]
 exact h.run (e.more w.heap.size) s _ _ hc ((F.new h1).put h3)⟩
theorem go_oneV (hT:TOk P T) {i:Nat} {o:Oper} {l:List Bool} {f:Nat} {x:SV} (ho:all[i]? =some o) (hg:guardP all st o=some true) (hop:opE T c st o.op=.v x) (h:Goes P Q c w0 (.aops all (setN l i true) f::k) (st.put o.dst x)):Goes P Q c w0 (.aop all i l f::k) st:=⟨fun e s a w hc F=>by
 show wpOp P all (NP (KQ P Q c k s)) i (fun a w=>SX c w∧wpL P .any all (NP (KQ P Q c k s)) (SX c) f (l.toArray.setIfInBounds i true) a w) a w
 rw[←setN_arr]
 unfold wpOp
 simp only[ho,guardP_is F hg,if_true]
 refine .inl ?_
 have hop':=opE_ok hT F o
 rw[hc,hop] at hop'
 obtain ⟨v,h1,h2⟩:=hop'
 unfold Oper.wp
 rw[h2,Oper.upon_value]
 exact h.run e s _ _ hc (F.put h1)⟩
theorem go_oneCall (hT:TOk P T) {i:Nat} {o:Oper} {l:List Bool} {f f':Nat} {args:List SV} (ho:all[i]? =some o) (hg:guardP all st o=some true) (hop:opE T c st o.op=.call f' args) (h:OutOk P Q c w0 (.call f' args o.dst (.aops all (setN l i true) f::k) st)):Goes P Q c w0 (.aop all i l f::k) st:=⟨fun e s a w hc F=>by
 show wpOp P all (NP (KQ P Q c k s)) i (fun a w=>SX c w∧wpL P .any all (NP (KQ P Q c k s)) (SX c) f (l.toArray.setIfInBounds i true) a w) a w
 rw[←setN_arr]
 unfold wpOp
 simp only[ho,guardP_is F hg,if_true]
 refine .inl ?_
 have hop':=opE_ok hT F o
 rw[hc,hop] at hop'
 obtain ⟨vs,h1,h2⟩:=hop'
 obtain ⟨h3,h4⟩:=h.ok e s a w hc F vs h1
 unfold Oper.wp
 rw[h2,h3,Oper.upon_enter]
 exact h4.mono fun en w' ⟨v,he,hk⟩=>by subst he;exact hk⟩
theorem go_oneRow (hT:TOk P T) {i:Nat} {o:Oper} {l:List Bool} {f q:Nat} {R:ORow} {x:SV} {lost:Option Nat} {ob:Prop} (ho:all[i]? =some o) (hg:guardP all st o=some true) (hop:opE T c st o.op=.row q R x lost ob) (h:OutOk P Q c w0 (.row ob (.aops all (setN l i true) f::k) ((st.row q R lost).put o.dst x))):Goes P Q c w0 (.aop all i l f::k) st:=⟨fun e s a w hc F=>by
 show wpOp P all (NP (KQ P Q c k s)) i (fun a w=>SX c w∧wpL P .any all (NP (KQ P Q c k s)) (SX c) f (l.toArray.setIfInBounds i true) a w) a w
 rw[←setN_arr]
 unfold wpOp
 simp only[ho,guardP_is F hg,if_true]
 refine .inl ?_
 have hop':=opE_ok hT F o
 rw[hc,hop] at hop'
 obtain ⟨hob,h⟩:=h.ok
 obtain ⟨v,w',h1,h2⟩:=hop' hob
 obtain ⟨e',h3,h4,h5⟩:=F.rowed h2
 unfold Oper.wp
 rw[h1,Oper.upon_value]
 exact h.run e' s _ _ (h3.trans hc) (h5.put h4)⟩
theorem go_lit (d:Nat) (b:Bool) (hd:nth st.t d=some (.pt (.one (.bool b)))) (h:Goes P Q c w0 k { st with t:=setN st.t d (.pt (.one (.lit b))) }):Goes P Q c w0 k st:=⟨fun e s a w hc F=>h.run e s a w hc (F.lit (by rw[nth_eq] at hd;exact hd) rfl)⟩
theorem go_oneSkip {i:Nat} {o:Oper} {l:List Bool} {f:Nat} (ho:all[i]? =some o) (hg:guardP all st o=some false) (h:Goes P Q c w0 (.aops all (setN l i true) f::k) (st.put o.dst skipS)):Goes P Q c w0 (.aop all i l f::k) st:=⟨fun e s a w hc F=>by
 show wpOp P all (NP (KQ P Q c k s)) i (fun a w=>SX c w∧wpL P .any all (NP (KQ P Q c k s)) (SX c) f (l.toArray.setIfInBounds i true) a w) a w
 rw[←setN_arr]
 unfold wpOp
 simp only[ho,guardP_is F hg]
 exact h.run e s _ w hc (F.put (undef_is e))⟩
theorem go_planEnd (m:Nat) {l:List Bool} {f:Nat} (hm:all.size=m) (hn:l.count true=m) (hr:Region.ready .any all l.toArray=[]) (h:Goes P Q c w0 k st):Goes P Q c w0 (.aops all l f::k) st:=⟨fun e s a w hc F=>by
 have hSX:SX c w:=F.ext.xok0 hc
 refine ⟨hSX,?_⟩
 show wpL P .any all (NP (KQ P Q c k s)) (SX c) f l.toArray a w
 exact wpL_done (Q:=NP (KQ P Q c k s)) hr (fun w' hw'=>h.run e s a w' hc (F.later hw')) f⟩
end
end Go.Proofs.YtaafofmfbcnaaaaGreat
