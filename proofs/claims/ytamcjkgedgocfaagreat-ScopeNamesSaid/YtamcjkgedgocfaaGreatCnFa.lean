/- Layer 19, literals: what a literal's constraints and points are. No condition. -/
import Derived.Test.YtamcjkgedgocfaaGreatCnA
import Derived.Test.YtamcjkgedgocfaaGreatE4
import Derived.Test.YtamcjkgedgocfaaGreatV6
namespace Go.Proofs.YtamcjkgedgocfaaGreat
open Go.RowKit
set_option linter.all false
def Q7ca (T:List (List Bool)) (i j:Nat):Bool:=(T.getD i []).getD j false
section
variable {P:Program} {Q:Exit→Act→World→Prop} {c:Nat→Nat→Row} {w0:Base}
theorem Qqca {α:Type} {f:Nat} {args:List SV} {dst:Option Nat} {k:List Item} {st:St} {vs:(Nat→Value)→(Nat→Nat)→List Value} {x:α→SV} {r:α→List ORow} {G:α→Nat→Nat→Row} (K:Nat) (hv:∀S B,Qjv S B c args=some (vs S B)) (hf:∀(args:Array Value) (w:World),(callFunc f args).run P w=.ok (.enter f args) w)
 (hC:∀(w:World) (S:Nat→Value) (B:Nat→Nat),KB w0 w→XOk ⟨[],c,[]⟩ ⟨w,[]⟩→MemIs c w S B st→Calls P f (vs S B).toArray w (RetX w x r G)) (hx:∀A,(x A).rsOk=true) (hxx:∀A,(x A).noX=true) (hk:noA k=true) (hn:st.qb K=true) (hr:qbR K st.r) (hc:∀q i j,q<K→j<(c q i).n→qbL K ((c q i).el j)=true)
 (hp:∀A,Qic (r A)) (hG:∀A p i j,j<(G A p i).n→Qob ((G A p i).el j)=true)
 (h:∀(A:α),Goes P Q (Q3a c K (G A)) w0 k (({ st with r:=st.r++Qjq (r A) }:St).put dst ((x A).shR (Qyn st.r)))):OutOk P Q c w0 (.call f args dst k st):=⟨fun e s a w hce F us hu=>by
 subst hce
 rw[Qjo rfl (S:=fun q=>(e.sg[q]?).getD undef) (B:=fun k=>(e.rho[k]?).getD 0) (fun q v hq=>by simp only[hq,Option.getD_some]) (fun k b hb=>by simp only[hb,Option.getD_some]) (hv _ _) hu]
 refine ⟨hf _ _,(hC w _ _ F.blw (F.ext.xok0 rfl) (F.mem rfl)).mono fun en w' ⟨A,v,g,he,hb,hg,hX,hA⟩=>⟨v,he,?_⟩⟩
 rw[Qkc hk]
 have F1:=F.adds hb (hg.to (c':=e.chi) (hp A))
 have hq1:∀l:List ORow,Qic l→qbR K (Qjq l):=by
  intro l
  induction l with
  | nil=>intro _;trivial
  | cons R l ih=>intro h;exact ⟨fun j hj=>Q9c (h.1 j hj),ih h.2⟩
 have hq2:∀l m:List (Option ORow),qbR K l→qbR K m→qbR K (l++m):=by
  intro l m
  induction l with
  | nil=>intro _ h;exact h
  | cons R l ih=>
    intro h h'
    cases R with
    | none=>exact ih h h'
    | some R=>exact ⟨h.1,ih h.2 h'⟩
 have F2:=F1.chi (K:=K) (c':=Q3a e.chi K (G A)) (fun q i hl=>(Q4a hl).symm) hn (hq2 _ _ hr (hq1 _ (hp A))) hc (fun q i j hl hj=>by
  rw[Q2a hl] at hj⊢
  obtain ⟨b,p,f1,f2,f3,f4,vs,f5,f6⟩:=hA.ok _ _ j hj
  refine ⟨b,p,f1,f3,fun hm=>?_,fun k hk=>?_,fun q' hq=>?_,vs,Q2b (hG A _ _ j hj) f5,f6⟩
  · obtain ⟨i,hi⟩:=List.mem_iff_getElem?.1 hm
    have:=F.hi i b (F.pre i b hi);omega
  · obtain ⟨cs,_,h4⟩:=hk
    have:=F.hi k b h4;omega
  · obtain ⟨R',v',h1,h2,h3⟩:=hq
    simp only[Env.adds] at h1 h2
    have hl:=F.rows.len
    by_cases hq':q'<st.r.length
    · rw[List.getElem?_append_left hq'] at h1
      rw[List.getElem?_append_left (by omega)] at h2
      have:=F.rows.hi q' b ⟨R',v',h1,h2,h3⟩
      omega
    · rw[List.getElem?_append_right (by omega)] at h2
      exact f4 v' (List.mem_of_getElem? h2) h3) (fun q i j b p hl hj ha=>by
  rw[Q2a hl] at hj ha
  obtain ⟨b',p',f1,f2,_⟩:=hA.ok _ _ j hj
  rw[ha] at f1;cases f1
  cases hx:w0.ex b with
  | none=>rfl
  | some ob=>have:=(Array.getElem?_eq_some_iff.1 (F.ext.ex b ob hx).2.2.1).1;omega)
 have hsh:=Qj3 (e:=⟨e.rho,Q3a e.chi K (G A),e.sg⟩) (hx A) (Q9i (c':=Q3a e.chi K (G A)) (hxx A) hX)
 have hl:e.sg.length=st.r.length:=F.rows.len
 simp only[hl] at hsh
 rw[←Qyd] at hsh
 exact (h A).run ⟨e.rho,Q3a e.chi K (G A),e.sg++g⟩ s _ _ rfl (F2.put hsh)⟩
end
section
variable {Q:Exit→Act→World→Prop} {c:Nat→Nat→Row} {w0:Base}
theorem Qnca (z:Int) {pa:Int} {un:Bool} {l b:SC} {dst:Option Nat} {k:List Item} {st:St} (hv:∀S B,Qjv S B c [.pt (.agg [.int .i64 pa,.lit un,l,b])]=some [(Qxba st.h B pa un l b).val]) (hok:Qtca st.h l b=true) (hz:∀B,fchkV (Qxba st.h B pa un l b)=z) (hn:∀B,(Qxba st.h B pa un l b).ln=0) (h:Goes Tryz.prog Q c w0 k (st.put dst (ofR (.int .i64 z)))):OutOk Tryz.prog Q c w0 (.call 40 [.pt (.agg [.int .i64 pa,.lit un,l,b])] dst k st):=
 Qqba (vs:=fun S B=>[(Qxba st.h B pa un l b).val]) hv Tryz.call40 (fun w S B hk hx hM=>by
  have:=Q2p (Qxba st.h B pa un l b) w (Qfca hM hok) (fun i hi=>by rw[hn] at hi;omega)
  rw[Qdj,hz] at this;exact this) h
end
end Go.Proofs.YtamcjkgedgocfaaGreat
