/- Lemmas. No condition. -/
import Derived.Test.YtemnfncbgalljabG1
namespace Go.Proofs.Ytemnfncbgalljab
open Go.RowKit
set_option linter.all false
set_option maxHeartbeats 64000000
theorem RowIs.one {c:R9z} {w:World} {R:ORow} {v:Value} (h:RowIs c w R v) (hp:∀j,j<R.n->Qob (R.el j)=true):∃a cap,v=.slice a R.n cap/\XOk ⟨[],Q5r a R.n cap R.es R.el,[]⟩ ⟨w,[]⟩:=by
 obtain ⟨a,cap,rfl⟩:=h.form
 refine ⟨a,cap,rfl,fun q i j hj=>?_⟩
 obtain ⟨b,p,h1,h2,vs,h3,h4⟩:=h.row (c':=Q5r a R.n cap R.es R.el) hp (j:=j) hj
 exact ⟨b,p,h1,h2,by simp,vs,h3,h4⟩
theorem Qmr {L:List (Nat×Nat)} {p:Nat×Nat} {j:Nat} (hj:j<L.length) (h:L.getD j (0,0)=p):p∈L:=by
 rw[<-h];simp only[List.getD,List.getElem?_eq_getElem hj,Option.getD_some];exact List.getElem_mem hj
theorem Qfla {L:List (Nat×Nat)} {p:Nat×Nat} (h:∀j,j<L.length->L.getD j (0,0)≠p):p ∉ L:=fun hm=>by
 obtain ⟨j,hj,e⟩:=List.getElem_of_mem hm
 exact h j hj (by simp only[List.getD,List.getElem?_eq_getElem hj,Option.getD_some,e])
theorem Qgma (L:List (Nat×Nat)) (x y:Nat) (hL:L.length<=1000000) (c:R9z) (w:World) (v:Value) (hR:RowIs c w (ptR L) v):
 Calls Try.prog 48 #[v,.agg #[.int .i64 (.ofNat x),.int .i64 (.ofNat y)]] w (Ret w (.bool (decide ((x,y)∈L)))):=by
 obtain ⟨a,cap,rfl,hX⟩:=hR.one (fun j _=>rfl)
 have hin:∀j,j<L.length->L.getD j (0,0)=(x,y)->decide ((x,y)∈L)=true:=fun j hj h=>decide_eq_true (Qmr hj h)
 have hno:(∀j,j<L.length->L.getD j (0,0)≠(x,y))->decide ((x,y)∈L)=false:=fun h=>decide_eq_false (Qfla h)
 obtain ⟨n,hn⟩:=x9 (L.length)
 obtain ⟨p1,hp1⟩:=x9 (fun j=>(L.getD j (0,0)).1:N9z)
 obtain ⟨p2,hp2⟩:=x9 (fun j=>(L.getD j (0,0)).2:N9z)
 obtain ⟨z,hz⟩:=x9 (decide ((x,y)∈L))
 have hpt:ptR L=⟨n,2,fun j=>[.int .i64 (.ofNat (p1 j)),.int .i64 (.ofNat (p2 j))]⟩:=by rw[ptR,hn,hp1,hp2]
 have hin:∀j,j<n->p1 j=x->p2 j=y->z=true:=fun j hj h1 h2=>by rw[hz];exact hin j (hn▸hj) (by rw[hp1] at h1;rw[hp2] at h2;exact Prod.ext h1 h2)
 have hno:(∀j,j<n->¬(p1 j=x/\p2 j=y))->z=false:=fun h=>by
  rw[hz];refine hno fun j hj e=>h j (hn▸hj) ?_
  rw[hp1,hp2];simp only[e];exact ⟨trivial,trivial⟩
 have hn9:n<=1000000:=by rw[hn];exact hL
 rw[hpt] at hX⊢
 rw[<-hz]
 clear hpt hp1 hp2 hz hn hL hR
 refine Qaa (args:=[.pt (.one (.xs 0 0)),.pt (.agg [.int .i64 (.ofNat x),.int .i64 (.ofNat y)])]) (c:=(Q5r a n cap 2 fun j=>[.int .i64 (.ofNat (p1 j)),.int .i64 (.ofNat (p2 j))])) Try.func48 rfl hX rfl rfl ?_
 obtain ⟨nd,hnd,nt,hnt,ar,har,cm,hcm,mx,hmx,mn,hmn,ar01,ar12,zpl,hzpl,zjn,hzjn,zup,hzup,zmi,hzmi,zdp,hzdp,hT⟩:=Qca
 have hne:∀i,nd (decide (Int.ofNat x=Int.ofNat (p1 i))) (decide (Int.ofNat y=Int.ofNat (p2 i)))=false->¬(p1 i=x/\p2 i=y):=fun i h g=>by
  rw[hnd,g.1,g.2] at h;simp at h
 have heq:∀i,nd (decide (Int.ofNat x=Int.ofNat (p1 i))) (decide (Int.ofNat y=Int.ofNat (p2 i)))=true->p1 i=x/\p2 i=y:=fun i h=>by
  rw[hnd,Bool.and_eq_true] at h
  exact ⟨(Int.ofNat.inj (of_decide_eq_true h.1)).symm,(Int.ofNat.inj (of_decide_eq_true h.2)).symm⟩
 repeat' (first
  | refine goa ?_|refine go3 (fun hlt=>?_) (fun hge=>?_)|refine go2 (fun h=>?_) (fun h=>?_)|exact go0|refine goz ?_|refine Qvha ?_ ?_
  | refine Qhha Try.func64 Try.results64 Try.call64 ?_
  | ((with_reducible refine Qgha (σ:={i:Nat // i<=n/\∀j,j<i->¬(p1 j=x/\p2 j=y)}) (zs9 [4,2,9,10]) (fun x=>[zc9 8 x.1]) (fun x=>[]) (fun x=>[]) (fun x=>n - x.1) ⟨0,by omega,fun j hj=>by omega⟩ ?_ ?_);(·exact pfp Qdb);(rintro ⟨i,hi,hok⟩ mm hmm))
  | ((with_reducible refine Qfha ⟨i+1,by omega,Q3b hok (hne i y9)⟩ ?_ ?_);(·exact msr o9 y9);(·exact pfp Qdb))
  | fail)
 all_goals (refine Qtb ?_)
 · have q:=heq i y9
   rw[hin i hlt q.1 q.2,hcm]
   exact decide_eq_true (Int.natCast_nonneg i)
 · rw[hno (fun j hj=>hok j o9),hcm];rfl
def Qvd (F:GFun) (b:Nat):List Nat:=(F.jump b).leads.map Int.toNat
inductive Reach (F:GFun):Nat->Prop where
 | zero:Reach F 0
 | step {b n:Nat}:Reach F b->n∈Qvd F b->Reach F n
def Q7ja (x:(Nat->Bool)×List Nat) (n:Nat):(Nat->Bool)×List Nat:=if x.1 n=true then x else (fun j=>if j=n then true else x.1 j,x.2++[n])
def Q5b (S:B9z):Nat->Nat
 | 0=>0
 | m+1=>Q5b S m+if S m=true then 0 else 1
theorem Qfu (S:B9z):∀m,Q5b S m<=m
 | 0=>Nat.le_refl _
 | m+1=>by have:=Qfu S m;simp only[Q5b];split<;>omega
theorem Qmi {S:B9z} {n:Nat} (h:S n=false):∀m,Q5b (fun j=>if j=n then true else S j) m+(if n<m then 1 else 0)=Q5b S m
 | 0=>by simp[Q5b]
 | m+1=>by
   have ih:=Qmi h m
   simp only[Q5b]
   by_cases g:m=n
   · subst g
     rw[if_neg (Nat.lt_irrefl _)] at ih
     simp only[if_true,h,Bool.false_eq_true,if_false]
     rw[if_pos (show m<m+1 by omega)];omega
   · simp only[if_neg g]
     by_cases g2:n<m
     · rw[if_pos g2] at ih;rw[if_pos (show n<m+1 by omega)];omega
     · rw[if_neg g2] at ih;rw[if_neg (show ¬n<m+1 by omega)];omega
structure VisitOk (l:List Nat) (x y:(Nat->Bool)×List Nat):Prop where
 up:∀b,x.1 b=true->y.1 b=true
 all:∀n∈l,y.1 n=true
 old:∀b,y.1 b=true->x.1 b=true\/(b∈l/\b∈y.2)
 sub:∀b∈x.2,b∈y.2
 new:∀b∈y.2,b∈x.2\/b∈l
theorem Q1ka:∀(l:List Nat) (x:(Nat->Bool)×List Nat),VisitOk l x (l.foldl Q7ja x)
 | [],x=>⟨fun _ h=>h,fun n h=>by simp at h,fun _ h=>.inl h,fun _ h=>h,fun _ h=>.inl h⟩
 | n::l,x=>by
   have ih:=Q1ka l (Q7ja x n)
   rw[List.foldl_cons]
   by_cases h:x.1 n=true
   · have e:Q7ja x n=x:=by unfold Q7ja;rw[if_pos h]
     rw[e] at ih⊢
     refine ⟨ih.up,fun m hm=>?_,fun b hb=>?_,ih.sub,fun b hb=>(ih.new b hb).imp id (List.mem_cons_of_mem _)⟩
     · rcases List.mem_cons.1 hm with rfl|hm
       · exact ih.up _ h
       · exact ih.all m hm
     · rcases ih.old b hb with h|⟨h1,h2⟩
       · exact .inl h
       · exact .inr ⟨List.mem_cons_of_mem _ h1,h2⟩
   · have e:Q7ja x n=(fun j=>if j=n then true else x.1 j,x.2++[n]):=by unfold Q7ja;rw[if_neg h]
     rw[e] at ih⊢
     refine ⟨fun b hb=>ih.up b ?_,fun m hm=>?_,fun b hb=>?_,fun b hb=>ih.sub b (by simp[hb]),fun b hb=>?_⟩
     · show (if b=n then true else x.1 b)=true
       split
       · rfl
       · exact hb
     · rcases List.mem_cons.1 hm with rfl|hm
       · exact ih.up m (by simp)
       · exact ih.all m hm
     · rcases ih.old b hb with g|⟨h1,h2⟩
       · simp only at g
         split at g
         · rename_i e;subst e;exact .inr ⟨by simp,ih.sub _ (by simp)⟩
         · exact .inl g
       · exact .inr ⟨List.mem_cons_of_mem _ h1,h2⟩
     · rcases ih.new b hb with g|g
       · simp only[List.mem_append,List.mem_singleton] at g
         rcases g with g|rfl
         · exact .inl g
         · exact .inr (by simp)
       · exact .inr (List.mem_cons_of_mem _ g)
theorem Qfka (m:Nat):∀(l:List Nat) (x:(Nat->Bool)×List Nat),(∀n∈l,n<m)->Q5b (l.foldl Q7ja x).1 m+(l.foldl Q7ja x).2.length=Q5b x.1 m+x.2.length
 | [],x,_=>rfl
 | n::l,x,h=>by
   rw[List.foldl_cons,Qfka m l _ (fun k hk=>h k (List.mem_cons_of_mem _ hk))]
   unfold Q7ja
   split
   · rfl
   · rename_i g
     have hn:=h n List.mem_cons_self
     have:=Qmi (S:=x.1) (n:=n) (by simpa using g) m
     rw[if_pos hn] at this
     simp only[List.length_append,List.length_cons,List.length_nil]
     omega
structure RInv (F:GFun) (S:B9z) (T:List Nat):Prop where
 z:S 0=true
 r:∀b,S b=true->Reach F b/\b<F.bn
 t:∀b∈T,S b=true
 c:∀b,S b=true->b∈T\/∀n∈Qvd F b,S n=true
 m:Q5b S F.bn+T.length<=F.bn
theorem Qbma (F:GFun) (h:0<F.bn):RInv F (fun j=>decide (j=0)) [0]:=by
 refine ⟨by simp,fun b hb=>?_,fun b hb=>by simpa using hb,fun b hb=>?_,?_⟩
 · have:b=0:=of_decide_eq_true hb
   subst this;exact ⟨.zero,h⟩
 · have:b=0:=of_decide_eq_true hb
   subst this;exact .inl (by simp)
 · have:=Qmi (S:=fun _=>false) (n:=0) rfl F.bn
   rw[if_pos h] at this
   have e:Q5b (fun j=>decide (j=0)) F.bn=Q5b (fun j=>if j=0 then true else false) F.bn:=by
    congr 1
   have h2:=Qfu (fun _=>false) F.bn
   rw[e]
   simp only[List.length_cons,List.length_nil]
   omega
theorem Qqma {F:GFun} {S:B9z} {b:Nat} {T:List Nat} (h:RInv F S (b::T)) (hl:∀n∈Qvd F b,n<F.bn):RInv F ((Qvd F b).foldl Q7ja (S,T)).1 ((Qvd F b).foldl Q7ja (S,T)).2:=by
 have hv:=Q1ka (Qvd F b) (S,T)
 have hs:=Qfka F.bn (Qvd F b) (S,T) hl
 refine ⟨hv.up 0 h.z,fun n hn=>?_,fun n hn=>?_,fun n hn=>?_,?_⟩
 · rcases hv.old n hn with g|⟨g,_⟩
   · exact h.r n g
   · exact ⟨.step (h.r b (h.t b List.mem_cons_self)).1 g,hl n g⟩
 · rcases hv.new n hn with g|g
   · exact hv.up n (h.t n (List.mem_cons_of_mem _ g))
   · exact hv.all n g
 · rcases hv.old n hn with g|⟨_,g⟩
   · rcases h.c n g with g|g
     · rcases List.mem_cons.1 g with rfl|g
       · exact .inr hv.all
       · exact .inl (hv.sub n g)
     · exact .inr fun k hk=>hv.up k (g k hk)
   · exact .inl g
 · have:=h.m
   simp only[List.length_cons] at this
   simp only at hs
   omega
theorem Q6ma {F : GFun} {S : Nat -> Bool} (h : RInv F S []) (b : Nat) : S b = true ↔ Reach F b := by
  refine ⟨fun hb => (h.r b hb).1, fun hb => ?_⟩
  induction hb with
  | zero => exact h.z
  | step _ hn ih => rcases h.c _ ih with g | g
                    · simp at g
                    · exact g _ hn
open Classical in
noncomputable def Q5ja (F:GFun) (b:Nat):Bool:=decide (Reach F b)
theorem Q6ja {F:GFun} {b:Nat}:Q5ja F b=true↔Reach F b:=by unfold Q5ja;simp
theorem Qyna {F:GFun} {S:B9z} (h:RInv F S []) (b:Nat):S b=Q5ja F b:=by
 have h1:=Q6ma h b
 have h2:=Q6ja (F:=F) (b:=b)
 cases hs:S b<;>cases hr:Q5ja F b<;>simp_all
theorem Reach.lt {F:GFun} (hO:F.Ok) (hp:0<F.bn) {b:Nat} (h:Reach F b):b<F.bn:=by
 induction h with
 | zero=>exact hp
 | @step b n _ hn ih=>
   obtain ⟨m,hm,rfl⟩:=List.mem_map.1 hn
   have:=hO.lead ih m hm
   omega
section
set_option maxRecDepth 100000
def Qol (F:GFun) (b i:Int):Bool:=decide (0<=b)&&(decide (b<F.bn)&&(decide (0<=i)&&decide (i<=F.sn b.toNat)))
theorem Q78 (F:GFun) (w:World) (hF:F.At w) (b i:Int):
 Calls Try.prog 49 #[F.val,.agg #[.int .i64 b,.int .i64 i]] w (Ret w (.bool (Qol F b i))):=by
 obtain ⟨z,hz⟩:=x9 (Qol F b i)
 rw[<-hz]
 unfold Qol at hz
 by_cases hneg:0<=b
 · obtain ⟨n,rfl⟩:∃n:Nat,b=.ofNat n:=⟨b.toNat,by simp only[Int.ofNat_eq_natCast];omega⟩
   obtain ⟨pa,un,lA,ln,lc,lk,lt,bA,bn,bc,sA,sn,sc,s,jA,jn,jc,ja,jk,jo,jf,jx,je,jd⟩:=F
   obtain ⟨hX,hl,hb,hs,hj⟩:=hF
   simp only at hl hb hs hj
   simp only[Int.ofNat_eq_natCast,Int.toNat_natCast] at hz
   refine Qaa (args:=[.pt (.agg (GFun.dat _)),.pt (.agg [.int .i64 (.ofNat n),.int .i64 i])]) (c:=(Qwa _)) Try.func49 rfl hX rfl rfl ?_
   obtain ⟨nd,hnd,nt,hnt,ar,har,cm,hcm,mx,hmx,mn,hmn,ar01,ar12,zpl,hzpl,zjn,hzjn,zup,hzup,zmi,hzmi,zdp,hzdp,hT⟩:=Qca
   have hl2:cm .lss (.ofNat n) (.ofNat bn)=true->n<bn:=fun h=>by rw[hcm] at h;have:=of_decide_eq_true h;simp only[Int.ofNat_eq_natCast] at this;omega
   have q0:cm .geq (.ofNat n) 0=true:=by rw[hcm];exact decide_eq_true hneg
   repeat' (first
    | refine goa ?_|refine go3 (fun hlt=>?_) (fun hge=>?_)|refine go2 (fun h=>?_) (fun h=>?_)|refine god ?_|refine gof ?_
    | fail)
   all_goals (refine Qtb ?_;rw[hz];clear hX hT hz hl2 hl hb hs hj ar01 ar12 q0;try subst hcm hnd hnt)
   all_goals simp only[rCm,Int.ofNat_eq_natCast,decide_eq_true_eq,decide_eq_false_iff_not] at *
   all_goals grind
 · skip
   obtain ⟨pa,un,lA,ln,lc,lk,lt,bA,bn,bc,sA,sn,sc,s,jA,jn,jc,ja,jk,jo,jf,jx,je,jd⟩:=F
   obtain ⟨hX,hl,hb,hs,hj⟩:=hF
   simp only at hl hb hs hj
   simp only at hz
   refine Qaa (args:=[.pt (.agg (GFun.dat _)),.pt (.agg [.int .i64 b,.int .i64 i])]) (c:=(Qwa _)) Try.func49 rfl hX rfl rfl ?_
   obtain ⟨nd,hnd,nt,hnt,ar,har,cm,hcm,mx,hmx,mn,hmn,ar01,ar12,zpl,hzpl,zjn,hzjn,zup,hzup,zmi,hzmi,zdp,hzdp,hT⟩:=Qca
   have q0:cm .geq b 0=false:=by rw[hcm];exact decide_eq_false hneg
   repeat' (first
    | refine goa ?_|refine god ?_
    | fail)
   all_goals (refine Qtb ?_;rw[hz,decide_eq_false hneg];rfl)
theorem Qbu {F:GFun} {b i:Nat} (hb:b<F.bn) (hi:i<=F.sn b):Qol F b i=true:=by
 simp only[Qol,Bool.and_eq_true,decide_eq_true_eq]
 exact ⟨by omega,by omega,by omega,by simp only[Int.toNat_natCast];omega⟩
theorem Qk2 (F:GFun) (w:World) (hF:F.At w) (hO:F.Ok) (b i:Int):
 Calls Try.prog 31 #[F.val,.agg #[.int .i64 b,.int .i64 i]] w (Ret w (.int .i64 (if Qol F b i then 0 else 2))):=by
 have h1 wc (hk:KB ⟨w,[]⟩ wc):=hO.chk wc (hF.later hk)
 have h2 wc (hk:KB ⟨w,[]⟩ wc):=Q78 F wc (hF.later hk) b i
 obtain ⟨z,hz⟩:=x9 (Qol F b i)
 rw[<-hz] at h2⊢
 clear hz hO
 obtain ⟨pa,un,lA,ln,lc,lk,lt,bA,bn,bc,sA,sn,sc,s,jA,jn,jc,ja,jk,jo,jf,jx,je,jd⟩:=F
 obtain ⟨hX,hl,hb,hs,hj⟩:=hF
 simp only at hl hb hs hj
 refine Qaa (args:=[.pt (.agg (GFun.dat _)),.pt (.agg [.int .i64 b,.int .i64 i])]) (c:=(Qwa _)) Try.func31 rfl hX rfl rfl ?_
 obtain ⟨nd,hnd,nt,hnt,ar,har,cm,hcm,mx,hmx,mn,hmn,ar01,ar12,zpl,hzpl,zjn,hzjn,zup,hzup,zmi,hzmi,zdp,hzdp,hT⟩:=Qca
 repeat' (first
  | refine goa ?_|refine go2 (fun h=>?_) (fun h=>?_)
  | (refine' Qiha Try.call35 ?_ ?_;rotate_left;(·intro wc hbc hxc;exact h1 wc hbc))
  | ((with_reducible apply Qua (hf:=Try.call49));(·(cbv;try rfl));(·intro wc hbc hxc;exact h2 wc hbc);intro z hz)
  | fail)
 all_goals (refine Qyc ?_;simp_all)
theorem Qf5 {F:GFun} {b i h:Nat} (hb:b<F.bn) (hi:i<=F.sn b) (hh:h<stN F.sn F.bn):(pbN F h<b\/(pbN F h=b/\piN F h<i))↔h<stN F.sn b+i:=by
 obtain ⟨h1,h2,h3⟩:=Qoc hh
 generalize pbN F h=x at h1 h2 h3⊢
 generalize piN F h=y at h2 h3⊢
 subst h3
 rcases Nat.lt_trichotomy x b with g|g|g
 · have:=Qfg (sn:=F.sn) (show x+1<=b from g)
   simp only[stN] at this
   exact ⟨fun _=>by omega,fun _=>.inl g⟩
 · subst g
   exact ⟨fun k=>by rcases k with k|k<;>omega,fun k=>.inr ⟨rfl,by omega⟩⟩
 · have:=Qfg (sn:=F.sn) (show b+1<=x from g)
   simp only[stN] at this
   exact ⟨fun k=>by omega,fun k=>by omega⟩
def Qs5 (x1 x2 y1 y2:Nat):Int:=if x1=y1 then (x2:Int) - y2 else (x1:Int) - y1
theorem Qn8 (x1 x2 y1 y2:Nat) (w:World) (h1:x1<1000) (h2:x2<1000) (h3:y1<1000) (h4:y2<1000):
 Calls Try.prog 34 #[.agg #[.int .i64 (.ofNat x1),.int .i64 (.ofNat x2)],.agg #[.int .i64 (.ofNat y1),.int .i64 (.ofNat y2)]] w (Ret w (.int .i64 (Qs5 x1 x2 y1 y2))):=by
 obtain ⟨z,hz⟩:=x9 (Qs5 x1 x2 y1 y2)
 rw[<-hz]
 unfold Qs5 at hz
 refine Qaa (args:=[.pt (.agg [.int .i64 (.ofNat x1),.int .i64 (.ofNat x2)]),.pt (.agg [.int .i64 (.ofNat y1),.int .i64 (.ofNat y2)])]) (c:=Qra) Try.func34 rfl (Qga _) rfl rfl ?_
 obtain ⟨nd,hnd,nt,hnt,ar,har,cm,hcm,mx,hmx,mn,hmn,ar01,ar12,zpl,hzpl,zjn,hzjn,zup,hzup,zmi,hzmi,zdp,hzdp,hT⟩:=Qca
 have hsb:∀x y:Nat,x<1000->y<1000->ar .sub .i64 (.ofNat x) (.ofNat y)=(x:Int) - y:=fun x y h1 h2=>by
  rw[har];exact Go.IntWalk.i64_in _ (by simp only[Int.ofNat_eq_natCast];omega)
 repeat' (first
  | (refine gov ?_;(try simp only[ar01,ar12]))
  | refine goa ?_|refine go2 (fun h=>?_) (fun h=>?_)|refine gof ?_
  | refine Qhha Try.func50 Try.results50 Try.call50 ?_
  | (with_reducible apply Qqa 3)
  | fail)
 all_goals
  refine Qyc ?_
  simp only[hsb x1 y1 h1 h3,hsb x2 y2 h2 h4,decide_eq_true_eq,decide_eq_false_iff_not] at *
  rw[hz]
  split<;>omega
theorem Qcy (F:GFun) (w:World) (hF:F.At w) (hO:F.Ok) (b i:Nat) (hbb:b<F.bn) (hii:i<=F.sn b):
 Calls Try.prog 9 #[F.val,.agg #[.int .i64 (.ofNat b),.int .i64 (.ofNat i)]] w (Ret w (.tuple #[.int .i64 (.ofNat (stN F.sn b+i)),.int .i64 0])):=by
 have h1 wc (hk:KB ⟨w,[]⟩ wc):=Qk2 F wc (hF.later hk) hO b i
 have e:=Qbu hbb hii
 simp only[Int.ofNat_eq_natCast] at *
 rw[e] at h1
 have h2 wc (hk:KB ⟨w,[]⟩ wc):=Q9aa F wc (hF.later hk) hO.small.s hO.small.b
 have hlex0:=fun h=>Qf5 (F:=F) (h:=h) hbb hii
 have hN9:=hO.pts
 have hKN:=Q9t hbb hii
 obtain ⟨N,hN⟩:=x9 (stN F.sn F.bn)
 obtain ⟨K,hK⟩:=x9 (stN F.sn b+i)
 obtain ⟨pb,hpb⟩:=x9 (pbN F:N9z)
 obtain ⟨pi,hpi⟩:=x9 (piN F:N9z)
 have hR:ptR (Qgb F.sn F.bn)=⟨N,2,fun j=>[.int .i64 (.ofNat (pb j)),.int .i64 (.ofNat (pi j))]⟩:=by rw[ptR,Q6b,hN,hpb,hpi];rfl
 rw[hR] at h2
 rw[<-hN,<-hK] at hKN
 rw[<-hN] at hN9
 have hlex:∀h,h<N->((pb h<b\/(pb h=b/\pi h<i))↔h<K):=fun h hh=>by rw[hpb,hpi,hK];exact hlex0 h (hN▸hh)
 have hbs:∀h,h<N->pb h<1000/\pi h<1000:=fun h hh=>by
  obtain ⟨g1,g2,_⟩:=Qoc (F:=F) (n:=h) (hN▸hh)
  rw[hpb,hpi]
  have:=hO.bn24;have:=hO.sn24 g1
  exact ⟨by omega,by omega⟩
 have hb9:b<1000:=by have:=hO.bn24;omega
 have hi9:i<1000:=by have:=hO.sn24 hbb;omega
 rw[<-hK]
 obtain ⟨od,hod⟩:=x9 (fun m=>Qs5 (pb m) (pi m) b i:I9z)
 have ho (wc:World) (m:Nat) (hm:m<N):=Qn8 (pb m) (pi m) b i wc (hbs m hm).1 (hbs m hm).2 hb9 hi9
 have hlt0:∀m,m<N->(od m<0↔m<K):=fun m hm=>by
  rw[<-hlex m hm,hod]
  show Qs5 (pb m) (pi m) b i<0↔_
  unfold Qs5
  split<;>omega
 have hoe:∀m,Qs5 (pb m) (pi m) b i=od m:=fun m=>by rw[hod]
 simp only[hoe] at ho
 clear hR hpb hpi hK hN hO e hlex0 hod hlex hbs hoe
 obtain ⟨pa,un,lA,ln,lc,lk,lt,bA,bn,bc,sA,sn,sc,s,jA,jn,jc,ja,jk,jo,jf,jx,je,jd⟩:=F
 obtain ⟨hX,hl,hb,hs,hj⟩:=hF
 simp only at hl hb hs hj
 simp only at hbb hii h1 h2
 refine Qaa (args:=[.pt (.agg (GFun.dat _)),.pt (.agg [.int .i64 (.ofNat b),.int .i64 (.ofNat i)])]) (c:=(Qwa _)) Try.func9 rfl hX rfl rfl ?_
 obtain ⟨nd,hnd,nt,hnt,ar,har,cm,hcm,mx,hmx,mn,hmn,ar01,ar12,zpl,hzpl,zjn,hzjn,zup,hzup,zmi,hzmi,zdp,hzdp,hT⟩:=Qca
 obtain ⟨md,hmd⟩:=x9 (fun u v=>(u+v) / 2:Nat->Nat->Nat)
 have hm1:∀u v,u<v->u<=md u v/\md u v<v:=fun u v h=>by rw[hmd];show u<=(u+v) / 2/\(u+v) / 2<v;omega
 have hmN:∀u v,u<v->v<=N->md u v<N:=fun u v h1 h2=>by have:=(hm1 u v h1).2;omega
 have hmid:∀u v,u<=1000->v<=1000->ar .quo .i64 (ar .shr .u64 (ar .quo .u64 (ar .add .i64 (.ofNat u) (.ofNat v)) 0) 1) 0=.ofNat (md u v):=fun u v h1 h2=>by
  rw[Qoq har o9,har,hmd]
  show IntKind.i64.wrap ((IntKind.u64.wrap ((u+v:Nat):Int)).fdiv (2 ^ (min (1:Int).toNat 64)))=(((u+v) / 2:Nat):Int)
  have e1:IntKind.u64.wrap ((u+v:Nat):Int)=((u+v:Nat):Int):=Int.emod_eq_of_lt o9 (by show _<(18446744073709551616:Int);omega)
  rw[e1]
  have e2:(((u+v:Nat):Int)).fdiv (2 ^ (min (1:Int).toNat 64))=(((u+v) / 2:Nat):Int):=by
   show (((u+v:Nat):Int)).fdiv 2=_
   rw[Int.fdiv_eq_ediv_of_nonneg _ o9];omega
  rw[e2,Go.IntWalk.i64_in _ o9]
 have hA:∀(z:Int) m,m<N->z=od m->cm .lss z 0=true->m<K:=fun z m hm hz h=>by
  rw[hcm] at h;have:=of_decide_eq_true h;rw[hz] at this;exact (hlt0 m hm).1 this
 have hB:∀(z:Int) m,m<N->z=od m->cm .lss z 0=false->K<=m:=fun z m hm hz h=>by
  rw[hcm] at h;have:=of_decide_eq_false h;rw[hz] at this
  exact Nat.le_of_not_lt fun g=>this ((hlt0 m hm).2 g)
 clear hlt0
 repeat' (first
  | refine goa ?_|refine go3 (fun hlt=>?_) (fun hge=>?_)|refine go2 (fun h=>?_) (fun h=>?_)|exact go0|refine gof ?_|refine Qvha ?_ ?_
  | (refine' Qiha Try.call31 ?_ ?_;rotate_left;(·intro wc hbc hxc;exact h1 wc hbc))
  | ((with_reducible apply Qoa (hf:=Try.call33));(·intro S;cbv;try rfl);(·intro wc S hbc hxc hrc;exact h2 wc hbc);(·rfl))
  | refine Qhha Try.func32 Try.results32 Try.call32 ?_
  | ((with_reducible refine Qgha (σ:={x:Nat×Nat // x.1<=K/\K<=x.2/\x.2<=N}) (zs9 [11,1,15,20]) (fun x=>[(9,.pt (.one (.int .i64 (.ofNat x.1.1)))),(10,.pt (.one (.int .i64 (.ofNat x.1.2))))]) (fun x=>[]) (fun x=>[]) (fun x=>x.1.2 - x.1.1) ⟨(0,N),by omega,by omega,by omega⟩ ?_ ?_);(·exact pfp Qdb);(rintro ⟨⟨u,v⟩,hu,hv,hvN⟩ mm hmm))
  | ((rw[hmid u v (by have hu':u<=K:=hu;omega) (by have hv':v<=N:=hvN;omega)]))
  | (((with_reducible apply Qbn (id:=5));(·rfl);(·kernel_rfl);(·kernel_rfl)))
  | (((with_reducible apply Qbn (id:=8));(·rfl);(·kernel_rfl);(·kernel_rfl)))
  | (((with_reducible apply Q4d);(·kernel_rfl)))
  | ((with_reducible apply Q4f (hf:=Try.call34));(·(cbv;try rfl));(·intro wc hbc hxc;exact ho wc _ (by first|exact hmN u v y9 hvN|assumption));intro z hz)
  | (((with_reducible apply Qxa);(·exact Int.natCast_nonneg _);(·exact Int.ofNat_lt.2 (by first|exact hmN u v y9 hvN|assumption))))
  | ((have hmK:md u v<K:=hA _ _ (hmN u v hlt hvN) hz h;(with_reducible refine Qma (⟨(md u v+1,v),Nat.succ_le_of_lt hmK,hv,hvN⟩:{x:Nat×Nat // x.1<=K/\K<=x.2/\x.2<=N}) ?_ ?_ ?_ ?_);(·exact Nat.lt_of_lt_of_eq (show v - (md u v+1)<v - u from by have:=hm1 u v hlt;omega) (Eq.symm y9));(·(refine Q8c ?_ ?_ ?_ ?_<;>(cbv;(try simp only[true_and,and_true]);(try ((repeat' apply And.intro)<;>(first|trivial|rfl|exact RowLe.rfl' _|(rw[Qda har _ o9])))))));(·(cbv;try rfl));(·simp)))
  | ((have hmK:K<=md u v:=hB _ _ (hmN u v hlt hvN) hz h;(with_reducible refine Qma (⟨(u,md u v),hu,hmK,Nat.le_of_lt (hmN u v hlt hvN)⟩:{x:Nat×Nat // x.1<=K/\K<=x.2/\x.2<=N}) ?_ ?_ ?_ ?_);(·exact Nat.lt_of_lt_of_eq (show md u v - u<v - u from by have:=hm1 u v hlt;omega) (Eq.symm y9));(·(refine Q8c ?_ ?_ ?_ ?_<;>(cbv;(try simp only[true_and,and_true]);(try ((repeat' apply And.intro)<;>(first|trivial|rfl|exact RowLe.rfl' _|(rw[Qda har _ o9])))))));(·(cbv;try rfl));(·simp)))
  | fail)
 all_goals
  have hu':u<=K:=hu
  have hv':K<=v:=hv
  have huK:u=K:=by omega
  subst huK
  rfl
end
section
set_option maxRecDepth 100000
theorem Q12 (F:GFun) (w:World) (hF:F.At w) (hO:F.Ok) (b i:Nat) (hbb:b<F.bn) (hii:i<=F.sn b):
 Calls Try.prog 28 #[F.val,.agg #[.int .i64 (.ofNat b),.int .i64 (.ofNat i)]] w (RetR w (Qwa F) (.tup [.one (.rs 0),.one (.int .i64 0)]) [ptR (Qgd F b i)]):=by
 have h1 wc (hk:KB ⟨w,[]⟩ wc):=Qk2 F wc (hF.later hk) hO b i
 have e:=Qbu hbb hii
 simp only[Int.ofNat_eq_natCast] at *
 rw[e] at h1
 have h2 wc (hk:KB ⟨w,[]⟩ wc):=Qoaa F wc (hF.later hk) hO b i hbb hii
 obtain ⟨R,hR⟩:=x9 (ptR (Qgd F b i))
 rw[<-hR] at h2⊢
 clear e hO hR
 obtain ⟨pa,un,lA,ln,lc,lk,lt,bA,bn,bc,sA,sn,sc,s,jA,jn,jc,ja,jk,jo,jf,jx,je,jd⟩:=F
 obtain ⟨hX,hl,hb,hs,hj⟩:=hF
 simp only at hl hb hs hj
 simp only at h1 h2
 refine Qaa (args:=[.pt (.agg (GFun.dat _)),.pt (.agg [.int .i64 (.ofNat b),.int .i64 (.ofNat i)])]) (c:=(Qwa _)) Try.func28 rfl hX rfl rfl ?_
 obtain ⟨nd,hnd,nt,hnt,ar,har,cm,hcm,mx,hmx,mn,hmn,ar01,ar12,zpl,hzpl,zjn,hzjn,zup,hzup,zmi,hzmi,zdp,hzdp,hT⟩:=Qca
 repeat' (first
  | refine goa ?_|exact go0
  | (refine' Qiha Try.call31 ?_ ?_;rotate_left;(·intro wc hbc hxc;exact h1 wc hbc))
  | ((with_reducible apply Qoa (hf:=Try.call47));(·intro S;cbv;try rfl);(·intro wc S hbc hxc hrc;exact h2 wc hbc);(·rfl))
  | fail)
theorem Q4h {F:GFun} {b i:Nat}:(Qgd F b i).length<=2:=by
 unfold Qgd
 split
 · simp
 · rw[List.length_map]
   have h1:(F.jump b).leads.length<=2:=by
    unfold GJump.leads
    split
    · simp
    · split<;>simp
   have h2:∀l:List Int,l.length<=2->(Qdo l).length<=2:=fun l h=>by
    unfold Qdo
    split
    · split<;>simp
    · exact h
   exact h2 _ h1
def Qbna (F:GFun) (p:Nat×Nat):Nat->List (Nat×Nat)
 | 0=>[]
 | n+1=>Qbna F p n++if decide (p∈Qgd F (pbN F n) (piN F n))=true then [(pbN F n,piN F n)] else []
theorem Qxla (F:GFun) (p:Nat×Nat):∀n,(Qbna F p n).length<=n
 | 0=>Nat.le_refl _
 | n+1=>by
   have:=Qxla F p n
   simp only[Qbna,List.length_append]
   split<;>simp<;>omega
theorem Q4la {p:Prop} (h:p:=by (first|((try with_reducible refine Q8c ?_ ?_ ?_ ?_);all_goals (cbv;(try simp only[true_and,and_true]);(try ((repeat' apply And.intro)<;>(first|trivial|rfl|exact RowLe.rfl' _|decide|(rw[Qda har _ o9];done)|((refine Q0a (by rw[x0,hln];rfl) (fun j hj=>absurd hj (Nat.not_lt_zero _))))|((exact hj1 a y9))|((rw[x2 a y9];exact RowLe.rfl' _))|((have haN:a=N:=o9;subst haN;exact RowLe.rfl' _))|fail))));done)|fail)):Pf p:=⟨h⟩
theorem Qkna (F:GFun) (w:World) (hF:F.At w) (hO:F.Ok) (b i:Nat) (hbb:b<F.bn) (hii:i<=F.sn b):
 Calls Try.prog 29 #[F.val,.agg #[.int .i64 (.ofNat b),.int .i64 (.ofNat i)]] w (RetR w (Qwa F) (.tup [.one (.rs 0),.one (.int .i64 0)]) [ptR (Qbna F (b,i) (stN F.sn F.bn))]):=by
 have h1 wc (hk:KB ⟨w,[]⟩ wc):=Qk2 F wc (hF.later hk) hO b i
 have e:=Qbu hbb hii
 simp only[Int.ofNat_eq_natCast] at *
 rw[e] at h1
 have h2 wc (hk:KB ⟨w,[]⟩ wc):=Q9aa F wc (hF.later hk) hO.small.s hO.small.b
 have h30 wc (hk:KB ⟨w,[]⟩ wc) (a:Nat) (ha:a<stN F.sn F.bn):=Qoaa F wc (hF.later hk) hO (pbN F a) (piN F a) (Qoc ha).1 (Qoc ha).2.1
 have h40 (wc:World) (a:Nat) (v:Value) (c:R9z):=Qgma (Qgd F (pbN F a) (piN F a)) b i (Nat.le_trans Q4h (by decide)) c wc v
 have hN9:=hO.pts
 obtain ⟨N,hN⟩:=x9 (stN F.sn F.bn)
 obtain ⟨zb,hzb⟩:=x9 (fun a=>decide ((b,i)∈Qgd F (pbN F a) (piN F a)):B9z)
 obtain ⟨X,hXX⟩:=x9 (Qbna F (b,i):Nat->List (Nat×Nat))
 obtain ⟨NR,hNR⟩:=x9 (fun a=>ptR (Qgd F (pbN F a) (piN F a)):Nat->ORow)
 have h3 wc (hk:KB ⟨w,[]⟩ wc) (a:Nat) (ha:a<N):Calls Try.prog 47 #[F.val,.agg #[.int .i64 (.ofNat (pbN F a)),.int .i64 (.ofNat (piN F a))]] wc (RetR wc (Qwa F) (.pt (.one (.rs 0))) [NR a]):=by rw[hNR];exact h30 wc hk a (hN▸ha)
 have h4 (wc:World) (a:Nat) (v:Value) (c:R9z) (h:RowIs c wc (NR a) v):Calls Try.prog 48 #[v,.agg #[.int .i64 (.ofNat b),.int .i64 (.ofNat i)]] wc (Ret wc (.bool (zb a))):=by
  rw[hzb];rw[hNR] at h;exact h40 wc a v c h
 have x0:X 0=[]:=by rw[hXX];rfl
 have x1:∀a,zb a=true->X (a+1)=X a++[(pbN F a,piN F a)]:=fun a h=>by rw[hXX];rw[hzb] at h;simp only[Qbna];rw[if_pos h]
 have x2:∀a,zb a=false->X (a+1)=X a:=fun a h=>by rw[hXX];rw[hzb] at h;simp only[Qbna];rw[if_neg (by simpa using h)];simp
 have xl:∀a,(X a).length<=a:=fun a=>by rw[hXX];exact Qxla F _ a
 obtain ⟨pb,hpb⟩:=x9 (pbN F:N9z)
 obtain ⟨pi,hpi⟩:=x9 (piN F:N9z)
 have hR:ptR (Qgb F.sn F.bn)=⟨N,2,fun j=>[.int .i64 (.ofNat (pb j)),.int .i64 (.ofNat (pi j))]⟩:=by rw[ptR,Q6b,hN,hpb,hpi];rfl
 rw[hR] at h2
 simp only[<-hpb,<-hpi] at h3 x1
 rw[<-hN] at hN9⊢
 rw[<-hXX]
 obtain ⟨ln_,hln⟩:=x9 (List.length:List (Nat×Nat)->Nat)
 obtain ⟨p1,hp1⟩:=x9 (fun L j=>Int.ofNat (L.getD j (0,0)).1:List (Nat×Nat)->Nat->Int)
 obtain ⟨p2,hp2⟩:=x9 (fun L j=>Int.ofNat (L.getD j (0,0)).2:List (Nat×Nat)->Nat->Int)
 have hRX:∀L,ptR L=⟨ln_ L,2,fun j=>[.int .i64 (p1 L j),.int .i64 (p2 L j)]⟩:=fun L=>by rw[ptR,hln,hp1,hp2]
 rw[hRX]
 have xl:∀a,ln_ (X a)<=a:=fun a=>by rw[hln];exact xl a
 clear h30 h40 hR hN hzb hXX hNR hpb hpi hO e hRX
 obtain ⟨pa,un,lA,ln,lc,lk,lt,bA,bn,bc,sA,sn,sc,s,jA,jn,jc,ja,jk,jo,jf,jx,je,jd⟩:=F
 obtain ⟨hX,hl,hb,hs,hj⟩:=hF
 simp only at hl hb hs hj
 simp only at h1 h2 h3
 refine Qaa (args:=[.pt (.agg (GFun.dat _)),.pt (.agg [.int .i64 (.ofNat b),.int .i64 (.ofNat i)])]) (c:=(Qwa _)) Try.func29 rfl hX rfl rfl ?_
 obtain ⟨nd,hnd,nt,hnt,ar,har,cm,hcm,mx,hmx,mn,hmn,ar01,ar12,zpl,hzpl,zjn,hzjn,zup,hzup,zmi,hzmi,zdp,hzdp,hT⟩:=Qca
 have hj1:∀a,zb a=true->RowLe ⟨zpl (ln_ (X a)) 1,2,zjn (ln_ (X a)) (fun j=>[.int .i64 (p1 (X a) j),.int .i64 (p2 (X a) j)]) (fun j=>Qte [.int .i64 (.ofNat (pb a)),.int .i64 (.ofNat (pi a))] (0+j * 2) 2)⟩ ⟨ln_ (X (a+1)),2,fun j=>[.int .i64 (p1 (X (a+1)) j),.int .i64 (p2 (X (a+1)) j)]⟩:=fun a h=>by
  rw[x1 a h]
  refine Q7a hzpl hzjn (by rw[hln];simp) (fun j hj=>⟨⟨rfl,?_⟩,⟨rfl,?_⟩,trivial⟩) ⟨⟨rfl,?_⟩,⟨rfl,?_⟩,trivial⟩
  · rw[hp1];rw[hln] at hj;simp only[Qkw _ _ _ _ hj]
  · rw[hp2];rw[hln] at hj;simp only[Qkw _ _ _ _ hj]
  · rw[hp1,hln];simp only[Qms]
  · rw[hp2,hln];simp only[Qms]
 repeat' (first
  | refine goa ?_|refine go3 (fun hlt=>?_) (fun hge=>?_)|refine go2 (fun h=>?_) (fun h=>?_)|exact go0|refine gof ?_|refine Qvha ?_ ?_
  | ((first|with_reducible apply Qhb hT|with_reducible apply Qna hT);(·(cbv;try rfl));(·(cbv;try rfl));(·exact Q4la);(·exact Q4la);(·rfl))
  | refine gob ?_
  | ((with_reducible refine Q4c ?_ ?_);(·first|((rw[hzpl];exact Nat.le_trans (Nat.add_le_add_right (xl a) 1) (show a+1<=1073741824 from by omega)))))
  | (refine' Qiha Try.call31 ?_ ?_;rotate_left;(·intro wc hbc hxc;exact h1 wc hbc))
  | ((with_reducible apply Qoa (hf:=Try.call33));(·intro S;cbv;try rfl);(·intro wc S hbc hxc hrc;exact h2 wc hbc);(·rfl))
  | ((with_reducible apply Qud 7 2);(·(cbv;try rfl)))
  | (((with_reducible apply Q4d);(·kernel_rfl)))
  | ((with_reducible apply Qoa (hf:=Try.call47));(·intro S;cbv;try rfl);(·intro wc S hbc hxc hrc;exact h3 wc hbc a y9);(·rfl))
  | ((with_reducible apply Qbp (hf:=Try.call48));(·intro S;cbv;try rfl);(·intro wc S hbc hxc hrc;exact h4 wc a _ _ (hrc 2 _ rfl)))
  | ((with_reducible refine Qgha (σ:={a:Nat // a<=N}) (zs9 [8,2,20,13]) (fun x=>[zc9 19 x.1]) (fun x=>[]) (fun x=>[(1,⟨ln_ (X x.1),2,fun j=>[.int .i64 (p1 (X x.1) j),.int .i64 (p2 (X x.1) j)]⟩)]) (fun x=>N - x.1) ⟨0,by omega⟩ ?_ ?_);(·exact pfp Q4la);(rintro ⟨a,ha⟩ mm hmm))
  | ((with_reducible refine Qfha ⟨a+1,by omega⟩ ?_ ?_);(·exact msr o9 y9);(·exact pfp Q4la))
  | fail)
end
def Qxma (F:GFun) (S:B9z) (T:List Nat) (k:Nat):(Nat->Bool)×List Nat:=((Qvd F (T.getD 0 0)).take k).foldl Q7ja (S,T.tail)
theorem Qyma (F:GFun) (S:B9z) (T:List Nat):Qxma F S T 0=(S,T.tail):=by simp[Qxma]
theorem Qnla {F:GFun} {S:B9z} {T:List Nat} {k:Nat} (hk:k<(Qvd F (T.getD 0 0)).length):Qxma F S T (k+1)=Q7ja (Qxma F S T k) ((Qvd F (T.getD 0 0)).getD k 0):=by
 have key:∀(L:List Nat) (x:(Nat->Bool)×List Nat),k<L.length->(L.take (k+1)).foldl Q7ja x=Q7ja ((L.take k).foldl Q7ja x) (L.getD k 0):=fun L x hk=>by
  rw[List.take_add_one,List.foldl_append]
  simp only[List.getElem?_eq_getElem hk,Option.toList_some,List.foldl_cons,List.foldl_nil,List.getD,Option.getD_some]
 exact key _ _ hk
theorem Qana (F:GFun) (S:B9z) (b:Nat) (T:List Nat):Qxma F S (b::T) (Qvd F b).length=(Qvd F b).foldl Q7ja (S,T):=by
 simp[Qxma]
theorem Q0ka (T:List Nat) (j:Nat):T.tail.getD j 0=T.getD (j+1) 0:=by
 cases T<;>simp[List.getD]
theorem Qmla {F:GFun} {S:B9z} {b:Nat} {T:List Nat} (k:Nat) (hl:∀n∈Qvd F b,n<F.bn):Q5b (Qxma F S (b::T) k).1 F.bn+(Qxma F S (b::T) k).2.length=Q5b S F.bn+T.length:=by
 have:=Qfka F.bn ((Qvd F b).take k) (S,T) (fun n hn=>hl n (List.mem_of_mem_take hn))
 simpa [Qxma] using this
theorem Qnp {F:GFun} (hO:F.Ok) {b:Nat} (hb:b<F.bn):∀n∈Qvd F b,n<F.bn:=fun n hn=>by
 obtain ⟨m,hm,rfl⟩:=List.mem_map.1 hn
 have:=hO.lead hb m hm
 omega
theorem Qtu {F:GFun} (hO:F.Ok) {b:Nat} (hb:b<F.bn):Q09 (F.jump b).leads=⟨(Qvd F b).length,1,fun j=>[.int .i64 (.ofNat ((Qvd F b).getD j 0))]⟩:=by
 rw[Q09,Qvd,List.length_map]
 congr 1
 funext j
 by_cases hj:j<(F.jump b).leads.length
 · have h2:=hO.lead hb _ (List.getElem_mem hj)
   have e:(F.jump b).leads[j]=Int.ofNat (F.jump b).leads[j].toNat:=by simp only[Int.ofNat_eq_natCast];omega
   simp only[List.getD,List.getElem?_map,List.getElem?_eq_getElem hj,Option.map_some,Option.getD_some]
   rw[<-e]
 · simp only[List.getD,List.getElem?_map,List.getElem?_eq_none (show (F.jump b).leads.length<=j by omega),Option.map_none,Option.getD_none]
   rfl
theorem Qbla {t:Nat} {L:List Nat} (h:L.length=t):0<t->∃b T,L=b::T:=fun h0=>by
 cases L with
 | nil=>simp at h;omega
 | cons b T=>exact ⟨b,T,rfl⟩
noncomputable def Qjla (F:GFun) (N:Nat):ORow:=⟨N,1,fun j=>[.bool (Q5ja F (pbN F j))]⟩
theorem Qrka {p:Prop} (h:p:=by (first|((try with_reducible refine Q8c ?_ ?_ ?_ ?_);all_goals (cbv;(try simp only[true_and,and_true]);(try ((repeat' apply And.intro)<;>(first|trivial|rfl|exact RowLe.rfl' _|decide|(rw[Qda har _ o9];done)|((exact Q0a rfl (fun j hj=>absurd hj (Nat.not_lt_zero _))))|((exact hle3 hQ y9 o9))|((exact hle4 _ _))|((exact hle5))|((exact hle6))|((rw[Qda har _ (by have:=dnb (gt_ T 0);have h9:k<dn (gt_ T 0):=hlt;omega)]))|((exact hle7 hk hge))|((exact hle8 hk hge))|((exact hle9 hlt y9))|((exact hle10 hlt y9))|((exact hle11 hlt y9))|((exact hle12 hlt y9))|fail))));done)|fail)):Pf p:=⟨h⟩
theorem Q2la (F:GFun) (w:World) (hF:F.At w) (hO:F.Ok):
 Calls Try.prog 10 #[F.val] w (RetR w (Qwa F) (.tup [.one (.rs 0),.one (.int .i64 0)]) [Qjla F (stN F.sn F.bn)]):=by
 have h1 wc (hk:KB ⟨w,[]⟩ wc):=hO.chk wc (hF.later hk)
 have h2 wc (hk:KB ⟨w,[]⟩ wc):=Q9aa F wc (hF.later hk) hO.small.s hO.small.b
 have h30 wc (hk:KB ⟨w,[]⟩ wc) (b:Nat) (hb:b<F.bn):=Q61 F wc (hF.later hk) b (hO.okJ hb)
 have hN9:=hO.pts
 have hbp:=hO.bpos
 have hb24:=hO.bn24
 have hpb0:∀j,j<stN F.sn F.bn->pbN F j<F.bn:=fun j hj=>(Qoc hj).1
 obtain ⟨ln_,hln⟩:=x9 (List.length:List Nat->Nat)
 obtain ⟨gt_,hgt⟩:=x9 (fun L j=>L.getD j 0:List Nat->Nat->Nat)
 obtain ⟨V1,hV1⟩:=x9 (fun S T k=>(Qxma F S T k).1:(Nat->Bool)->List Nat->Nat->Nat->Bool)
 obtain ⟨V2,hV2⟩:=x9 (fun S T k=>(Qxma F S T k).2:(Nat->Bool)->List Nat->Nat->List Nat)
 obtain ⟨dn,hdn⟩:=x9 (fun b=>(Qvd F b).length:N9z)
 obtain ⟨ld,hld⟩:=x9 (fun b j=>(Qvd F b).getD j 0:Nat->Nat->Nat)
 obtain ⟨Q,hQ⟩:=x9 (RInv F:(Nat->Bool)->List Nat->Prop)
 obtain ⟨me,hme⟩:=x9 (fun S T=>Q5b S F.bn+T.length:(Nat->Bool)->List Nat->Nat)
 obtain ⟨rb,hrb⟩:=x9 (Q5ja F:B9z)
 obtain ⟨N,hN⟩:=x9 (stN F.sn F.bn)
 obtain ⟨pb,hpb⟩:=x9 (pbN F:N9z)
 obtain ⟨pi,hpi⟩:=x9 (piN F:N9z)
 obtain ⟨bm,hbm⟩:=x9 (F.bn)
 have h3 wc (hk:KB ⟨w,[]⟩ wc) (b:Nat) (hb:b<bm):Calls Try.prog 36 #[Q6z F b] wc (RetR wc (Qwa F) (.tup [.one (.rs 0),.one (.int .i64 0)]) [⟨dn b,1,fun j=>[.int .i64 (.ofNat (ld b j))]⟩]):=by
  have:=h30 wc hk b (hbm▸hb)
  rw[Qtu hO (hbm▸hb)] at this
  rw[hdn,hld];exact this
 have hR:ptR (Qgb F.sn F.bn)=⟨N,2,fun j=>[.int .i64 (.ofNat (pb j)),.int .i64 (.ofNat (pi j))]⟩:=by rw[ptR,Q6b,hN,hpb,hpi];rfl
 rw[hR] at h2
 have hR2:Qjla F (stN F.sn F.bn)=⟨N,1,fun j=>[.bool (rb (pb j))]⟩:=by rw[Qjla,hN,hpb,hrb]
 rw[hR2]
 have qh:∀{S T},Q S T->0<ln_ T->gt_ T 0<bm:=fun {S T} h h0=>by
  rw[hQ] at h;rw[hln] at h0
  obtain ⟨b,T,rfl⟩:=Qbla rfl h0
  rw[hgt,hbm];exact (h.r b (h.t b List.mem_cons_self)).2
 have q0:Q (fun j=>decide (j=0)) [0]:=by rw[hQ];exact Qbma F hbp
 have qs:∀{S T},Q S T->0<ln_ T->Q (V1 S T (dn (gt_ T 0))) (V2 S T (dn (gt_ T 0)))/\me (V1 S T (dn (gt_ T 0))) (V2 S T (dn (gt_ T 0)))<me S T:=fun {S T} h h0=>by
  rw[hQ] at h⊢;rw[hln] at h0
  obtain ⟨b,T,rfl⟩:=Qbla rfl h0
  have hb:=(h.r b (h.t b List.mem_cons_self)).2
  have hl:=Qnp hO hb
  have e:gt_ (b::T) 0=b:=by rw[hgt];rfl
  have hs:=Qmla (S:=S) (T:=T) (dn b) hl
  rw[e,hme]
  rw[hdn] at hs⊢
  rw[hV1,hV2]
  simp only at hs⊢
  refine ⟨?_,by rw[hs];simp only[List.length_cons];omega⟩
  rw[Qana]
  exact Qqma h hl
 have ql:∀{S T},Q S T->0<ln_ T->∀k,ln_ (V2 S T k)<=24:=fun {S T} h h0 k=>by
  rw[hQ] at h;rw[hln] at h0
  obtain ⟨b,T,rfl⟩:=Qbla rfl h0
  have hb:=(h.r b (h.t b List.mem_cons_self)).2
  have hs:=Qmla (S:=S) (T:=T) k (Qnp hO hb)
  have hm:=h.m
  rw[hln,hV2]
  simp only[List.length_cons] at hm hs⊢
  omega
 have qe:∀{S T},Q S T->ln_ T=0->∀j,S j=rb j:=fun {S T} h h0 j=>by
  rw[hQ] at h;rw[hln] at h0
  obtain rfl:T=[]:=List.eq_nil_of_length_eq_zero h0
  rw[hrb];exact Qyna h j
 have v0:∀{S T},V1 S T 0=S/\ln_ (V2 S T 0)=ln_ T - 1/\∀j,gt_ (V2 S T 0) j=gt_ T (j+1):=fun {S T}=>by
  rw[hV1,hV2,hln,hgt];simp only[Qyma]
  exact ⟨trivial,List.length_tail,fun j=>Q0ka T j⟩
 have vt:∀{S T k},k<dn (gt_ T 0)->V1 S T k (ld (gt_ T 0) k)=true->V1 S T (k+1)=V1 S T k/\V2 S T (k+1)=V2 S T k:=fun {S T k} hk h=>by
  rw[hdn,hgt] at hk;rw[hV1,hld,hgt] at h;rw[hV1,hV2]
  simp only at h⊢
  rw[Qnla hk]
  unfold Q7ja
  rw[if_pos h]
  exact ⟨rfl,rfl⟩
 have vf:∀{S T k},k<dn (gt_ T 0)->V1 S T k (ld (gt_ T 0) k)=false->(∀j,V1 S T (k+1) j=if j=ld (gt_ T 0) k then true else V1 S T k j)/\ln_ (V2 S T (k+1))=ln_ (V2 S T k)+1/\(∀j,j<ln_ (V2 S T k)->gt_ (V2 S T (k+1)) j=gt_ (V2 S T k) j)/\gt_ (V2 S T (k+1)) (ln_ (V2 S T k))=ld (gt_ T 0) k:=fun {S T k} hk h=>by
  rw[hdn,hgt] at hk;rw[hV1,hld,hgt] at h;rw[hV1,hV2,hld,hln,hgt]
  simp only at h⊢
  rw[Qnla hk]
  have e:∀x n,x.1 n=false->Q7ja x n=(fun j=>if j=n then true else x.1 j,x.2++[n]):=fun x n h=>by unfold Q7ja;rw[if_neg (by simp[h])]
  rw[e _ _ h]
  refine ⟨fun j=>rfl,by simp,fun j hj=>?_,?_⟩
  · simp only[List.getD,List.getElem?_append_left hj]
  · simp[List.getD]
 have ldb:∀{b k},b<bm->k<dn b->ld b k<bm:=fun {b k} hb hk=>by
  rw[hdn] at hk;rw[hbm] at hb⊢;rw[hld]
  simp only[List.getD,List.getElem?_eq_getElem hk,Option.getD_some]
  exact Qnp hO hb _ (List.getElem_mem hk)
 have dnb:∀b,dn b<=2:=fun b=>by
  rw[hdn];simp only[Qvd,List.length_map]
  unfold GJump.leads
  split
  · simp
  · split<;>simp
 have l0:ln_ [0]=1:=by rw[hln];rfl
 have g0:gt_ [0] 0=0:=by rw[hgt];rfl
 rw[<-hN] at hN9 hpb0
 rw[<-hpb] at hpb0
 rw[<-hbm] at hpb0 hbp hb24
 clear hR hR2 hN hpb hpi hrb hme hQ hld hdn hV1 hV2 hgt hln h30 hO
 obtain ⟨pa,un,lA,ln,lc,lk,lt,bA,bn,bc,sA,sn,sc,s,jA,jn,jc,ja,jk,jo,jf,jx,je,jd⟩:=F
 obtain ⟨hX,hl,hb,hs,hj⟩:=hF
 simp only at hl hb hs hj
 simp only at h1 h2 h3 hbm
 have hbm:=hbm.symm
 subst hbm
 refine Qaa (args:=[.pt (.agg (GFun.dat _))]) (c:=(Qwa _)) Try.func10 rfl hX rfl rfl ?_
 obtain ⟨nd,hnd,nt,hnt,ar,har,cm,hcm,mx,hmx,mn,hmn,ar01,ar12,zpl,hzpl,zjn,hzjn,zup,hzup,zmi,hzmi,zdp,hzdp,hT⟩:=Qca
 have hmk:(bn:Int)<=1073741824:=by omega
 have hle1:RowLe ⟨bn,1,zup (fun x=>[SC.lit false]) 0 0 [SC.lit true]⟩ ⟨bn,1,fun j=>[SC.bool (decide (j=0))]⟩:=by
  refine Qad hzup rfl (fun j hj h=>⟨?_,trivial⟩) (fun _=>⟨?_,trivial⟩)
  · rw[decide_eq_false h];show false=false;rfl
  · exact rfl
 have hle2:RowLe ⟨1,1,fun j=>Qte [SC.int IntKind.i64 0] (j * 1) 1⟩ ⟨ln_ [0],1,fun j=>[SC.int IntKind.i64 (Int.ofNat (gt_ [0] j))]⟩:=by
  refine Q0a l0.symm (fun j hj=>?_)
  have hj2:j=0:=by omega
  subst hj2
  rw[g0]
  exact ⟨⟨rfl,rfl⟩,trivial⟩
 have hpos:∀{T},cm .gtr (.ofNat (ln_ T)) 0=true->0<ln_ T:=fun {T} h=>by
  rw[hcm] at h;exact Int.ofNat_lt.1 (of_decide_eq_true h)
 have hzer:∀{T},cm .gtr (.ofNat (ln_ T)) 0=false->ln_ T=0:=fun {T} h=>by
  rw[hcm] at h
  have h2:¬(0<ln_ T):=fun g=>of_decide_eq_false h (Int.ofNat_lt.2 g)
  omega
 have hle3:∀{S T a},Q S T->cm .gtr (.ofNat (ln_ T)) 0=false->a=N->RowLe ⟨a,1,fun j=>[SC.bool (S (pb j))]⟩ ⟨N,1,fun j=>[SC.bool (rb (pb j))]⟩:=fun {S T a} h hz e=>by
  refine Q0a e (fun j hj=>?_)
  rw[qe h (hzer hz)]
  exact ⟨rfl,trivial⟩
 have hle4:∀(S:B9z) (a:Nat),RowLe ⟨zpl a 1,1,zjn a (fun j=>[SC.bool (S (pb j))]) (fun j=>Qte [SC.bool (S (pb a))] (0+j * 1) 1)⟩ ⟨a+1,1,fun j=>[SC.bool (S (pb j))]⟩:=fun S a=>
  Q7a hzpl hzjn rfl (fun j hj=>⟨rfl,trivial⟩) ⟨rfl,trivial⟩
 have hle5:∀{S T},RowLe ⟨zmi (ln_ T) 1,1,zdp 1 (fun j=>[SC.int .i64 (.ofNat (gt_ T j))])⟩ ⟨ln_ (V2 S T 0),1,fun j=>[SC.int .i64 (.ofNat (gt_ (V2 S T 0) j))]⟩:=fun {S T}=>
  Qx1 hzmi hzdp v0.2.1 (fun j hj=>by rw[v0.2.2];exact ⟨⟨rfl,rfl⟩,trivial⟩)
 have hle6:∀{S T},RowLe ⟨bn,1,fun j=>[SC.bool (S j)]⟩ ⟨bn,1,fun j=>[SC.bool (V1 S T 0 j)]⟩:=fun {S T}=>
  Q0a rfl (fun j hj=>by rw[v0.1];exact ⟨rfl,trivial⟩)
 have hle7:∀{S T k},k<=dn (gt_ T 0)->dn (gt_ T 0)<=k->RowLe ⟨bn,1,fun j=>[SC.bool (V1 S T k j)]⟩ ⟨bn,1,fun j=>[SC.bool (V1 S T (dn (gt_ T 0)) j)]⟩:=fun {S T k} h1 h2=>by
  rw[Nat.le_antisymm h1 h2];exact RowLe.rfl' _
 have hle8:∀{S T k},k<=dn (gt_ T 0)->dn (gt_ T 0)<=k->RowLe ⟨ln_ (V2 S T k),1,fun j=>[SC.int .i64 (.ofNat (gt_ (V2 S T k) j))]⟩ ⟨ln_ (V2 S T (dn (gt_ T 0))),1,fun j=>[SC.int .i64 (.ofNat (gt_ (V2 S T (dn (gt_ T 0))) j))]⟩:=fun {S T k} h1 h2=>by
  rw[Nat.le_antisymm h1 h2];exact RowLe.rfl' _
 have hle9:∀{S T k},k<dn (gt_ T 0)->V1 S T k (ld (gt_ T 0) k)=true->RowLe ⟨bn,1,fun j=>[SC.bool (V1 S T k j)]⟩ ⟨bn,1,fun j=>[SC.bool (V1 S T (k+1) j)]⟩:=fun {S T k} h1 h2=>by
  rw[(vt h1 h2).1];exact RowLe.rfl' _
 have hle10:∀{S T k},k<dn (gt_ T 0)->V1 S T k (ld (gt_ T 0) k)=true->RowLe ⟨ln_ (V2 S T k),1,fun j=>[SC.int .i64 (.ofNat (gt_ (V2 S T k) j))]⟩ ⟨ln_ (V2 S T (k+1)),1,fun j=>[SC.int .i64 (.ofNat (gt_ (V2 S T (k+1)) j))]⟩:=fun {S T k} h1 h2=>by
  rw[(vt h1 h2).2];exact RowLe.rfl' _
 have hle11:∀{S T k},k<dn (gt_ T 0)->V1 S T k (ld (gt_ T 0) k)=false->RowLe ⟨bn,1,zup (fun j=>[SC.bool (V1 S T k j)]) (ld (gt_ T 0) k) 0 [SC.lit true]⟩ ⟨bn,1,fun j=>[SC.bool (V1 S T (k+1) j)]⟩:=fun {S T k} h1 h2=>by
  refine Qad hzup rfl (fun j hj h=>⟨?_,trivial⟩) (fun _=>⟨?_,trivial⟩)
  · rw[(vf h1 h2).1,if_neg h];exact rfl
  · rw[(vf h1 h2).1,if_pos rfl];show true=true;rfl
 have hle12:∀{S T k},k<dn (gt_ T 0)->V1 S T k (ld (gt_ T 0) k)=false->RowLe ⟨zpl (ln_ (V2 S T k)) 1,1,zjn (ln_ (V2 S T k)) (fun j=>[SC.int .i64 (.ofNat (gt_ (V2 S T k) j))]) (fun j=>Qte [SC.int .i64 (.ofNat (ld (gt_ T 0) k))] (0+j * 1) 1)⟩ ⟨ln_ (V2 S T (k+1)),1,fun j=>[SC.int .i64 (.ofNat (gt_ (V2 S T (k+1)) j))]⟩:=fun {S T k} h1 h2=>by
  have q:=vf h1 h2
  refine Q7a hzpl hzjn q.2.1 (fun j hj=>⟨⟨rfl,?_⟩,trivial⟩) ⟨⟨rfl,?_⟩,trivial⟩
  · rw[q.2.2.1 j hj]
  · rw[q.2.2.2]
 repeat' (first
  | refine goa ?_|refine go3 (fun hlt=>?_) (fun hge=>?_)|refine go2 (fun h=>?_) (fun h=>?_)|refine gof ?_
  | exact gor (ha:=Qrka) (hb:=Qrka)
  | refine gob ?_
  | ((with_reducible refine Q4c ?_ ?_);(·first|((exact ⟨Int.natCast_nonneg bn,hmk⟩))|((exact hpos y9))|((rw[hzpl];exact Nat.le_trans (Nat.add_le_add_right (ql hQ (hpos y9) k) 1) (Nat.le_of_ble_eq_true rfl)))))
  | (refine' Qiha Try.call35 ?_ ?_;rotate_left;(·intro wc hbc hxc;exact h1 wc hbc))
  | ((with_reducible apply Qoa (hf:=Try.call33));(·intro S;cbv;try rfl);(·intro wc S hbc hxc hrc;exact h2 wc hbc);(·rfl))
  | ((with_reducible apply Qoa (hf:=Try.call36));(·intro S;cbv;try rfl);(·intro wc S hbc hxc hrc;exact h3 wc hbc _ (qh hQ (hpos y9)));(·rfl))
  | ((with_reducible apply Qud 6 1);(·(cbv;try rfl)))
  | ((with_reducible apply Qud 12 1);(·(cbv;try rfl)))
  | ((with_reducible refine Qgha (σ:={x:(Nat->Bool)×List Nat // Q x.1 x.2}) (zs9 [7,3,11,1,27,37]) (fun x=>[]) (fun x=>[]) (fun x=>[(0,⟨bn,1,fun j=>[.bool (x.1.1 j)]⟩),(1,⟨ln_ x.1.2,1,fun j=>[.int .i64 (.ofNat (gt_ x.1.2 j))]⟩)]) (fun x=>me x.1.1 x.1.2) ⟨(fun j=>decide (j=0),[0]),q0⟩ ?_ ?_);(·exact pfp Qrka);(rintro ⟨⟨S,T⟩,hQ⟩ mm hmm))
  | ((with_reducible refine Qgha (σ:={k:Nat // k<=dn (gt_ T 0)}) (zs9 [11,1,34,1,48,16]) (fun x=>[zc9 47 x.1]) (fun x=>[]) (fun x=>[(0,⟨bn,1,fun j=>[.bool (V1 S T x.1 j)]⟩),(1,⟨ln_ (V2 S T x.1),1,fun j=>[.int .i64 (.ofNat (gt_ (V2 S T x.1) j))]⟩)]) (fun x=>dn (gt_ T 0) - x.1) ⟨0,by omega⟩ ?_ ?_);(·exact pfp Qrka);(rintro ⟨k,hk⟩ mm hmm))
  | ((with_reducible refine Qgha (σ:={a:Nat // a<=N}) (zs9 [14,1,68,12]) (fun x=>[zc9 67 x.1]) (fun x=>[]) (fun x=>[(3,⟨x.1,1,fun j=>[.bool (S (pb j))]⟩)]) (fun x=>N - x.1) ⟨0,by omega⟩ ?_ ?_);(·exact pfp Qrka);(rintro ⟨a,ha⟩ mm hmm))
  | (((with_reducible apply Qxa);(·exact Int.le_refl 0);(·exact Int.natCast_pos.2 (hpos y9))))
  | (((with_reducible apply Qxa);(·exact Int.natCast_nonneg _);(·exact Int.ofNat_lt.2 (qh hQ (hpos y9)))))
  | (((with_reducible apply Qxa);(·exact Int.natCast_nonneg _);(·exact Int.ofNat_lt.2 (hpb0 _ hlt))))
  | (((with_reducible apply Qxa);(·exact Int.natCast_nonneg _);(·exact Int.ofNat_lt.2 (ldb (qh hQ (hpos y9)) hlt))))
  | ((with_reducible refine Qfha (⟨a+1,by omega⟩:{a:Nat // a<=N}) ?_ ?_);(·exact msr o9 y9);(·exact pfp Qrka))
  | (((with_reducible apply Qxa);(·exact Int.natCast_nonneg _);(·exact Int.ofNat_lt.2 hlt)))
  | ((with_reducible refine Qfha (⟨(V1 S T (dn (gt_ T 0)),V2 S T (dn (gt_ T 0))),(qs hQ (hpos y9)).1⟩:{x:(Nat->Bool)×List Nat // Q x.1 x.2}) ?_ ?_);(·(exact Nat.lt_of_lt_of_eq (qs hQ (hpos y9)).2 (Eq.symm y9)));(·exact pfp Qrka))
  | ((with_reducible refine Qfha (⟨k+1,Nat.succ_le_of_lt hlt⟩:{k:Nat // k<=dn (gt_ T 0)}) ?_ ?_);(·subst hmm;(have hlt2:k<dn (gt_ T 0):=hlt;show dn (gt_ T 0) - (k+1)<dn (gt_ T 0) - k;omega));(·exact pfp Qrka))
  | fail)
theorem Q8k {l:List Int} {x:Int}:x∈Qdo l↔x∈l:=by
 unfold Qdo
 split
 · split
   · simp only[List.mem_cons,List.not_mem_nil,or_false];exact or_comm
   · exact Iff.rfl
 · exact Iff.rfl
theorem Qat {F:GFun} (hO:F.Ok) {b i:Nat} (hb:b<F.bn) {p:Nat×Nat} (hp:p∈Qgd F b i):p.1<F.bn/\p.2<=F.sn p.1/\(Reach F b->Reach F p.1):=by
 unfold Qgd at hp
 split at hp
 · rename_i hi
   obtain rfl:=List.mem_singleton.1 hp
   exact ⟨hb,hi,id⟩
 · obtain ⟨n,hn,rfl⟩:=List.mem_map.1 hp
   have hn:=Q8k.1 hn
   have hm:n.toNat∈Qvd F b:=List.mem_map.2 ⟨n,hn,rfl⟩
   exact ⟨Qnp hO hb _ hm,Nat.zero_le _,fun h=>.step h hm⟩
def nmN (F:GFun) (a k:Nat):Nat:=stN F.sn ((Qgd F (pbN F a) (piN F a)).getD k (0,0)).1+((Qgd F (pbN F a) (piN F a)).getD k (0,0)).2
theorem Q7x {F:GFun} (hO:F.Ok) {a k:Nat} (ha:a<stN F.sn F.bn) (hk:k<(Qgd F (pbN F a) (piN F a)).length):
 let p:=(Qgd F (pbN F a) (piN F a)).getD k (0,0)
 p.1<F.bn/\p.2<=F.sn p.1/\nmN F a k<stN F.sn F.bn/\pbN F (nmN F a k)=p.1/\piN F (nmN F a k)=p.2/\(Reach F (pbN F a)->Reach F p.1):=by
 have hm:(Qgd F (pbN F a) (piN F a)).getD k (0,0)∈Qgd F (pbN F a) (piN F a):=Qmr hk rfl
 have q:=Qat hO (Qoc ha).1 hm
 have e:=Q7l q.1 q.2.1
 exact ⟨q.1,q.2.1,Q9t q.1 q.2.1,e.1,e.2,q.2.2⟩
theorem Qxna {F:GFun} (h:0<stN F.sn F.bn):pbN F 0=0/\piN F 0=0:=by
 obtain ⟨h1,h2,h3⟩:=Qoc h
 have:stN F.sn (pbN F 0)=0:=by omega
 have e:pbN F 0=0:=by
  rcases Nat.eq_zero_or_pos (pbN F 0) with h|h
  · exact h
  · have:=Qgo F.sn h;simp only[stN] at this;omega
 exact ⟨e,by omega⟩
theorem Qdl {F:GFun} (hO:F.Ok):0<stN F.sn F.bn:=by
 have:=Qgo F.sn hO.bpos
 simp only[stN] at this;omega
inductive ReachG (sc:Nat->List Nat):Nat->Prop where
 | zero:ReachG sc 0
 | step {b n:Nat}:ReachG sc b->n∈sc b->ReachG sc n
structure GInv (sc:Nat->List Nat) (M:Nat) (S:B9z) (T:List Nat):Prop where
 z:S 0=true
 r:∀b,S b=true->ReachG sc b/\b<M
 t:∀b∈T,S b=true
 c:∀b,S b=true->b∈T\/∀n∈sc b,S n=true
 m:Q5b S M+T.length<=M
theorem Q9la (sc:Nat->List Nat) {M:Nat} (h:0<M):GInv sc M (fun j=>decide (j=0)) [0]:=by
 refine ⟨by simp,fun b hb=>?_,fun b hb=>by simpa using hb,fun b hb=>?_,?_⟩
 · have:b=0:=of_decide_eq_true hb
   subst this;exact ⟨.zero,h⟩
 · have:b=0:=of_decide_eq_true hb
   subst this;exact .inl (by simp)
 · have:=Qmi (S:=fun _=>false) (n:=0) rfl M
   rw[if_pos h] at this
   have e:Q5b (fun j=>decide (j=0)) M=Q5b (fun j=>if j=0 then true else false) M:=by
    congr 1
   have h2:=Qfu (fun _=>false) M
   rw[e]
   simp only[List.length_cons,List.length_nil]
   omega
theorem Qkma {sc:Nat->List Nat} {M:Nat} {S:B9z} {b:Nat} {T:List Nat} (h:GInv sc M S (b::T)) (hl:∀n∈sc b,n<M):GInv sc M ((sc b).foldl Q7ja (S,T)).1 ((sc b).foldl Q7ja (S,T)).2:=by
 have hv:=Q1ka (sc b) (S,T)
 have hs:=Qfka M (sc b) (S,T) hl
 refine ⟨hv.up 0 h.z,fun n hn=>?_,fun n hn=>?_,fun n hn=>?_,?_⟩
 · rcases hv.old n hn with g|⟨g,_⟩
   · exact h.r n g
   · exact ⟨.step (h.r b (h.t b List.mem_cons_self)).1 g,hl n g⟩
 · rcases hv.new n hn with g|g
   · exact hv.up n (h.t n (List.mem_cons_of_mem _ g))
   · exact hv.all n g
 · rcases hv.old n hn with g|⟨_,g⟩
   · rcases h.c n g with g|g
     · rcases List.mem_cons.1 g with rfl|g
       · exact .inr hv.all
       · exact .inl (hv.sub n g)
     · exact .inr fun k hk=>hv.up k (g k hk)
   · exact .inl g
 · have:=h.m
   simp only[List.length_cons] at this
   simp only at hs
   omega
theorem Q4ma {sc : Nat -> List Nat} {M : Nat} {S : Nat -> Bool} (h : GInv sc M S []) (b : Nat) : S b = true ↔ ReachG sc b := by
  refine ⟨fun hb => (h.r b hb).1, fun hb => ?_⟩
  induction hb with
  | zero => exact h.z
  | step _ hn ih => rcases h.c _ ih with g | g
                    · simp at g
                    · exact g _ hn
def Q0g (F:GFun) (a:Nat):List Nat:=(Qgd F (pbN F a) (piN F a)).map fun p=>stN F.sn p.1+p.2
theorem Qgg (F:GFun) (a:Nat):(Q0g F a).length=(Qgd F (pbN F a) (piN F a)).length:=by simp[Q0g]
theorem Qau {F:GFun} {a k:Nat} (hk:k<(Qgd F (pbN F a) (piN F a)).length):(Q0g F a).getD k 0=nmN F a k:=by
 simp[Q0g,nmN,List.getD,List.getElem?_eq_getElem hk]
theorem Qgi {F:GFun} (hO:F.Ok) {a:Nat} (ha:a<stN F.sn F.bn):∀n∈Q0g F a,n<stN F.sn F.bn:=fun n hn=>by
 obtain ⟨p,hp,rfl⟩:=List.mem_map.1 hn
 have q:=Qat hO (Qoc ha).1 hp
 exact Q9t q.1 q.2.1
theorem Qzka {F:GFun} (hO:F.Ok) {j:Nat} (hj:j<stN F.sn F.bn):ReachG (Q0g F) j↔Q5ja F (pbN F j)=true:=by
 have key:∀j,ReachG (Q0g F) j->j<stN F.sn F.bn/\Reach F (pbN F j):=fun j h=>by
  induction h with
  | zero=>exact ⟨Qdl hO,by rw[(Qxna (Qdl hO)).1];exact .zero⟩
  | @step b n _ hn ih=>
    refine ⟨Qgi hO ih.1 n hn,?_⟩
    obtain ⟨p,hp,rfl⟩:=List.mem_map.1 hn
    have q:=Qat hO (Qoc ih.1).1 hp
    rw[(Q7l q.1 q.2.1).1]
    exact q.2.2 ih.2
 have up:∀b,b<F.bn->ReachG (Q0g F) (stN F.sn b)->∀i,i<=F.sn b->ReachG (Q0g F) (stN F.sn b+i):=fun b hb h i=>by
  induction i with
  | zero=>exact fun _=>h
  | succ i ih=>
    intro hi
    refine .step (ih o9) ?_
    have e:=Q7l (F:=F) hb (i:=i) o9
    refine List.mem_map.2 ⟨(b,i+1),?_,rfl⟩
    rw[e.1,e.2]
    unfold Qgd
    rw[if_pos o9]
    exact List.mem_singleton_self _
 have blk:∀b,Reach F b->ReachG (Q0g F) (stN F.sn b):=fun b h=>by
  induction h with
  | zero=>exact .zero
  | @step b n hb hn ih=>
    have hb2:=Reach.lt hO hO.bpos hb
    refine .step (up b hb2 ih (F.sn b) (Nat.le_refl _)) ?_
    have e:=Q7l (F:=F) hb2 (i:=F.sn b) (Nat.le_refl _)
    obtain ⟨m,hm,rfl⟩:=List.mem_map.1 hn
    refine List.mem_map.2 ⟨(m.toNat,0),?_,rfl⟩
    rw[e.1,e.2]
    unfold Qgd
    rw[if_neg o9]
    exact List.mem_map.2 ⟨m,Q8k.2 hm,rfl⟩
 refine ⟨fun h=>Q6ja.2 (key j h).2,fun h=>?_⟩
 obtain ⟨h1,h2,h3⟩:=Qoc hj
 have:=up (pbN F j) h1 (blk _ (Q6ja.1 h)) (piN F j) h2
 rw[<-h3] at this;exact this
theorem Qpna {F:GFun} (hO:F.Ok) {S:B9z} (h:GInv (Q0g F) (stN F.sn F.bn) S []) {j:Nat} (hj:j<stN F.sn F.bn):S j=Q5ja F (pbN F j):=by
 have h1:=Q4ma h j
 have h2:=Qzka hO hj
 cases hs:S j<;>cases hr:Q5ja F (pbN F j)<;>simp_all
def Qvma (sc:Nat->List Nat) (S:B9z) (T:List Nat) (k:Nat):(Nat->Bool)×List Nat:=((sc (T.getD 0 0)).take k).foldl Q7ja (S,T.tail)
theorem Qwma (sc:Nat->List Nat) (S:B9z) (T:List Nat):Qvma sc S T 0=(S,T.tail):=by simp[Qvma]
theorem Qlla {sc:Nat->List Nat} {S:B9z} {T:List Nat} {k:Nat} (hk:k<(sc (T.getD 0 0)).length):Qvma sc S T (k+1)=Q7ja (Qvma sc S T k) ((sc (T.getD 0 0)).getD k 0):=by
 have key:∀(L:List Nat) (x:(Nat->Bool)×List Nat),k<L.length->(L.take (k+1)).foldl Q7ja x=Q7ja ((L.take k).foldl Q7ja x) (L.getD k 0):=fun L x hk=>by
  rw[List.take_add_one,List.foldl_append]
  simp only[List.getElem?_eq_getElem hk,Option.toList_some,List.foldl_cons,List.foldl_nil,List.getD,Option.getD_some]
 exact key _ _ hk
theorem Q9ma (sc:Nat->List Nat) (S:B9z) (b:Nat) (T:List Nat):Qvma sc S (b::T) (sc b).length=(sc b).foldl Q7ja (S,T):=by
 simp[Qvma]
theorem Qkla {sc:Nat->List Nat} {M:Nat} {S:B9z} {b:Nat} {T:List Nat} (k:Nat) (hl:∀n∈sc b,n<M):Q5b (Qvma sc S (b::T) k).1 M+(Qvma sc S (b::T) k).2.length=Q5b S M+T.length:=by
 have:=Qfka M ((sc b).take k) (S,T) (fun n hn=>hl n (List.mem_of_mem_take hn))
 simpa [Qvma] using this
end Go.Proofs.Ytemnfncbgalljab
