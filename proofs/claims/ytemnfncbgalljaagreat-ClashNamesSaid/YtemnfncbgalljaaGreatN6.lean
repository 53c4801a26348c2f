/- Lemmas. No condition. -/
import Derived.Test.YtemnfncbgalljaaGreatN3
import Derived.Test.YtemnfncbgalljaaGreatN5
namespace Go.Proofs.YtemnfncbgalljaaGreat
open Go.RowKit
set_option linter.all false
set_option maxHeartbeats 64000000
section
def GFun.Ok (F:GFun):Prop:=fchkV F=0
namespace GFun.Ok
variable {F:GFun}
theorem large (h:F.Ok):Q0c F=false:=by
 unfold GFun.Ok fchkV at h
 split at h
 · omega
 · rename_i g;simpa using g
theorem made (h:F.Ok):Qrf F=true:=by
 have hl:=h.large
 unfold GFun.Ok fchkV at h
 rw[hl] at h
 cases hm:Qrf F with
 | true=>rfl
 | false=>rw[hm] at h;simp at h
theorem twos (h:F.Ok):Qmo F=true:=by
 have hl:=h.large
 have hm:=h.made
 unfold GFun.Ok fchkV at h
 rw[hl,hm] at h
 cases ht:Qmo F with
 | true=>rfl
 | false=>rw[ht] at h;simp at h
theorem valid (h:F.Ok):Qed F.bn (Qjc F)=true:=by
 have:=h.made
 simp only[Qrf,Bool.and_eq_true] at this
 exact this.1
theorem okS (h:F.Ok) {b i:Nat} (hb:b<F.bn) (hi:i<F.sn b):(F.s b i).ok=true:=by
 have:=Qla.1 h.valid b hb
 simp only[Qjc,Bool.and_eq_true] at this
 exact Qla.1 this.1 i hi
theorem okJ (h:F.Ok) {b:Nat} (hb:b<F.bn):(F.jump b).ok=true:=by
 have:=Qla.1 h.valid b hb
 simp only[Qjc,Bool.and_eq_true] at this
 exact this.2
theorem head (h:F.Ok):Qin F=true:=by
 have:=h.made
 rw[Qrf,Qbg] at this
 simp only[Bool.and_eq_true] at this
 exact this.2.1.1
theorem bpos (h:F.Ok):0<F.bn:=by
 have:=h.made
 rw[Qrf,Qbg] at this
 simp only[Bool.and_eq_true,decide_eq_true_eq] at this
 exact this.2.1.2
theorem near (h:F.Ok) {b:Nat} (hb:b<F.bn):Qsp F b=true:=by
 have:=h.made
 rw[Qrf,Qbg] at this
 simp only[Bool.and_eq_true] at this
 exact Qla.1 this.2.2 b hb
theorem ln16 (h:F.Ok):F.ln<=16:=Q4s h.large
theorem lpos (h:F.Ok):0<F.ln:=by
 have:=h.head
 simp only[Qin,Bool.and_eq_true,Bool.not_eq_true',beq_eq_false_iff_ne] at this
 omega
theorem bn24 (h:F.Ok):F.bn<=24:=by
 have:=h.large
 simp only[Q0c,Bool.or_eq_false_iff,decide_eq_false_iff_not] at this
 omega
theorem sn24 (h:F.Ok) {b:Nat} (hb:b<F.bn):F.sn b<=24:=by
 have:=h.large
 simp only[Q0c,Bool.or_eq_false_iff,decide_eq_false_iff_not,Bool.not_eq_false'] at this
 exact of_decide_eq_true (Qla.1 this.2 b hb)
theorem jn8 (h:F.Ok) {b:Nat} (hb:b<F.bn):F.jn b<=8:=Qy0 (h.okJ hb)
theorem small (h:F.Ok):F.Sm:=⟨fun b hb=>by have:=h.sn24 hb;omega,by have:=h.bn24;omega,by have:=h.ln16;omega,fun b hb=>by have:=h.jn8 hb;omega⟩
theorem ins (h:F.Ok):F.In:=Qno F h.valid
theorem stIn (h:F.Ok) {b i:Nat} (hb:b<F.bn) (hi:i<F.sn b):∀q∈Q3e (F.s b i),0<=q.1.l/\q.1.l<F.ln:=fun q hq=>by
 have h1:=h.near hb
 simp only[Qsp,Bool.and_eq_true] at h1
 have h2:=Qla.1 h1.1.1 i hi
 simp only[Qvt,List.all_eq_true,decide_eq_true_eq] at h2
 exact ⟨(Qjz (h.ins.1 b i hb hi) q hq).1,h2 q hq⟩
theorem jmIn (h:F.Ok) {b:Nat} (hb:b<F.bn):∀q∈Qlp F b,0<=q.1.l/\q.1.l<F.ln:=fun q hq=>by
 have h1:=h.near hb
 simp only[Qsp,Bool.and_eq_true] at h1
 have h2:=h1.1.2
 simp only[Qvt,List.all_eq_true,decide_eq_true_eq] at h2
 exact ⟨(Qex (h.ins.2 b hb) q hq).1,h2 q hq⟩
theorem lead (h:F.Ok) {b:Nat} (hb:b<F.bn):∀n∈(F.jump b).leads,0<=n/\n<F.bn:=fun n hn=>by
 have h1:=h.near hb
 simp only[Qsp,Bool.and_eq_true,List.all_eq_true,decide_eq_true_eq] at h1
 refine ⟨?_,h1.2 n hn⟩
 have hj:=h.okJ hb
 simp only[GJump.ok,blk,Bool.or_eq_true,Bool.and_eq_true,beq_iff_eq,decide_eq_true_eq] at hj
 unfold GJump.leads at hn
 split at hn
 · simp at hn
 · split at hn
   · simp only[List.mem_cons,List.not_mem_nil,or_false] at hn
     rename_i g1 g2
     simp only[Bool.or_eq_true,beq_iff_eq,Bool.and_eq_true] at g1 g2
     grind
   · simp only[List.mem_cons,List.not_mem_nil,or_false] at hn
     rename_i g1 g2
     simp only[Bool.or_eq_true,beq_iff_eq] at g1
     grind
theorem nearS (h:F.Ok):F.Near:=fun b i hb hi hk=>by
 have h1:=h.stIn hb hi
 have hs:=h.okS hb hi
 have hl:=h.lpos
 have z:(0:Int)<=0/\(0:Int)<F.ln:=⟨by omega,by omega⟩
 have hr:(F.s b i).r.ok=true:=by
  simp only[GStmt.ok,Bool.or_eq_true,Bool.and_eq_true,beq_iff_eq] at hs
  grind
 have mem:∀q,q∈Q3e (F.s b i)↔q∈(if (F.s b i).r.k=4\/(F.s b i).r.k=5 then [((F.s b i).p,false),((F.s b i).r.p,false)] else if (F.s b i).r.k=1 then ((F.s b i).p,false)::Qaj true (F.s b i).r.a else ((F.s b i).p,false)::(Qaj false (F.s b i).r.a++Qaj false (F.s b i).r.b)):=fun q=>by
  unfold Q3e
  rw[if_neg o9,if_neg o9,if_pos hk]
 have hop:∀(may:Bool) (o:GOper),o.ok=true->(∀q∈Qaj may o,0<=q.1.l/\q.1.l<(F.ln:Int))->0<=o.p.l/\o.p.l<F.ln:=fun may o ho hq=>by
  by_cases g:o.k=1
  · simp only[GOper.ok,GPlace.eqB,GPlace.zero,Bool.or_eq_true,Bool.and_eq_true,beq_iff_eq] at ho
    have e:o.p.l=0:=by grind
    rw[e];exact z
  · exact hq (o.p,_) (by unfold Qaj;rw[if_neg g];exact List.mem_singleton.2 rfl)
 have zero:∀o:GOper,o.eqB .zero=true->0<=o.p.l/\o.p.l<F.ln:=fun o ho=>by
  rw[GOper.eqB_iff] at ho;subst ho;exact z
 have zeroP:∀p:GPlace,p.eqB .zero=true->0<=p.l/\p.l<F.ln:=fun p hp=>by
  rw[GPlace.eqB_iff] at hp;subst hp;exact z
 simp only[GRv.ok,Bool.or_eq_true,Bool.and_eq_true,beq_iff_eq] at hr
 by_cases g:(F.s b i).r.k=4\/(F.s b i).r.k=5
 · refine ⟨h1 _ ((mem _).2 (by rw[if_pos g];exact List.mem_cons_self:((F.s b i).p,false)∈_)),h1 _ ((mem _).2 (by rw[if_pos g];simp:((F.s b i).r.p,false)∈_)),zero _ ?_⟩
   grind
 · have hp:0<=(F.s b i).r.p.l/\(F.s b i).r.p.l<(F.ln:Int):=zeroP _ (by grind)
   by_cases g1:(F.s b i).r.k=1
   · refine ⟨h1 _ ((mem _).2 (by rw[if_neg g,if_pos g1];exact List.mem_cons_self:((F.s b i).p,false)∈_)),hp,hop true _ ?_ fun q hq=>h1 q ((mem _).2 (by rw[if_neg g,if_pos g1];exact List.mem_cons_of_mem _ hq))⟩
     grind
   · refine ⟨h1 _ ((mem _).2 (by rw[if_neg g,if_neg g1];exact List.mem_cons_self:((F.s b i).p,false)∈_)),hp,hop false _ ?_ fun q hq=>h1 q ((mem _).2 (by rw[if_neg g,if_neg g1];exact List.mem_cons_of_mem _ (List.mem_append_left _ hq)))⟩
     grind
theorem chk (h:F.Ok) (w:World) (hF:F.At w):Calls Tryz.prog 85 #[F.val] w (Ret w (.int .i64 0)):=by
 have:=Qn7 F w hF
 rw[show fchkV F=0 from h] at this
 exact this
end GFun.Ok
end
section
set_option maxRecDepth 100000
def Q64 (sn:N9z):Nat->Int
 | 0=>0
 | i+1=>rAr .add .i64 (Q64 sn i) (rAr .add .i64 (.ofNat (sn i)) 1)
def greatB (F:GFun):Bool:=decide (120<Q64 F.sn (min F.bn 31))||decide (30<F.bn)||decide (30<F.ln)
def gfB (F:GFun):Bool:=decide (30<F.ln)||decide (30<F.bn)||!(Qed F.bn fun b=>decide (F.sn b<=30)&&decide (F.jn b<=12))
theorem Qw7 {cm:BinOp->Int->Int->Bool} (hcm:cm=rCm) {x m:Nat} (h:cm .gtr (.ofNat x) (@OfNat.ofNat Int m _)=false):decide (x<=m)=true:=Q3i (hcm▸h)
theorem Qx7 {cm:BinOp->Int->Int->Bool} (hcm:cm=rCm) {x m:Nat} (h:cm .gtr (.ofNat x) (@OfNat.ofNat Int m _)=true):decide (x<=m)=false:=Q3i (hcm▸h)
theorem Qzj {p:Prop} (h:p:=by (first|((try with_reducible refine Q8c ?_ ?_ ?_ ?_);all_goals (cbv;(try simp only[true_and,and_true]);(try ((repeat' apply And.intro)<;>(first|trivial|rfl|exact RowLe.rfl' _|decide|(rw[Qda har _ o9])|((rw[g0];done))|((rw[g1,har];done))|fail))));done)|fail)):Pf p:=⟨h⟩
theorem Qv7 (F:GFun) (w:World) (hF:F.At w):
 Calls Tryz.prog 25 #[F.val] w (Ret w (.bool (greatB F))):=by
 obtain ⟨z0,hz0⟩:=x9 (greatB F)
 obtain ⟨g,hg⟩:=x9 (Q64 F.sn)
 rw[<-hz0]
 rw[greatB,<-hg] at hz0
 have g0:g 0=0:=by rw[hg];rfl
 have g1:∀i,g (i+1)=rAr .add .i64 (g i) (rAr .add .i64 (.ofNat (F.sn i)) 1):=fun i=>by rw[hg];rfl
 clear hg
 obtain ⟨_,_,_,ln,_,_,_,_,bn,_,_,sn,_,s,_,_,_,_,_,_,_,_,_,_⟩:=F
 obtain ⟨hX,hl,hb,hs,hj⟩:=hF
 simp only at hl hb hs hj
 simp only at hz0 g1
 refine Qaa (args:=[.pt (.agg (GFun.dat _))]) (c:=(Qwa _)) Tryz.func25 rfl hX rfl rfl ?_
 obtain ⟨_,_,_,hnt,_,har,cm,hcm,_,_,_,_,ar01,ar12,_,hzpl,_,_,_,_,_,_,_,_,hT⟩:=Qca
 have h30:∀t:Nat,cm .leq (.ofNat t) 30=true->t<=30:=fun t h=>by
  rw[hcm] at h
  have:=of_decide_eq_true (show decide ((t:Int)<=30)=true from h)
  omega
 have n30:∀t:Nat,cm .leq (.ofNat t) 30=false->30<t:=fun t h=>by
  rw[hcm] at h
  have:=of_decide_eq_false (show decide ((t:Int)<=30)=false from h)
  omega
 repeat' (first
  | refine go1 ?_|refine go3 (fun hlt=>?_) (fun hge=>?_)|refine go2 (fun h=>?_) (fun h=>?_)|refine gof ?_
  | ((with_reducible refine Qgha (σ:={i:Nat // i<=bn/\i<=31}) (zs9 [5,21]) (fun x=>[(3,.pt (.one (.int .i64 (g x.1)))),zc9 4 x.1]) (fun x=>[]) (fun x=>[]) (fun x=>bn - x.1) ⟨0,by omega,by omega⟩ ?_ ?_);(·exact pfp Qzj);(rintro ⟨i,hi,hi31⟩ mm hmm))
  | ((with_reducible refine Qfha ⟨i+1,by omega,by have:=h30 i y9;omega⟩ ?_ ?_);(·exact msr o9 y9);(·exact pfp Qzj))
  | fail)
 all_goals (refine Qtb ?_)
 all_goals (have hm:min bn 31=i:=by first|omega|(have:=n30 i y9;omega))
 all_goals (rw[hz0,hm];clear hX hT hz0 h30 n30;subst hcm)
 all_goals simp only[rCm] at *
 all_goals simp only[decide_eq_true_eq,decide_eq_false_iff_not,Int.ofNat_eq_natCast] at *
 all_goals grind
theorem gfC (F:GFun) (w:World) (hF:F.At w):
 Calls Tryz.prog 26 #[F.val] w (Ret w (.bool (gfB F))):=by
 obtain ⟨z0,hz0⟩:=x9 (gfB F)
 rw[<-hz0]
 unfold gfB at hz0
 obtain ⟨_,_,_,ln,_,_,_,_,bn,_,_,sn,_,s,_,jn,_,_,_,_,_,_,_,_⟩:=F
 obtain ⟨hX,hl,hb,hs,hj⟩:=hF
 simp only at hl hb hs hj
 simp only at hz0
 obtain ⟨ga,hga⟩:=x9 (Qed bn fun b=>decide (sn b<=30)&&decide (jn b<=12))
 rw[<-hga] at hz0
 have h1:∀b,b<bn->decide (sn b<=30)=false\/decide (jn b<=12)=false->ga=false:=fun b hb h=>hga.trans (Qfb hb (by rcases h with h|h<;>rw[h]<;>simp))
 have h2:(∀b,b<bn->decide (sn b<=30)=true/\decide (jn b<=12)=true)->ga=true:=fun h=>hga.trans (Qla.2 fun b hb=>by rw[(h b hb).1,(h b hb).2];rfl)
 clear hga
 refine Qaa (args:=[.pt (.agg (GFun.dat _))]) (c:=(Qwa _)) Tryz.func26 rfl hX rfl rfl ?_
 obtain ⟨_,_,_,hnt,_,har,_,hcm,_,_,_,_,ar01,ar12,_,hzpl,_,_,_,_,_,_,_,_,hT⟩:=Qca
 repeat' (first
  | refine go1 ?_|refine go3 (fun hlt=>?_) (fun hge=>?_)|refine go2 (fun h=>?_) (fun h=>?_)|refine gof ?_
  | refine Qhha Tryz.func75 Tryz.results75 Tryz.call75 ?_
  | ((with_reducible refine Qgha (σ:={b:Nat // b<=bn/\∀j,j<b->decide (sn j<=30)=true/\decide (jn j<=12)=true}) (zs9 [2,1,14,24]) (fun x=>[zc9 3 x.1]) (fun x=>[]) (fun x=>[]) (fun x=>bn - x.1) ⟨0,by omega,fun j hj=>by omega⟩ ?_ ?_);(·exact pfp Qdb);(rintro ⟨b,hb1,hok⟩ mm hmm))
  | ((with_reducible refine Qfha ⟨b+1,by omega,Q3b hok (show decide (sn b<=30)=true/\decide (jn b<=12)=true from ⟨Qw7 hcm y9,Qw7 hcm y9⟩)⟩ ?_ ?_);(·exact msr o9 y9);(·exact pfp Qdb))
  | fail)
 all_goals (refine Qtb ?_)
 all_goals
  try have e1:=h1 b y9 (.inl (Qx7 hcm y9))
  try have e2:=h1 b y9 (.inr (Qx7 hcm y9))
  try have e3:=h2 (fun j hj=>hok j o9)
  try clear hmm hok
  clear hX hT h1 h2
  subst hcm
  simp only[rCm] at *
  subst_vars
  simp only[decide_eq_true_eq,decide_eq_false_iff_not,Int.ofNat_eq_natCast] at *
  grind
end
theorem Q7c {F:GFun} {n:Nat}:Qge F n=true↔piN F n<F.sn (pbN F n):=by simp[Qge]
def Q1o (F:GFun) (n:Nat):List KCon:=if Qge F n=true/\(stAt F n).k=1 then ofL F.lk (stAt F n) (.ofNat n) (.ofNat (F.ln+(Qia F n).length)) else []
def Qtd (F:GFun):Nat->List KCon
 | 0=>[]
 | n+1=>Qtd F n++Q1o F n
theorem Qxx (F:GFun):∀n,loN F.ln F.s F.sn (pbN F) (piN F) n=F.ln+(Qia F n).length
 | 0=>rfl
 | n+1=>by
   simp only[loN,Qia,Qxx F n,List.length_append,Q7c]
   by_cases h:piN F n<F.sn (pbN F n)
   · simp only[stAt,if_pos h]
     by_cases h':(F.s (pbN F n) (piN F n)).k=1/\(F.s (pbN F n) (piN F n)).r.k=4
     · rw[if_pos ⟨h,h'⟩,if_pos ⟨h,h'⟩];simp;omega
     · rw[if_neg (fun g=>h' g.2),if_neg (fun g=>h' g.2)];simp
   · rw[if_neg (fun g=>h g.1),if_neg (fun g=>h g.1)];simp
theorem Q8v (F:GFun):∀n,Qf4 F.lk F.ln F.s F.sn (pbN F) (piN F) n=Qtd F n
 | 0=>rfl
 | n+1=>by
   simp only[Qf4,Qtd,Q8v F n,Qxx,Q1o,Q7c]
   congr 1
   by_cases h:piN F n<F.sn (pbN F n)
   · simp only[stAt,if_pos h]
   · rw[if_neg (fun g=>h g.1),if_neg (fun g=>h g.1)]
theorem Qth (F:GFun):Qlc F=Qtd F (stN F.sn F.bn):=Q8v F _
theorem Qes (F:GFun) (n:Nat):(Q1o F n).length<=2:=by
 unfold Q1o
 split
 · exact Qey _ _ _ _
 · simp
theorem Q2o (F:GFun):∀n,(Qtd F n).length<=2 * n
 | 0=>Nat.le_refl _
 | n+1=>by have:=Q2o F n;have:=Qes F n;simp only[Qtd,List.length_append];omega
theorem Qhu {p:GPlace} (h:p.whole=true):p.d=false/\p.f=0:=by
 simpa [GPlace.whole] using h
structure ConOk (F:GFun) (n:Nat) (c:KCon):Prop where
 at_:c.at_=.ofNat n
 is:Qge F n=true
 k:(stAt F n).k=1
 to:(stAt F n).p.l=c.to
 d:(stAt F n).p.d=false
 f:(stAt F n).p.f=0
 why:(c.why=2/\c.fr=.ofNat (F.ln+(Qia F n).length)/\(stAt F n).r.k=4)\/
  (c.why=3/\(stAt F n).r.k=4/\(stAt F n).r.p.d=true/\(stAt F n).r.p.l=c.fr/\Qzd (F.lk c.fr.toNat)=true)\/
  (c.why=1/\(stAt F n).r.k=1/\(stAt F n).r.a.k≠1/\(stAt F n).r.a.p.l=c.fr/\(stAt F n).r.a.p.d=false/\(stAt F n).r.a.p.f=0/\Qzd (F.lk c.fr.toNat)=true/\Qzd (F.lk c.to.toNat)=true)
theorem Qvq {F:GFun} {n:Nat}:∀c∈Q1o F n,ConOk F n c:=fun c hc=>by
 unfold Q1o at hc
 split at hc
 · rename_i h
   unfold ofL at hc
   split at hc
   · rename_i hw
     have hw:=Qhu hw
     split at hc
     · rename_i hr
       simp only[beq_iff_eq] at hr
       simp only[List.mem_cons] at hc
       rcases hc with rfl|hc
       · exact ⟨rfl,h.1,h.2,rfl,hw.1,hw.2,.inl ⟨rfl,rfl,hr⟩⟩
       · split at hc
         · rename_i g
           simp only[Bool.and_eq_true] at g
           simp only[List.mem_cons,List.not_mem_nil,or_false] at hc
           subst hc
           exact ⟨rfl,h.1,h.2,rfl,hw.1,hw.2,.inr (.inl ⟨rfl,hr,g.1,rfl,g.2⟩)⟩
         · simp at hc
     · split at hc
       · rename_i g
         simp only[Bool.and_eq_true,beq_iff_eq,bne_iff_ne,ne_eq] at g
         simp only[List.mem_cons,List.not_mem_nil,or_false] at hc
         subst hc
         have ha:=Qhu g.1.1.2
         exact ⟨rfl,h.1,h.2,rfl,hw.1,hw.2,.inr (.inr ⟨rfl,g.1.1.1.1,g.1.1.1.2,rfl,ha.1,ha.2,g.1.2,g.2⟩)⟩
       · simp at hc
   · simp at hc
 · simp at hc
theorem Q9v {F:GFun} {n:Nat} {j:Nat} (hj:j<(Q1o F n).length) (h3:((Q1o F n).getD j .zero).why=3):j=1/\((Q1o F n).getD 0 .zero).why=2:=by
 unfold Q1o at hj h3⊢
 split at hj
 · rename_i h
   rw[if_pos h] at h3⊢
   unfold ofL at hj h3⊢
   split at hj
   · rename_i hw
     rw[if_pos hw] at h3⊢
     split at hj
     · rename_i hr
       rw[if_pos hr] at h3⊢
       split at hj
       · rename_i g
         rw[if_pos g] at h3⊢
         simp only[List.length_cons,List.length_nil] at hj
         have:j=0\/j=1:=by omega
         rcases this with rfl|rfl
         · simp at h3
         · exact ⟨rfl,rfl⟩
       · rename_i g
         rw[if_neg g] at h3⊢
         simp only[List.length_cons,List.length_nil] at hj
         have:j=0:=by omega
         subst this
         simp at h3
     · rename_i hr
       rw[if_neg hr] at h3⊢
       split at hj
       · rename_i g
         rw[if_pos g] at h3⊢
         simp only[List.length_cons,List.length_nil] at hj
         have:j=0:=by omega
         subst this
         simp at h3
       · simp at hj
   · simp at hj
 · simp at hj
structure ConAt (F:GFun) (n:Nat) (L:List KCon) (i:Nat) (a:Nat):Prop where
 lt:a<n
 ok:ConOk F a (L.getD i .zero)
 up:0<i->(L.getD (i - 1) .zero).at_<=.ofNat a
 past:(L.getD i .zero).why=3->0<i/\(L.getD (i - 1) .zero).at_=.ofNat a/\(L.getD (i - 1) .zero).why=2
theorem Qme {α:Type} (l m:List α) (d:α) {j:Nat} (h:j<l.length):(l++m).getD j d=l.getD j d:=by
 simp[List.getD,List.getElem?_append_left h]
theorem Q8d {α:Type} (l m:List α) (d:α) (j:Nat):(l++m).getD (l.length+j) d=m.getD j d:=by
 simp[List.getD,List.getElem?_append_right]
theorem Q9m {α:Type} {l:List α} {d:α} {j:Nat} (h:j<l.length):l.getD j d∈l:=by
 simp only[List.getD,List.getElem?_eq_getElem h,Option.getD_some]
 exact List.getElem_mem h
theorem Q6m {F:GFun}:∀{n i:Nat},i<(Qtd F n).length->∃a,ConAt F n (Qtd F n) i a
 | 0,i,h=>by simp[Qtd] at h
 | n+1,i,h=>by
   simp only[Qtd]
   by_cases g:i<(Qtd F n).length
   · obtain ⟨a,h1,h2,h3,h4⟩:=Q6m g
     refine ⟨a,by omega,?_,fun hi=>?_,fun hw=>?_⟩
     · rw[Qme _ _ _ g];exact h2
     · rw[Qme _ _ _ o9];exact h3 hi
     · rw[Qme _ _ _ g] at hw
       rw[Qme _ _ _ o9];exact h4 hw
   · obtain ⟨j,rfl⟩:∃j,i=(Qtd F n).length+j:=⟨i - (Qtd F n).length,by omega⟩
     simp only[Qtd,List.length_append] at h
     have hj:j<(Q1o F n).length:=by omega
     refine ⟨n,by omega,?_,fun hi=>?_,fun hw=>?_⟩
     · rw[Q8d];exact Qvq _ (Q9m hj)
     · cases j with
       | zero=>
         simp only[Nat.add_zero] at hi⊢
         rw[Qme _ _ _ o9]
         obtain ⟨a,h1,h2,_,_⟩:=Q6m (F:=F) (n:=n) (i:=(Qtd F n).length - 1) o9
         rw[h2.at_]
         simp only[Int.ofNat_eq_natCast];omega
       | succ j=>
         rw[show (Qtd F n).length+(j+1) - 1=(Qtd F n).length+j by omega,Q8d]
         rw[(Qvq _ (Q9m (show j<(Q1o F n).length by omega))).at_]
         exact Int.le_refl _
     · rw[Q8d] at hw
       obtain ⟨rfl,h2⟩:=Q9v hj hw
       refine ⟨by omega,?_,?_⟩
       · rw[show (Qtd F n).length+1 - 1=(Qtd F n).length+0 by omega,Q8d]
         exact (Qvq _ (Q9m (show 0<(Q1o F n).length by omega))).at_
       · rw[show (Qtd F n).length+1 - 1=(Qtd F n).length+0 by omega,Q8d];exact h2
theorem Qng {F:GFun} {a:Nat} (h1:Qge F a=true) (h2:(stAt F a).k=1) (h3:(stAt F a).r.k=4):∀n,a<n->(Qia F a).length<(Qia F n).length/\(Qia F n).getD (Qia F a).length 0=a
 | 0,h=>by omega
 | n+1,h=>by
   rcases Nat.lt_or_eq_of_le (Nat.le_of_lt_succ h) with g|rfl
   · obtain ⟨e1,e2⟩:=Qng h1 h2 h3 n g
     simp only[Qia,List.length_append]
     exact ⟨by omega,by rw[Qme _ _ _ e1];exact e2⟩
   · simp only[Qia]
     rw[if_pos ⟨h1,h2,h3⟩]
     refine ⟨by simp,?_⟩
     simp
theorem Qfg {sn:N9z} {a b:Nat} (h:a<=b):stN sn a<=stN sn b:=by
 rcases Nat.lt_or_eq_of_le h with h|rfl
 · exact Nat.le_of_lt (Qgo sn h)
 · exact Nat.le_refl _
theorem Qi6 {sn:N9z} {a b i j:Nat} (hi:i<=sn a) (hj:j<=sn b) (h:stN sn a+i=stN sn b+j):a=b/\i=j:=by
 have e:a=b:=by
  rcases Nat.lt_trichotomy a b with g|g|g
  · have:=Qfg (sn:=sn) (show a+1<=b from g);simp only[stN] at this;omega
  · exact g
  · have:=Qfg (sn:=sn) (show b+1<=a from g);simp only[stN] at this;omega
 subst e
 exact ⟨rfl,by omega⟩
theorem Q9t {sn:N9z} {b bn i:Nat} (hb:b<bn) (hi:i<=sn b):stN sn b+i<stN sn bn:=by
 have:=Qfg (sn:=sn) (show b+1<=bn from hb)
 simp only[stN] at this;omega
theorem Q7l {F:GFun} {b i:Nat} (hb:b<F.bn) (hi:i<=F.sn b):pbN F (stN F.sn b+i)=b/\piN F (stN F.sn b+i)=i:=by
 obtain ⟨h1,h2,h3⟩:=Qoc (Q9t hb hi)
 obtain ⟨e1,e2⟩:=Qi6 h2 hi h3.symm
 exact ⟨e1,e2⟩
def Qxl (F:GFun):Nat->Nat
 | 0=>0
 | n+1=>Qxl F n+if Qge F n=true then 1 else 0
theorem Qzo {F:GFun} {b:Nat} (hb:b<F.bn):∀i,i<=F.sn b->Qxl F (stN F.sn b+i)=Qxl F (stN F.sn b)+i
 | 0,_=>rfl
 | i+1,h=>by
   have e:=Q7l hb (show i<=F.sn b by omega)
   have hi:Qge F (stN F.sn b+i)=true:=Q7c.2 (by rw[e.1,e.2];omega)
   rw[<-Nat.add_assoc]
   simp only[Qxl,if_pos hi]
   rw[Qzo hb i o9];omega
theorem Q5m {F:GFun}:∀b,b<=F.bn->Qxl F (stN F.sn b)+b=stN F.sn b
 | 0,_=>rfl
 | b+1,h=>by
   have ih:=Q5m (F:=F) b o9
   have e:=Q7l (F:=F) (b:=b) o9 (Nat.le_refl _)
   have hi:¬Qge F (stN F.sn b+F.sn b)=true:=fun h=>by
    have:=Q7c.1 h
    rw[e.1,e.2] at this;omega
   simp only[stN,Qxl,if_neg hi]
   rw[Qzo o9 _ (Nat.le_refl _)];omega
theorem Qam (F:GFun):∀n,(Qtd F n).length<=2 * Qxl F n
 | 0=>Nat.le_refl _
 | n+1=>by
   have:=Qam F n
   have h2:=Qes F n
   simp only[Qtd,List.length_append,Qxl]
   by_cases h:Qge F n=true
   · rw[if_pos h];omega
   · rw[if_neg h]
     have:Q1o F n=[]:=by unfold Q1o;rw[if_neg (fun g=>h g.1)]
     rw[this];simpa using by assumption
theorem Q8t {sn:N9z} {n:Nat} (hs:∀b,b<n->sn b<=24):∀b,b<=n->stN sn b<=b * 25
 | 0,_=>Nat.le_refl _
 | b+1,h=>by have:=Q8t hs b o9;have:=hs b o9;simp only[stN];omega
theorem GFun.Ok.pts {F:GFun} (h:F.Ok):stN F.sn F.bn<=600:=by
 have:=Q8t (sn:=F.sn) (fun b hb=>h.sn24 hb) F.bn (Nat.le_refl _)
 have:=h.bn24;omega
theorem GFun.Ok.cons {F:GFun} (h:F.Ok):(Qlc F).length<=1152:=by
 rw[Qth]
 have h1:=Qam F (stN F.sn F.bn)
 have h2:=Q5m (F:=F) F.bn (Nat.le_refl _)
 have h3:=Q8t (sn:=F.sn) (fun b hb=>h.sn24 hb) F.bn (Nat.le_refl _)
 have:=h.bn24;omega
theorem Qg6 {F:GFun} {n:Nat} (hn:n<stN F.sn F.bn) (h:Qge F n=true):pbN F n<F.bn/\piN F n<F.sn (pbN F n)/\stAt F n=F.s (pbN F n) (piN F n):=by
 have:=Q7c.1 h
 exact ⟨(Qoc hn).1,this,by unfold stAt;rw[if_pos this]⟩
theorem GFun.Ok.nearAt {F:GFun} (h:F.Ok) {n:Nat} (hn:n<stN F.sn F.bn) (hi:Qge F n=true) (hk:(stAt F n).k=1):(0<=(stAt F n).p.l/\(stAt F n).p.l<F.ln)/\(0<=(stAt F n).r.p.l/\(stAt F n).r.p.l<F.ln)/\(0<=(stAt F n).r.a.p.l/\(stAt F n).r.a.p.l<F.ln):=by
 obtain ⟨h1,h2,h3⟩:=Qg6 hn hi
 rw[h3] at hk⊢
 exact h.nearS _ _ h1 h2 hk
section
variable {F:GFun} {b0 i0:Nat} {t:GStmt}
end
theorem RowIs.rowG {c:R9z} {w:World} {R:ORow} {a:Option Addr} {cap:Nat} (h:RowIs c w R (.slice a R.n cap)) {j:Nat} (hj:j<R.n):
 ∃b p,a=some ⟨b,p,none⟩/\b<w.heap.size/\∃vs,isL ⟨[],c,[]⟩ (R.el j) vs/\∀(t:Nat) (v:Value),vs[t]? =some v->w.cell? ⟨b,p+(j * R.es+t),none⟩=some v:=by
 obtain ⟨xs,hO,hE,hb⟩:=h
 rcases hO.2.2 with ⟨_,h0⟩|⟨g,o,cap',cur,ty,hv,hg,rest⟩
 · omega
 · cases hv
   refine ⟨g,o,rfl,hb g rfl,_,hE j hj,fun t v ht=>?_⟩
   simp only[List.getElem?_take,List.getElem?_drop] at ht
   split at ht
   · exact hO.cell ht
   · cases ht
end Go.Proofs.YtemnfncbgalljaaGreat
