/- Lemmas. No condition. -/
import Derived.Test.YtemnfncbgalljabIdA
namespace Go.Proofs.Ytemnfncbgalljab
open Go.RowKit
set_option linter.all false
set_option maxHeartbeats 64000000
set_option maxRecDepth 100000
theorem Qlka (l f:Int) (d:Bool) (w:World):
 Calls Try.prog 90 #[.agg #[.int .i64 l,.bool d,.int .u8 f]] w (Ret w (.agg #[.int .i64 l,.bool (!Q6a ⟨l,d,f⟩),.bool (Q6a ⟨l,d,f⟩),.bool false])):=by
 obtain ⟨z,hz⟩:=x9 (Q6a ⟨l,d,f⟩)
 obtain ⟨z',hz'⟩:=x9 ( !z)
 rw[<-hz,<-hz']
 refine Qaa (args:=[.pt (.agg [.int .i64 l,.bool d,.int .u8 f])]) (c:=Qra) Try.func90 rfl (Qga _) rfl rfl ?_
 obtain ⟨_,hnd,_,hnt,_,har,_,hcm,_,_,_,_,ar01,ar12,_,hzpl,_,hzjn,_,_,_,_,_,_,hT⟩:=Qca
 repeat' (first
  | refine go1 ?_|refine go2 (fun h=>?_) (fun h=>?_)
  | fail)
 all_goals
  subst hnd hnt hcm
  simp only[Q6a] at hz
  subst hz'
  subst hz
  simp_all
 all_goals (rw[Bool.eq_iff_iff];simp)
theorem Qcka {p:Prop} (h:p:=by (first|((try with_reducible refine Q8c ?_ ?_ ?_ ?_);all_goals (cbv;(try simp only[true_and,and_true]);(try ((repeat' apply And.intro)<;>(first|trivial|rfl|exact RowLe.rfl' _|decide|(rw[Qda har _ o9];done)|((rw[hR];first|exact Q9ka|exact Qyla rfl rfl rfl rfl (Qaka (by first|exact Qrda _|exact Qsda _) (by first|exact Qrda _|exact Qsda _) (by first|exact Qrda _|exact Qsda _))|exact Qmna (Qaka (by first|exact Qrda _|exact Qsda _) (by first|exact Qrda _|exact Qsda _) (by first|exact Qrda _|exact Qsda _))|exact Qnna hzpl hzjn (Qaka (by first|exact Qrda _|exact Qsda _) (by first|exact Qrda _|exact Qsda _) (by first|exact Qrda _|exact Qsda _)) (Qaka (by first|exact Qrda _|exact Qsda _) (by first|exact Qrda _|exact Qsda _) (by first|exact Qrda _|exact Qsda _))|exact Q6na hzpl hzjn (Qaka (by first|exact Qrda _|exact Qsda _) (by first|exact Qrda _|exact Qsda _) (by first|exact Qrda _|exact Qsda _)) (Qaka (by first|exact Qrda _|exact Qsda _) (by first|exact Qrda _|exact Qsda _) (by first|exact Qrda _|exact Qsda _)) (Qaka (by first|exact Qrda _|exact Qsda _) (by first|exact Qrda _|exact Qsda _) (by first|exact Qrda _|exact Qsda _))))|fail))));done)|fail)):Pf p:=⟨h⟩
theorem Qqoa (n:Nat) (w:World) (s:GStmt) (hs:s.ok=true) (hin:StIn n s):
 Calls Try.prog 75 #[s.val] w (RetR w Qra (.pt (.one (.rs 0))) [deR (stD s)]):=by
 have h1 (hk:s.k=1) (wc:World):=Q1z s.r.k s.r.op s.r.bo s.r.a.k s.r.a.n s.r.a.p.l s.r.a.p.f s.r.b.k s.r.b.n s.r.b.p.l s.r.b.p.f s.r.p.l s.r.p.f s.r.a.p.d s.r.b.p.d s.r.p.d wc
 have e1 (hk:s.k=1):(GRv.mk s.r.k s.r.op s.r.bo ⟨s.r.a.k,s.r.a.n,⟨s.r.a.p.l,s.r.a.p.d,s.r.a.p.f⟩⟩ ⟨s.r.b.k,s.r.b.n,⟨s.r.b.p.l,s.r.b.p.d,s.r.b.p.f⟩⟩ ⟨s.r.p.l,s.r.p.d,s.r.p.f⟩).ok=true:=by
  show s.r.ok=true
  simp only[GStmt.ok,Bool.or_eq_true,Bool.and_eq_true,beq_iff_eq] at hs
  grind
 have h1 (hk:s.k=1) (wc:World):=by
  have:=h1 hk wc
  rw[e1 hk] at this
  exact this
 clear e1 hs
 obtain ⟨L,hL⟩:=x9 (stD s)
 obtain ⟨R,hR⟩:=x9 (deR (stD s))
 rw[<-hR]
 rw[<-hL] at hR
 simp only[stD,rvD,opD,wrD] at hL
 have hk:=hin.k
 have hr:=hin.r
 have ha:=hin.a
 clear hin
 obtain ⟨yk,⟨ql,qd,qf⟩,⟨rk,ro,rb,⟨ak,an,⟨al,ad,af⟩⟩,⟨ek,en,⟨el,ed,ef⟩⟩,⟨gl,gd,gf⟩⟩,⟨ck,cn,⟨cl,cd,cf⟩⟩,yl⟩:=s
 simp only at h1 hL hk hr ha
 rcases hk with rfl|rfl|rfl|rfl
 · have hr:=hr rfl
   have h1:=h1 rfl
   clear ha
   rcases hr with ⟨rfl,hx⟩|⟨rfl|rfl,hx,hy⟩|rfl|rfl
   · rcases hx with hx|⟨hx|hx,hx0,hx1⟩<;>simp only at hx<;>subst hx
     all_goals
      skip
      simp at hL
      subst hL
      refine Qaa (args:=[.pt (.agg (GStmt.sc _))]) (c:=Qra) Try.func75 rfl (Qga _) rfl rfl ?_
      obtain ⟨_,_,_,hnt,_,har,_,hcm,_,_,_,_,ar01,ar12,_,hzpl,_,hzjn,_,_,_,_,_,_,hT⟩:=Qca
      repeat' (first
       | (refine gov ?_;(try simp only[ar01,ar12]))
       | refine goa ?_|refine gof ?_
       | exact gor (ha:=Qcka) (hb:=Qcka)
       | refine gob ?_
       | ((with_reducible refine Q4c ?_ ?_);(·first|((rw[hzpl];exact (show 1+1+1<=1073741824 from by decide)))))
       | (refine' Qiha Try.call86 ?_ ?_;rotate_left;(·intro wc hbc hxc;exact h1 wc))
       | refine Qhha Try.func88 Try.results88 Try.call88 ?_
       | refine Qhha Try.func103 Try.results103 Try.call103 ?_
       | refine Qhha Try.func89 Try.results89 Try.call89 ?_
       | (refine' Qiha Try.call90 ?_ ?_;rotate_left;(·intro wc hbc hxc;exact Qlka _ _ _ wc))
       | (with_reducible apply Qqa 4)
       | fail)
   · rcases hx with hx|⟨hx|hx,hx0,hx1⟩<;>rcases hy with hy|⟨hy|hy,hy0,hy1⟩<;>simp only at hx hy<;>subst hx hy
     all_goals
      skip
      simp at hL
      subst hL
      refine Qaa (args:=[.pt (.agg (GStmt.sc _))]) (c:=Qra) Try.func75 rfl (Qga _) rfl rfl ?_
      obtain ⟨_,_,_,hnt,_,har,_,hcm,_,_,_,_,ar01,ar12,_,hzpl,_,hzjn,_,_,_,_,_,_,hT⟩:=Qca
      repeat' (first
       | (refine gov ?_;(try simp only[ar01,ar12]))
       | refine goa ?_|refine gof ?_
       | exact gor (ha:=Qcka) (hb:=Qcka)
       | refine gob ?_
       | ((with_reducible refine Q4c ?_ ?_);(·first|((rw[hzpl];exact (show 1+1+1<=1073741824 from by decide)))))
       | (refine' Qiha Try.call86 ?_ ?_;rotate_left;(·intro wc hbc hxc;exact h1 wc))
       | refine Qhha Try.func88 Try.results88 Try.call88 ?_
       | refine Qhha Try.func103 Try.results103 Try.call103 ?_
       | refine Qhha Try.func89 Try.results89 Try.call89 ?_
       | (refine' Qiha Try.call90 ?_ ?_;rotate_left;(·intro wc hbc hxc;exact Qlka _ _ _ wc))
       | (with_reducible apply Qqa 4)
       | fail)
   · rcases hx with hx|⟨hx|hx,hx0,hx1⟩<;>rcases hy with hy|⟨hy|hy,hy0,hy1⟩<;>simp only at hx hy<;>subst hx hy
     all_goals
      skip
      simp at hL
      subst hL
      refine Qaa (args:=[.pt (.agg (GStmt.sc _))]) (c:=Qra) Try.func75 rfl (Qga _) rfl rfl ?_
      obtain ⟨_,_,_,hnt,_,har,_,hcm,_,_,_,_,ar01,ar12,_,hzpl,_,hzjn,_,_,_,_,_,_,hT⟩:=Qca
      repeat' (first
       | (refine gov ?_;(try simp only[ar01,ar12]))
       | refine goa ?_|refine gof ?_
       | exact gor (ha:=Qcka) (hb:=Qcka)
       | refine gob ?_
       | ((with_reducible refine Q4c ?_ ?_);(·first|((rw[hzpl];exact (show 1+1+1<=1073741824 from by decide)))))
       | (refine' Qiha Try.call86 ?_ ?_;rotate_left;(·intro wc hbc hxc;exact h1 wc))
       | refine Qhha Try.func88 Try.results88 Try.call88 ?_
       | refine Qhha Try.func103 Try.results103 Try.call103 ?_
       | refine Qhha Try.func89 Try.results89 Try.call89 ?_
       | (refine' Qiha Try.call90 ?_ ?_;rotate_left;(·intro wc hbc hxc;exact Qlka _ _ _ wc))
       | (with_reducible apply Qqa 4)
       | fail)
   all_goals
    skip
    simp at hL
    subst hL
    refine Qaa (args:=[.pt (.agg (GStmt.sc _))]) (c:=Qra) Try.func75 rfl (Qga _) rfl rfl ?_
    obtain ⟨_,_,_,hnt,_,har,_,hcm,_,_,_,_,ar01,ar12,_,hzpl,_,hzjn,_,_,_,_,_,_,hT⟩:=Qca
    repeat' (first
     | (refine gov ?_;(try simp only[ar01,ar12]))
     | refine goa ?_
     | exact gor (ha:=Qcka) (hb:=Qcka)
     | refine gob ?_
     | ((with_reducible refine Q4c ?_ ?_);(·first|((rw[hzpl];exact (show 1+1+1<=1073741824 from by decide)))))
     | (refine' Qiha Try.call86 ?_ ?_;rotate_left;(·intro wc hbc hxc;exact h1 wc))
     | refine Qhha Try.func88 Try.results88 Try.call88 ?_
     | refine Qhha Try.func103 Try.results103 Try.call103 ?_
     | refine Qhha Try.func89 Try.results89 Try.call89 ?_
     | (refine' Qiha Try.call90 ?_ ?_;rotate_left;(·intro wc hbc hxc;exact Qlka _ _ _ wc))
     | (with_reducible apply Qqa 4)
     | fail)
 · have hx:=ha (.inl rfl)
   clear hr ha h1
   rcases hx with hx|⟨hx|hx,hx0,hx1⟩<;>simp only at hx<;>subst hx
   all_goals
    skip
    simp at hL
    subst hL
    refine Qaa (args:=[.pt (.agg (GStmt.sc _))]) (c:=Qra) Try.func75 rfl (Qga _) rfl rfl ?_
    obtain ⟨_,_,_,hnt,_,har,_,hcm,_,_,_,_,ar01,ar12,_,hzpl,_,hzjn,_,_,_,_,_,_,hT⟩:=Qca
    repeat' (first
     | (refine gov ?_;(try simp only[ar01,ar12]))
     | refine goa ?_|refine gof ?_
     | exact gor (ha:=Qcka) (hb:=Qcka)
     | refine gob ?_
     | ((with_reducible refine Q4c ?_ ?_);(·first|((rw[hzpl];exact (show 1+1+1<=1073741824 from by decide)))))
     | refine Qhha Try.func89 Try.results89 Try.call89 ?_
     | (with_reducible apply Qqa 4)
     | fail)
 · skip
   clear hr ha h1
   all_goals
    skip
    simp at hL
    subst hL
    refine Qaa (args:=[.pt (.agg (GStmt.sc _))]) (c:=Qra) Try.func75 rfl (Qga _) rfl rfl ?_
    obtain ⟨_,_,_,hnt,_,har,_,hcm,_,_,_,_,ar01,ar12,_,hzpl,_,hzjn,_,_,_,_,_,_,hT⟩:=Qca
    repeat' (first
     | (refine gov ?_;(try simp only[ar01,ar12]))
     | refine goa ?_
     | exact gor (ha:=Qcka) (hb:=Qcka)
     | fail)
 · have hx:=ha (.inr rfl)
   clear hr ha h1
   rcases hx with hx|⟨hx|hx,hx0,hx1⟩<;>simp only at hx<;>subst hx
   all_goals
    skip
    simp at hL
    subst hL
    refine Qaa (args:=[.pt (.agg (GStmt.sc _))]) (c:=Qra) Try.func75 rfl (Qga _) rfl rfl ?_
    obtain ⟨_,_,_,hnt,_,har,_,hcm,_,_,_,_,ar01,ar12,_,hzpl,_,hzjn,_,_,_,_,_,_,hT⟩:=Qca
    repeat' (first
     | (refine gov ?_;(try simp only[ar01,ar12]))
     | refine goa ?_|refine gof ?_
     | exact gor (ha:=Qcka) (hb:=Qcka)
     | refine gob ?_
     | ((with_reducible refine Q4c ?_ ?_);(·first|((rw[hzpl];exact (show 1+1+1<=1073741824 from by decide)))))
     | refine Qhha Try.func89 Try.results89 Try.call89 ?_
     | (with_reducible apply Qqa 4)
     | fail)
end Go.Proofs.Ytemnfncbgalljab
