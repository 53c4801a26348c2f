/- Lemmas. No condition. -/
import Derived.Test.YtemnfncbgalljaaGreatLwE
namespace Go.Proofs.YtemnfncbgalljaaGreat
open Go.RowKit
set_option linter.all false
set_option maxHeartbeats 64000000
section
set_option maxRecDepth 100000
theorem Qz8 {r:GRv} (hs:r.ok=true):∀x∈rvU r,0<=x:=fun x hx=>by
 have hk:=Qkt hs
 have ha:r.k=1\/r.k=2\/r.k=3->r.a.k≠1->0<=r.a.p.l/\r.a.p.l<16:=fun g h=>by
  refine Qmd ?_ h
  simp only[GRv.ok,Bool.or_eq_true,Bool.and_eq_true,beq_iff_eq] at hs
  grind
 have hb:r.k=2\/r.k=3->r.b.k≠1->0<=r.b.p.l/\r.b.p.l<16:=fun g h=>by
  refine Qmd ?_ h
  simp only[GRv.ok,Bool.or_eq_true,Bool.and_eq_true,beq_iff_eq] at hs
  grind
 have hp:r.k=4\/r.k=5->0<=r.p.l/\r.p.l<16:=fun g=>by
  refine Qsg ?_
  simp only[GRv.ok,Bool.or_eq_true,Bool.and_eq_true,beq_iff_eq] at hs
  grind
 have ho:∀o:GOper,x∈opU o->o.k≠1/\x=o.p.l:=fun o h=>by
  unfold opU at h
  split at h
  · simp at h
  · rename_i g;exact ⟨g,List.mem_singleton.1 h⟩
 unfold rvU at hx
 unfold rvK at hk
 split at hx
 · rename_i g
   have:=ho _ hx
   rw[this.2];exact (ha (.inl g) this.1).1
 · rename_i g
   split at hx
   · rename_i g2
     rcases List.mem_append.1 hx with hx|hx
     · have:=ho _ hx
       rw[this.2];exact (ha (.inr g2) this.1).1
     · have:=ho _ hx
       rw[this.2];exact (hb g2 this.1).1
   · rename_i g2
     rw[List.mem_singleton.1 hx]
     exact (hp o9).1
theorem Q4p (l f:Int) (d:Bool) (w:World):
 Calls Tryz.prog 271 #[.agg #[.int .i64 l,.bool d,.int .u8 f]] w (Ret w (.bool (wholeP ⟨l,d,f⟩))):=by
 refine Qaa (args:=[.pt (.agg [.int .i64 l,.bool d,.int .u8 f])]) (c:=Qra) Tryz.func271 rfl (Qga _) rfl rfl ?_
 obtain ⟨_,hnd,_,hnt,_,har,_,hcm,_,_,_,_,ar01,ar12,_,hzpl,_,_,_,_,_,_,_,_,hT⟩:=Qca
 repeat' (first
  | refine go1 ?_|refine go2 (fun h=>?_) (fun h=>?_)
  | fail)
 all_goals
  subst hnd hnt hcm
  refine Qtb ?_
  grind [wholeP]
theorem Qm1 (s:GStmt) (hs:s.ok=true) (w:World):
 Calls Tryz.prog 231 #[s.val] w (Ret w (Qsl (usS s))):=by
 have hk:s.k=1\/s.k=2\/s.k=3\/s.k=4:=by
  simp only[GStmt.ok,Bool.or_eq_true,Bool.and_eq_true,beq_iff_eq] at hs
  omega
 have hin:=Qff hs
 have hr:s.k=1->s.r.ok=true/\s.a.k=0:=fun g=>by
  simp only[GStmt.ok,GOper.eqB,GOper.zero,Bool.or_eq_true,Bool.and_eq_true,beq_iff_eq] at hs
  grind
 have ho:s.k=2\/s.k=4->s.a.k=1\/s.a.k=2\/s.a.k=3:=fun g=>by
  have:s.a.ok=true:=by
   simp only[GStmt.ok,Bool.or_eq_true,Bool.and_eq_true,beq_iff_eq] at hs
   grind
  exact Qoj this
 by_cases h1:s.k=1
 · have hr:=hr h1
   have h4 (wc:World):=Ql1 s.r hr.1 wc
   have h5 (wc:World):=Q4p s.p.l s.p.f s.p.d wc
   have hp:=(hin.2.2 h1).1
   obtain ⟨U,hU⟩:=x9 (Qrh (rvU s.r) (fun _=>false))
   obtain ⟨z,hz⟩:=x9 (wholeP s.p)
   obtain ⟨y,hy⟩:=x9 (if z=true then U else turn U s.p.l.toNat true)
   have e:Qsl (usS s)=Qsl y:=Q9j fun l _=>by
    unfold usS
    rw[hy,hU,decide_eq_false o9,<-hz]
    have hs1:stR s=s.r:=by unfold stR;rw[if_pos h1]
    rw[hs1]
    have hlo:=Qz8 hr.1
    cases z
    · simp only[Bool.false_eq_true,if_false,turn]
      rw[Q6n _ _ _ hlo]
      by_cases g:l=s.p.l.toNat
      · have g2:s.p.l=Int.ofNat l:=by simp only[Int.ofNat_eq_natCast];omega
        rw[if_pos g,decide_eq_true g2];simp
      · have g2:¬s.p.l=Int.ofNat l:=fun e=>g (by rw[e];rfl)
        rw[if_neg g,decide_eq_false g2];simp
    · simp only[if_true]
      rw[Q6n _ _ _ hlo];simp
   rw[e]
   have hw:wholeP ⟨s.p.l,s.p.d,s.p.f⟩=z:=hz.symm
   rw[hw] at h5
   rw[<-hU] at h4
   clear e hU hz hin hk hs ho hw
   obtain ⟨yk,⟨ql,qd,qf⟩,⟨rk,ro,rb,⟨ak,an,⟨al,ad,af⟩⟩,⟨ek,en,⟨el,ed,ef⟩⟩,⟨gl,gd,gf⟩⟩,⟨ck,cn,⟨cl,cd,cf⟩⟩,yl⟩:=s
   simp only at h1 h4 h5 hp hr hy
   have hck:=hr.2
   clear hr
   subst h1 hck
   cases z
   all_goals
    simp at hy
    refine Qaa (args:=[.pt (.agg [.int .u8 1,.int .i64 ql,.bool qd,.int .u8 qf,.int .u8 rk,.int .u8 ro,.int .u8 rb,.int .u8 ak,.int .i64 an,.int .i64 al,.bool ad,.int .u8 af,.int .u8 ek,.int .i64 en,.int .i64 el,.bool ed,.int .u8 ef,.int .i64 gl,.bool gd,.int .u8 gf,.int .u8 0,.int .i64 cn,.int .i64 cl,.bool cd,.int .u8 cf,.int .i64 yl])]) (c:=Qra) Tryz.func231 rfl (Qga _) rfl rfl ?_
    obtain ⟨_,_,_,hnt,_,har,_,hcm,_,_,_,_,ar01,ar12,_,hzpl,_,_,_,_,_,_,_,_,hT⟩:=Qca
    repeat' (first
     | refine goa ?_|refine gof ?_
     | (refine' Qiha Tryz.call270 ?_ ?_;rotate_left;(·intro wc hbc hxc;exact h4 wc))
     | (refine' Qiha Tryz.call271 ?_ ?_;rotate_left;(·intro wc hbc hxc;exact h5 wc))
     | refine Qhha Tryz.func190 Tryz.results190 Tryz.call190 ?_
     | (((with_reducible apply Q5a (Qrb y));(·exact lt_of_eq_of_lt (Qzb ql) (by have:=hp;show _<16;omega));(·have hq:=Qsb U true (o:=ql.toNat) (by have:=hp;omega);rw[hy];exact Eq.mpr (congrArg (fun o=>Qbc (Qka (Qrb U) o [.lit true]) (Qrb (turn U ql.toNat true))) (Qzb ql)) hq);(·rfl);(·simp)))
     | fail)
   all_goals (first|rfl|(rw[hy];rfl))
 have hst:stR s=⟨1,0,0,s.a,.zero,.zero⟩:=by unfold stR;rw[if_neg h1]
 have hw:s.k≠3->wholeP s.p=true:=fun h3=>by
  simp only[GStmt.ok,GPlace.eqB,GPlace.zero,Bool.or_eq_true,Bool.and_eq_true,beq_iff_eq] at hs
  have:s.p.d=false/\s.p.f=0:=by grind
  simp[wholeP,this.1,this.2]
 by_cases h3:s.k=3
 · have hck:s.a.k=0:=by
    simp only[GStmt.ok,GOper.eqB,GOper.zero,Bool.or_eq_true,Bool.and_eq_true,beq_iff_eq] at hs
    grind
   have e:Qsl (usS s)=Qsl (fun _=>false):=Q9j fun l _=>by unfold usS;rw[decide_eq_true h3];rfl
   rw[e]
   clear e hw hst hr ho hin hk hs h1
   obtain ⟨yk,⟨ql,qd,qf⟩,⟨rk,ro,rb,⟨ak,an,⟨al,ad,af⟩⟩,⟨ek,en,⟨el,ed,ef⟩⟩,⟨gl,gd,gf⟩⟩,⟨ck,cn,⟨cl,cd,cf⟩⟩,yl⟩:=s
   simp only at h3 hck
   subst h3 hck
   refine Qaa (args:=[.pt (.agg [.int .u8 3,.int .i64 ql,.bool qd,.int .u8 qf,.int .u8 rk,.int .u8 ro,.int .u8 rb,.int .u8 ak,.int .i64 an,.int .i64 al,.bool ad,.int .u8 af,.int .u8 ek,.int .i64 en,.int .i64 el,.bool ed,.int .u8 ef,.int .i64 gl,.bool gd,.int .u8 gf,.int .u8 0,.int .i64 cn,.int .i64 cl,.bool cd,.int .u8 cf,.int .i64 yl])]) (c:=Qra) Tryz.func231 rfl (Qga _) rfl rfl ?_
   obtain ⟨_,_,_,hnt,_,har,_,hcm,_,_,_,_,ar01,ar12,_,hzpl,_,_,_,_,_,_,_,_,hT⟩:=Qca
   repeat' (first
    | refine goa ?_
    | refine Qhha Tryz.func190 Tryz.results190 Tryz.call190 ?_
    | fail)
   all_goals rfl
 · have h24:s.k=2\/s.k=4:=by omega
   replace ho:=ho h24
   have hp:=hin.2.1 h24
   obtain ⟨y,hy⟩:=x9 (if s.a.k=1 then (fun _=>false) else turn (fun _=>false) s.a.p.l.toNat true:B9z)
   have e:Qsl (usS s)=Qsl y:=Q9j fun l _=>by
    unfold usS
    rw[hy,decide_eq_false h3,hw h3,hst]
    unfold rvU opU
    by_cases g:s.a.k=1
    · simp[g]
    · have hl:=hp g
      simp only[if_true,if_neg g,turn]
      by_cases g3:l=s.a.p.l.toNat
      · have g2:Int.ofNat l=s.a.p.l:=by simp only[Int.ofNat_eq_natCast];omega
        rw[if_pos g3,g2];simp
      · have g2:¬(l:Int)=s.a.p.l:=fun e=>g3 (by rw[<-e];rfl)
        rw[if_neg g3];simp[g2]
   rw[e]
   clear e hw hst hr hin hk hs
   obtain ⟨yk,⟨ql,qd,qf⟩,⟨rk,ro,rb,⟨ak,an,⟨al,ad,af⟩⟩,⟨ek,en,⟨el,ed,ef⟩⟩,⟨gl,gd,gf⟩⟩,⟨ck,cn,⟨cl,cd,cf⟩⟩,yl⟩:=s
   simp only at h1 h3 h24 ho hp hy
   clear h1 h3
   rcases h24 with rfl|rfl<;>rcases ho with rfl|rfl|rfl
   · simp at hy
     refine Qaa (args:=[.pt (.agg [.int .u8 2,.int .i64 ql,.bool qd,.int .u8 qf,.int .u8 rk,.int .u8 ro,.int .u8 rb,.int .u8 ak,.int .i64 an,.int .i64 al,.bool ad,.int .u8 af,.int .u8 ek,.int .i64 en,.int .i64 el,.bool ed,.int .u8 ef,.int .i64 gl,.bool gd,.int .u8 gf,.int .u8 1,.int .i64 cn,.int .i64 cl,.bool cd,.int .u8 cf,.int .i64 yl])]) (c:=Qra) Tryz.func231 rfl (Qga _) rfl rfl ?_
     obtain ⟨_,_,_,hnt,_,har,_,hcm,_,_,_,_,ar01,ar12,_,hzpl,_,_,_,_,_,_,_,_,hT⟩:=Qca
     repeat' (first
      | refine goa ?_
      | refine Qhha Tryz.func190 Tryz.results190 Tryz.call190 ?_
      | fail)
     all_goals (rw[hy];rfl)
   · simp at hy
     have hx:=hp (by decide)
     refine Qaa (args:=[.pt (.agg [.int .u8 2,.int .i64 ql,.bool qd,.int .u8 qf,.int .u8 rk,.int .u8 ro,.int .u8 rb,.int .u8 ak,.int .i64 an,.int .i64 al,.bool ad,.int .u8 af,.int .u8 ek,.int .i64 en,.int .i64 el,.bool ed,.int .u8 ef,.int .i64 gl,.bool gd,.int .u8 gf,.int .u8 2,.int .i64 cn,.int .i64 cl,.bool cd,.int .u8 cf,.int .i64 yl])]) (c:=Qra) Tryz.func231 rfl (Qga _) rfl rfl ?_
     obtain ⟨_,_,_,hnt,_,har,_,hcm,_,_,_,_,ar01,ar12,_,hzpl,_,_,_,_,_,_,_,_,hT⟩:=Qca
     repeat' (first
      | refine goa ?_|refine gof ?_
      | refine Qhha Tryz.func190 Tryz.results190 Tryz.call190 ?_
      | (((with_reducible apply Q5a (Qrb y));(·exact lt_of_eq_of_lt (Qzb cl) (by have:=hx;show _<16;omega));(·have hq:=Qcb true (o:=cl.toNat) (by have:=hx;omega);rw[hy];(have ho:=Qzb cl);refine (congrArg (fun o=>Qbc (Qka [.lit false,.lit false,.lit false,.lit false,.lit false,.lit false,.lit false,.lit false,.lit false,.lit false,.lit false,.lit false,.lit false,.lit false,.lit false,.lit false] o [.lit true]) (Qrb (turn (fun _=>false) cl.toNat true))) ho).mpr hq);(·rfl);(·simp)))
      | fail)
     all_goals rfl
   · simp at hy
     have hx:=hp (by decide)
     refine Qaa (args:=[.pt (.agg [.int .u8 2,.int .i64 ql,.bool qd,.int .u8 qf,.int .u8 rk,.int .u8 ro,.int .u8 rb,.int .u8 ak,.int .i64 an,.int .i64 al,.bool ad,.int .u8 af,.int .u8 ek,.int .i64 en,.int .i64 el,.bool ed,.int .u8 ef,.int .i64 gl,.bool gd,.int .u8 gf,.int .u8 3,.int .i64 cn,.int .i64 cl,.bool cd,.int .u8 cf,.int .i64 yl])]) (c:=Qra) Tryz.func231 rfl (Qga _) rfl rfl ?_
     obtain ⟨_,_,_,hnt,_,har,_,hcm,_,_,_,_,ar01,ar12,_,hzpl,_,_,_,_,_,_,_,_,hT⟩:=Qca
     repeat' (first
      | refine goa ?_|refine gof ?_
      | refine Qhha Tryz.func190 Tryz.results190 Tryz.call190 ?_
      | (((with_reducible apply Q5a (Qrb y));(·exact lt_of_eq_of_lt (Qzb cl) (by have:=hx;show _<16;omega));(·have hq:=Qcb true (o:=cl.toNat) (by have:=hx;omega);rw[hy];(have ho:=Qzb cl);refine (congrArg (fun o=>Qbc (Qka [.lit false,.lit false,.lit false,.lit false,.lit false,.lit false,.lit false,.lit false,.lit false,.lit false,.lit false,.lit false,.lit false,.lit false,.lit false,.lit false] o [.lit true]) (Qrb (turn (fun _=>false) cl.toNat true))) ho).mpr hq);(·rfl);(·simp)))
      | fail)
     all_goals rfl
   · simp at hy
     refine Qaa (args:=[.pt (.agg [.int .u8 4,.int .i64 ql,.bool qd,.int .u8 qf,.int .u8 rk,.int .u8 ro,.int .u8 rb,.int .u8 ak,.int .i64 an,.int .i64 al,.bool ad,.int .u8 af,.int .u8 ek,.int .i64 en,.int .i64 el,.bool ed,.int .u8 ef,.int .i64 gl,.bool gd,.int .u8 gf,.int .u8 1,.int .i64 cn,.int .i64 cl,.bool cd,.int .u8 cf,.int .i64 yl])]) (c:=Qra) Tryz.func231 rfl (Qga _) rfl rfl ?_
     obtain ⟨_,_,_,hnt,_,har,_,hcm,_,_,_,_,ar01,ar12,_,hzpl,_,_,_,_,_,_,_,_,hT⟩:=Qca
     repeat' (first
      | refine goa ?_
      | refine Qhha Tryz.func190 Tryz.results190 Tryz.call190 ?_
      | fail)
     all_goals (rw[hy];rfl)
   · simp at hy
     have hx:=hp (by decide)
     refine Qaa (args:=[.pt (.agg [.int .u8 4,.int .i64 ql,.bool qd,.int .u8 qf,.int .u8 rk,.int .u8 ro,.int .u8 rb,.int .u8 ak,.int .i64 an,.int .i64 al,.bool ad,.int .u8 af,.int .u8 ek,.int .i64 en,.int .i64 el,.bool ed,.int .u8 ef,.int .i64 gl,.bool gd,.int .u8 gf,.int .u8 2,.int .i64 cn,.int .i64 cl,.bool cd,.int .u8 cf,.int .i64 yl])]) (c:=Qra) Tryz.func231 rfl (Qga _) rfl rfl ?_
     obtain ⟨_,_,_,hnt,_,har,_,hcm,_,_,_,_,ar01,ar12,_,hzpl,_,_,_,_,_,_,_,_,hT⟩:=Qca
     repeat' (first
      | refine goa ?_|refine gof ?_
      | refine Qhha Tryz.func190 Tryz.results190 Tryz.call190 ?_
      | (((with_reducible apply Q5a (Qrb y));(·exact lt_of_eq_of_lt (Qzb cl) (by have:=hx;show _<16;omega));(·have hq:=Qcb true (o:=cl.toNat) (by have:=hx;omega);rw[hy];(have ho:=Qzb cl);refine (congrArg (fun o=>Qbc (Qka [.lit false,.lit false,.lit false,.lit false,.lit false,.lit false,.lit false,.lit false,.lit false,.lit false,.lit false,.lit false,.lit false,.lit false,.lit false,.lit false] o [.lit true]) (Qrb (turn (fun _=>false) cl.toNat true))) ho).mpr hq);(·rfl);(·simp)))
      | fail)
     all_goals rfl
   · simp at hy
     have hx:=hp (by decide)
     refine Qaa (args:=[.pt (.agg [.int .u8 4,.int .i64 ql,.bool qd,.int .u8 qf,.int .u8 rk,.int .u8 ro,.int .u8 rb,.int .u8 ak,.int .i64 an,.int .i64 al,.bool ad,.int .u8 af,.int .u8 ek,.int .i64 en,.int .i64 el,.bool ed,.int .u8 ef,.int .i64 gl,.bool gd,.int .u8 gf,.int .u8 3,.int .i64 cn,.int .i64 cl,.bool cd,.int .u8 cf,.int .i64 yl])]) (c:=Qra) Tryz.func231 rfl (Qga _) rfl rfl ?_
     obtain ⟨_,_,_,hnt,_,har,_,hcm,_,_,_,_,ar01,ar12,_,hzpl,_,_,_,_,_,_,_,_,hT⟩:=Qca
     repeat' (first
      | refine goa ?_|refine gof ?_
      | refine Qhha Tryz.func190 Tryz.results190 Tryz.call190 ?_
      | (((with_reducible apply Q5a (Qrb y));(·exact lt_of_eq_of_lt (Qzb cl) (by have:=hx;show _<16;omega));(·have hq:=Qcb true (o:=cl.toNat) (by have:=hx;omega);rw[hy];(have ho:=Qzb cl);refine (congrArg (fun o=>Qbc (Qka [.lit false,.lit false,.lit false,.lit false,.lit false,.lit false,.lit false,.lit false,.lit false,.lit false,.lit false,.lit false,.lit false,.lit false,.lit false,.lit false] o [.lit true]) (Qrb (turn (fun _=>false) cl.toNat true))) ho).mpr hq);(·rfl);(·simp)))
      | fail)
     all_goals rfl
end
theorem Qz7 {F:GFun} {b:Nat} (hok:(F.jump b).ok=true):∀i,i<F.jn b->(F.ja b i).k=1\/(F.ja b i).k=2\/(F.ja b i).k=3:=fun i hi=>by
 by_cases hk:F.jk b=4
 · simp only[GJump.ok,GFun.jump,Bool.or_eq_true,Bool.and_eq_true,beq_iff_eq,decide_eq_true_eq] at hok
   have:(Q8j (F.jn b) (F.ja b)).all GOper.ok=true:=by grind
   rw[Q8j,List.all_map,List.all_eq_true] at this
   exact Qoj (this i (List.mem_range.2 hi))
 · exfalso
   simp only[GJump.ok,GJump.bare,GPlace.eqB,GFun.jump,Bool.or_eq_true,Bool.and_eq_true,beq_iff_eq,decide_eq_true_eq] at hok
   have hl:=Quh (F.jn b) (F.ja b)
   have hn:(Q8j (F.jn b) (F.ja b)).isEmpty=true:=by grind
   rw[List.isEmpty_iff] at hn
   rw[hn] at hl
   simp at hl;omega
theorem Qwj {p:Prop} (h:p:=by (first|((try with_reducible refine Q8c ?_ ?_ ?_ ?_);all_goals (cbv;(try simp only[true_and,and_true]);(try ((repeat' apply And.intro)<;>(first|trivial|rfl|exact RowLe.rfl' _|decide|(rw[Qda har _ o9];done)|((rw[t0];done))|((rw[t1 i (hP1 i y9 (of_decide_eq_false y9) (of_decide_eq_false y9))];done))|((rw[Qda har i (by have:=hj b;omega)]))|fail))));done)|fail)):Pf p:=⟨h⟩
theorem Qp1 (F:GFun) (b:Nat) (w:World) (hF:F.At w) (hok:(F.jump b).ok=true) (hk2:F.jk b≠2):
 Calls Tryz.prog 232 #[Q6z F b] w (Ret w (Qsl (jmS F b))):=by
 have h3:=Qgx hok
 have hO:=Qz7 hok
 have hd:=Q1s hok
 have h5 (wc:World):=Q4p (F.jd b).l (F.jd b).f (F.jd b).d wc
 obtain ⟨z,hz⟩:=x9 (wholeP (F.jd b))
 have hw:wholeP ⟨(F.jd b).l,(F.jd b).d,(F.jd b).f⟩=z:=hz.symm
 rw[hw] at h5
 rw[<-hz] at hd
 obtain ⟨T,hT0⟩:=x9 (Qot (F.ja b))
 have t0:T 0=fun _=>false:=by rw[hT0];rfl
 have t1:∀i,(F.ja b i).k=1->T (i+1)=T i:=fun i h=>by rw[hT0];simp only[Qot,if_pos h]
 have t2:∀i,(F.ja b i).k≠1->T (i+1)=turn (T i) (F.ja b i).p.l.toNat true:=fun i h=>by rw[hT0];simp only[Qot,if_neg h]
 obtain ⟨y,hy⟩:=x9 (if z=true then (if F.jk b=3 then turn (T (F.jn b)) 0 true else T (F.jn b)) else turn (if F.jk b=3 then turn (T (F.jn b)) 0 true else T (F.jn b)) (F.jd b).l.toNat true:B9z)
 have e:jmS F b=y:=by
  rw[hy];unfold jmS tdS;rw[if_neg hk2,hT0,hz]
 rw[e]
 clear e hT0 hz hw hok
 have hP1:∀i,i<F.jn b->(F.ja b i).k≠2->(F.ja b i).k≠3->(F.ja b i).k=1:=fun i hi h1 h2=>by have:=hO i hi;omega
 have hP2:∀i,(F.ja b i).k=2\/(F.ja b i).k=3->(F.ja b i).k≠1:=fun i h=>by omega
 clear hO
 have q2':decide (F.jk b=2)=false:=decide_eq_false hk2
 clear hk2
 by_cases hk3:F.jk b=3
 · have hz:z=true:=by
    cases z
    · have:=(hd rfl).1;omega
    · rfl
   subst hz
   simp only[if_true,if_pos hk3] at hy
   have q3':decide (F.jk b=3)=true:=decide_eq_true hk3
   clear hd
   obtain ⟨pa,un,lA,ln,lc,lk,lt,bA,bn,bc,sA,sn,sc,s,jA,jn,jc,ja,jk,jo,jf,jx,je,jd⟩:=F
   obtain ⟨hX,hl,hb,hs,hj⟩:=hF
   simp only at hl hb hs hj
   simp only at h3 h5 t1 t2 hy hP1 hP2 q2' q3' hk3
   refine Qaa (args:=[.pt (.agg [.int .u8 (jk b),.int .u8 (jo b).k,.int .i64 (jo b).n,.int .i64 (jo b).p.l,.bool (jo b).p.d,.int .u8 (jo b).p.f,.int .i64 (jf b),.int .i64 (jx b),.int .i64 (je b),.xs 3 b,.int .i64 (jd b).l,.bool (jd b).d,.int .u8 (jd b).f])]) (c:=(Qwa _)) Tryz.func232 rfl hX rfl rfl ?_
   obtain ⟨_,_,_,hnt,_,har,_,hcm,_,_,_,_,ar01,ar12,_,hzpl,_,_,_,_,_,_,_,_,hT⟩:=Qca
   repeat' (first
    | refine goa ?_|refine go3 (fun hlt=>?_) (fun hge=>?_)|refine go2 (fun h=>?_) (fun h=>?_)|refine gof ?_
    | refine Qhha Tryz.func191 Tryz.results191 Tryz.call191 ?_
    | refine Qhha Tryz.func190 Tryz.results190 Tryz.call190 ?_
    | (refine' Qiha Tryz.call271 ?_ ?_;rotate_left;(·intro wc hbc hxc;exact h5 wc))
    | ((with_reducible refine Qgha (σ:={i:Nat // i<=jn b}) (zs9 [8,18]) (fun x=>[zc9 5 x.1]) (fun x=>[(2,Qrb (T x.1))]) (fun x=>[]) (fun x=>jn b - x.1) ⟨0,by omega⟩ ?_ ?_);(·exact pfp Qwj);(rintro ⟨i,hi⟩ mm hmm))
    | ((with_reducible refine Qfha (⟨i+1,by omega⟩:{i:Nat // i<=jn b}) ?_ ?_);(·exact Nat.lt_of_lt_of_eq (show jn b - (i+1)<jn b - i from by omega) (Eq.symm y9));(·exact pfp Qwj))
    | (((with_reducible apply Qxa);(·exact (h3 _ y9 (hP2 i (by first|exact .inl (of_decide_eq_true y9)|exact .inr (of_decide_eq_true y9)))).1);(·have hq:=(h3 _ y9 (hP2 i (by first|exact .inl (of_decide_eq_true y9)|exact .inr (of_decide_eq_true y9)))).2;omega)))
    | (((with_reducible apply Q5a (Qrb (T (i+1))));(·have hq:=h3 i y9 (hP2 i (by first|exact .inl (of_decide_eq_true y9)|exact .inr (of_decide_eq_true y9)));exact lt_of_eq_of_lt (Qzb (ja b i).p.l) (by show _<16;omega));(·have hk:=hP2 i (by first|exact .inl (of_decide_eq_true y9)|exact .inr (of_decide_eq_true y9));have hq:=h3 i y9 hk;have hp:=Qsb (T i) true (o:=(ja b i).p.l.toNat) o9;rw[t2 i hk];exact Eq.mpr (congrArg (fun o=>Qbc (Qka (Qrb (T i)) o [.lit true]) (Qrb (turn (T i) (ja b i).p.l.toNat true))) (Qzb (ja b i).p.l)) hp);(·rfl);(·simp)))
    | (((with_reducible apply Q5a (Qrb y));(·exact Nat.zero_lt_succ _);(·have e:i=jn b:=o9;subst e;rw[hy];exact Qsb (T (jn b)) true (o:=0) (by decide));(·rfl);(·simp)))
    | fail)
   all_goals (first|rfl|(have e:i=jn b:=o9;subst e;rw[hy];rfl))
 · have q3':decide (F.jk b=3)=false:=decide_eq_false hk3
   simp only[if_neg hk3] at hy
   cases z
   · have hd:=hd rfl
     simp only[Bool.false_eq_true,if_false] at hy
     obtain ⟨pa,un,lA,ln,lc,lk,lt,bA,bn,bc,sA,sn,sc,s,jA,jn,jc,ja,jk,jo,jf,jx,je,jd⟩:=F
     obtain ⟨hX,hl,hb,hs,hj⟩:=hF
     simp only at hl hb hs hj
     simp only at h3 h5 t1 t2 hy hP1 hP2 q2' q3' hd
     have q4':decide (jk b=4)=true:=decide_eq_true hd.1
     refine Qaa (args:=[.pt (.agg [.int .u8 (jk b),.int .u8 (jo b).k,.int .i64 (jo b).n,.int .i64 (jo b).p.l,.bool (jo b).p.d,.int .u8 (jo b).p.f,.int .i64 (jf b),.int .i64 (jx b),.int .i64 (je b),.xs 3 b,.int .i64 (jd b).l,.bool (jd b).d,.int .u8 (jd b).f])]) (c:=(Qwa _)) Tryz.func232 rfl hX rfl rfl ?_
     obtain ⟨_,_,_,hnt,_,har,_,hcm,_,_,_,_,ar01,ar12,_,hzpl,_,_,_,_,_,_,_,_,hT⟩:=Qca
     repeat' (first
      | refine goa ?_|refine go3 (fun hlt=>?_) (fun hge=>?_)|refine go2 (fun h=>?_) (fun h=>?_)|refine gof ?_
      | refine Qhha Tryz.func191 Tryz.results191 Tryz.call191 ?_
      | refine Qhha Tryz.func190 Tryz.results190 Tryz.call190 ?_
      | (refine' Qiha Tryz.call271 ?_ ?_;rotate_left;(·intro wc hbc hxc;exact h5 wc))
      | ((with_reducible refine Qgha (σ:={i:Nat // i<=jn b}) (zs9 [8,18]) (fun x=>[zc9 5 x.1]) (fun x=>[(2,Qrb (T x.1))]) (fun x=>[]) (fun x=>jn b - x.1) ⟨0,by omega⟩ ?_ ?_);(·exact pfp Qwj);(rintro ⟨i,hi⟩ mm hmm))
      | ((with_reducible refine Qfha (⟨i+1,by omega⟩:{i:Nat // i<=jn b}) ?_ ?_);(·exact Nat.lt_of_lt_of_eq (show jn b - (i+1)<jn b - i from by omega) (Eq.symm y9));(·exact pfp Qwj))
      | (((with_reducible apply Qxa);(·exact (h3 _ y9 (hP2 i (by first|exact .inl (of_decide_eq_true y9)|exact .inr (of_decide_eq_true y9)))).1);(·have hq:=(h3 _ y9 (hP2 i (by first|exact .inl (of_decide_eq_true y9)|exact .inr (of_decide_eq_true y9)))).2;omega)))
      | (((with_reducible apply Q5a (Qrb (T (i+1))));(·have hq:=h3 i y9 (hP2 i (by first|exact .inl (of_decide_eq_true y9)|exact .inr (of_decide_eq_true y9)));exact lt_of_eq_of_lt (Qzb (ja b i).p.l) (by show _<16;omega));(·have hk:=hP2 i (by first|exact .inl (of_decide_eq_true y9)|exact .inr (of_decide_eq_true y9));have hq:=h3 i y9 hk;have hp:=Qsb (T i) true (o:=(ja b i).p.l.toNat) o9;rw[t2 i hk];exact Eq.mpr (congrArg (fun o=>Qbc (Qka (Qrb (T i)) o [.lit true]) (Qrb (turn (T i) (ja b i).p.l.toNat true))) (Qzb (ja b i).p.l)) hp);(·rfl);(·simp)))
      | (((with_reducible apply Qxa);(·exact hd.2.1);(·have:=hd.2.2;omega)))
      | (((with_reducible apply Q5a (Qrb y));(·exact lt_of_eq_of_lt (Qzb (jd b).l) (by have:=hd.2;show _<16;omega));(·have e:i=jn b:=o9;subst e;have hq:=Qsb (T (jn b)) true (o:=(jd b).l.toNat) (by have:=hd.2;omega);rw[hy];exact Eq.mpr (congrArg (fun o=>Qbc (Qka (Qrb (T (jn b))) o [.lit true]) (Qrb (turn (T (jn b)) (jd b).l.toNat true))) (Qzb (jd b).l)) hq);(·rfl);(·simp)))
      | fail)
     all_goals (first|rfl|(have e:i=jn b:=o9;subst e;rw[hy];rfl))
   · simp only[if_true] at hy
     clear hd
     obtain ⟨pa,un,lA,ln,lc,lk,lt,bA,bn,bc,sA,sn,sc,s,jA,jn,jc,ja,jk,jo,jf,jx,je,jd⟩:=F
     obtain ⟨hX,hl,hb,hs,hj⟩:=hF
     simp only at hl hb hs hj
     simp only at h3 h5 t1 t2 hy hP1 hP2 q2' q3'
     refine Qaa (args:=[.pt (.agg [.int .u8 (jk b),.int .u8 (jo b).k,.int .i64 (jo b).n,.int .i64 (jo b).p.l,.bool (jo b).p.d,.int .u8 (jo b).p.f,.int .i64 (jf b),.int .i64 (jx b),.int .i64 (je b),.xs 3 b,.int .i64 (jd b).l,.bool (jd b).d,.int .u8 (jd b).f])]) (c:=(Qwa _)) Tryz.func232 rfl hX rfl rfl ?_
     obtain ⟨_,_,_,hnt,_,har,_,hcm,_,_,_,_,ar01,ar12,_,hzpl,_,_,_,_,_,_,_,_,hT⟩:=Qca
     repeat' (first
      | refine goa ?_|refine go3 (fun hlt=>?_) (fun hge=>?_)|refine go2 (fun h=>?_) (fun h=>?_)|refine gof ?_
      | refine Qhha Tryz.func191 Tryz.results191 Tryz.call191 ?_
      | refine Qhha Tryz.func190 Tryz.results190 Tryz.call190 ?_
      | (refine' Qiha Tryz.call271 ?_ ?_;rotate_left;(·intro wc hbc hxc;exact h5 wc))
      | ((with_reducible refine Qgha (σ:={i:Nat // i<=jn b}) (zs9 [8,18]) (fun x=>[zc9 5 x.1]) (fun x=>[(2,Qrb (T x.1))]) (fun x=>[]) (fun x=>jn b - x.1) ⟨0,by omega⟩ ?_ ?_);(·exact pfp Qwj);(rintro ⟨i,hi⟩ mm hmm))
      | ((with_reducible refine Qfha (⟨i+1,by omega⟩:{i:Nat // i<=jn b}) ?_ ?_);(·exact Nat.lt_of_lt_of_eq (show jn b - (i+1)<jn b - i from by omega) (Eq.symm y9));(·exact pfp Qwj))
      | (((with_reducible apply Qxa);(·exact (h3 _ y9 (hP2 i (by first|exact .inl (of_decide_eq_true y9)|exact .inr (of_decide_eq_true y9)))).1);(·have hq:=(h3 _ y9 (hP2 i (by first|exact .inl (of_decide_eq_true y9)|exact .inr (of_decide_eq_true y9)))).2;omega)))
      | (((with_reducible apply Q5a (Qrb (T (i+1))));(·have hq:=h3 i y9 (hP2 i (by first|exact .inl (of_decide_eq_true y9)|exact .inr (of_decide_eq_true y9)));exact lt_of_eq_of_lt (Qzb (ja b i).p.l) (by show _<16;omega));(·have hk:=hP2 i (by first|exact .inl (of_decide_eq_true y9)|exact .inr (of_decide_eq_true y9));have hq:=h3 i y9 hk;have hp:=Qsb (T i) true (o:=(ja b i).p.l.toNat) o9;rw[t2 i hk];exact Eq.mpr (congrArg (fun o=>Qbc (Qka (Qrb (T i)) o [.lit true]) (Qrb (turn (T i) (ja b i).p.l.toNat true))) (Qzb (ja b i).p.l)) hp);(·rfl);(·simp)))
      | fail)
     all_goals (first|rfl|(have e:i=jn b:=o9;subst e;rw[hy];rfl))
theorem Qn1 (F:GFun) (b:Nat) (w:World) (hF:F.At w) (hok:(F.jump b).ok=true) (hk2:F.jk b=2):
 Calls Tryz.prog 232 #[Q6z F b] w (Ret w (Qsl (jmS F b))):=by
 have h3:=Qfx hok hk2
 have hO:(F.jo b).k=1\/(F.jo b).k=2\/(F.jo b).k=3:=by
  have:(F.jo b).ok=true:=by
   simp only[GJump.ok,GFun.jump,Bool.or_eq_true,Bool.and_eq_true,beq_iff_eq,decide_eq_true_eq] at hok
   grind
  exact Qoj this
 have hd:=Q1s hok
 have hz:wholeP (F.jd b)=true:=by
  cases h:wholeP (F.jd b)
  · have:=(hd h).1;omega
  · rfl
 obtain ⟨y,hy⟩:=x9 (if (F.jo b).k=1 then (fun _=>false) else turn (fun _=>false) (F.jo b).p.l.toNat true:B9z)
 have e:jmS F b=y:=by
  rw[hy];unfold jmS tdS;rw[if_pos hk2,hz,if_neg (show ¬F.jk b=3 by omega)];rfl
 rw[e]
 have hP1:(F.jo b).k≠2->(F.jo b).k≠3->(F.jo b).k=1:=fun h1 h2=>by omega
 have hP2:(F.jo b).k=2\/(F.jo b).k=3->(F.jo b).k≠1:=fun h=>by omega
 have q2':decide (F.jk b=2)=true:=decide_eq_true hk2
 have q3':decide (F.jk b=3)=false:=decide_eq_false o9
 have q4':decide (F.jk b=4)=false:=decide_eq_false o9
 clear e hd hz hok hO hk2
 obtain ⟨_,_,_,_,_,_,_,_,_,_,_,_,_,_,_,_,_,_,jk,jo,jf,jx,je,jd⟩:=F
 obtain ⟨hX,hl,hb,hs,hj⟩:=hF
 simp only at hl hb hs hj
 simp only at h3 hy hP1 hP2 q2' q3' q4'
 refine Qaa (args:=[.pt (.agg [.int .u8 (jk b),.int .u8 (jo b).k,.int .i64 (jo b).n,.int .i64 (jo b).p.l,.bool (jo b).p.d,.int .u8 (jo b).p.f,.int .i64 (jf b),.int .i64 (jx b),.int .i64 (je b),.xs 3 b,.int .i64 (jd b).l,.bool (jd b).d,.int .u8 (jd b).f])]) (c:=(Qwa _)) Tryz.func232 rfl hX rfl rfl ?_
 obtain ⟨_,_,_,hnt,_,har,_,hcm,_,_,_,_,ar01,ar12,_,hzpl,_,_,_,_,_,_,_,_,hT⟩:=Qca
 repeat' (first
  | (refine gov ?_;(try simp only[ar01,ar12]))
  | refine goa ?_|refine go2 (fun h=>?_) (fun h=>?_)|refine gof ?_
  | refine Qhha Tryz.func191 Tryz.results191 Tryz.call191 ?_
  | refine Qhha Tryz.func190 Tryz.results190 Tryz.call190 ?_
  | (with_reducible apply Qqa 3)
  | (((with_reducible apply Qxa);(·exact (h3 (hP2 (by first|exact .inl (of_decide_eq_true y9)|exact .inr (of_decide_eq_true y9)))).1);(·have hq:=(h3 (hP2 (by first|exact .inl (of_decide_eq_true y9)|exact .inr (of_decide_eq_true y9)))).2;omega)))
  | (((with_reducible apply Q5a (Qrb y));(·have hq:=h3 (hP2 (by first|exact .inl (of_decide_eq_true y9)|exact .inr (of_decide_eq_true y9)));exact lt_of_eq_of_lt (Qzb (jo b).p.l) (by show _<16;omega));(·have hk:=(hP2 (by first|exact .inl (of_decide_eq_true y9)|exact .inr (of_decide_eq_true y9)));have hq:=h3 hk;have hp:=Qcb true (o:=(jo b).p.l.toNat) o9;rw[hy,if_neg hk];(have ho:=Qzb (jo b).p.l);refine (congrArg (fun o=>Qbc (Qka [.lit false,.lit false,.lit false,.lit false,.lit false,.lit false,.lit false,.lit false,.lit false,.lit false,.lit false,.lit false,.lit false,.lit false,.lit false,.lit false] o [.lit true]) (Qrb (turn (fun _=>false) (jo b).p.l.toNat true))) ho).mpr hp);(·rfl);(·simp)))
  | fail)
 all_goals (first|rfl|(rw[hy,if_pos (hP1 (of_decide_eq_false y9) (of_decide_eq_false y9))];rfl)|trace_state)
theorem Qo1 (F:GFun) (b:Nat) (w:World) (hF:F.At w) (hok:(F.jump b).ok=true):
 Calls Tryz.prog 232 #[Q6z F b] w (Ret w (Qsl (jmS F b))):=by
 by_cases h:F.jk b=2
 · exact Qn1 F b w hF hok h
 · exact Qp1 F b w hF hok h
theorem Q5aa {F:GFun} {n:Nat}:(fun l=>usC F (pbN F n) (piN F n) l)=if Qge F n=true then usS (stAt F n) else fun l=>decide (l<16)&&jmS F (pbN F n) l:=by
 unfold usC Qge stAt
 by_cases h:piN F n<F.sn (pbN F n)
 · simp only[if_pos h,decide_eq_true h,if_true]
 · simp only[if_neg h,decide_eq_false h,Bool.false_eq_true,if_false]
theorem Qyt (F:GFun) (w:World) (hF:F.At w) (hO:F.Ok) (n:Nat) (hn:n<stN F.sn F.bn):
 Calls Tryz.prog 180 #[F.val,.int .i64 (.ofNat n)] w (Ret w (Qsl (fun l=>uB F (pbN F n) (piN F n) l))):=by
 have hS0 wc (hk:KB ⟨w,[]⟩ wc):=Qlz F wc (hF.later hk) hO.small n hn
 have h1 wc (hk:KB ⟨w,[]⟩ wc):=Qb3 F wc (hF.later hk) hO.small n hn
 have h2 wc (hk:KB ⟨w,[]⟩ wc):=Qo1 F (pbN F n) wc (hF.later hk) (hO.okJ (Qoc hn).1)
 have h3 (hi:Qge F n=true) (wc:World):=Qm1 (stAt F n) (by
  have hi:=of_decide_eq_true hi
  unfold stAt;rw[if_pos hi];exact hO.okS (Qoc hn).1 hi) wc
 obtain ⟨U,hU⟩:=x9 (fun l=>uB F (pbN F n) (piN F n) l)
 rw[<-hU]
 have hU2:U=if Qge F n=true then usS (stAt F n) else fun l=>decide (l<16)&&jmS F (pbN F n) l:=by
  rw[hU,<-Q5aa];funext l;exact Q3aa _ _ _ _
 clear hU
 obtain ⟨J,hJ⟩:=x9 (jmS F (pbN F n))
 rw[<-hJ] at h2 hU2
 obtain ⟨s,hs'⟩:=x9 (stAt F n)
 rw[<-hs'] at hS0 hU2 h3
 obtain ⟨ia,hi'⟩:=x9 (Qge F n)
 rw[<-hi'] at hS0 hU2 h3
 obtain ⟨T,hT0⟩:=x9 (usS s)
 rw[<-hT0] at h3 hU2
 have hS wc (hk:KB ⟨w,[]⟩ wc):Calls Tryz.prog 142 #[F.val,.int .i64 (.ofNat n)] wc (Ret wc (.tuple #[s.val,.bool ia])):=hS0 wc hk
 obtain ⟨pb,hb'⟩:=x9 (pbN F n)
 rw[<-hb'] at h1 h2
 clear hb' hS0 hs' hi' hn hO hJ hT0
 obtain ⟨yk,⟨ql,qd,qf⟩,⟨rk,ro,rb,⟨ak,an,⟨al,ad,af⟩⟩,⟨ek,en,⟨el,ed,ef⟩⟩,⟨gl,gd,gf⟩⟩,⟨ck,cn,⟨cl,cd,cf⟩⟩,yl⟩:=s
 cases ia
 · have e:Qsl U=Qsl J:=Q9j fun l hl=>by rw[hU2];simp[hl]
   rw[e]
   clear h3 hU2 e
   obtain ⟨pa,un,lA,ln,lc,lk,lt,bA,bn,bc,sA,sn,sc,s,jA,jn,jc,ja,jk,jo,jf,jx,je,jd⟩:=F
   obtain ⟨hX,hl,hb,hs,hj⟩:=hF
   simp only at hl hb hs hj
   refine Qaa (args:=[.pt (.agg (GFun.dat _)),.pt (.one (.int .i64 (.ofNat n)))]) (c:=(Qwa _)) Tryz.func180 rfl hX rfl rfl ?_
   obtain ⟨_,_,_,hnt,_,har,_,hcm,_,_,_,_,ar01,ar12,_,hzpl,_,_,_,_,_,_,_,_,hT⟩:=Qca
   repeat' (first
    | refine goa ?_
    | (refine' Qiha Tryz.call142 ?_ ?_;rotate_left;(·intro wc hbc hxc;exact hS wc hbc))
    | (refine' Qiha Tryz.call228 ?_ ?_;rotate_left;(·intro wc hbc hxc;exact h1 wc hbc))
    | (refine' Qiha Tryz.call232 ?_ ?_;rotate_left;(·intro wc hbc hxc;exact h2 wc hbc))
    | fail)
   all_goals rfl
 · have h3:=h3 rfl
   have e:U=T:=by rw[hU2];simp
   rw[e]
   clear hU2 e
   obtain ⟨pa,un,lA,ln,lc,lk,lt,bA,bn,bc,sA,sn,sc,s,jA,jn,jc,ja,jk,jo,jf,jx,je,jd⟩:=F
   obtain ⟨hX,hl,hb,hs,hj⟩:=hF
   simp only at hl hb hs hj
   refine Qaa (args:=[.pt (.agg (GFun.dat _)),.pt (.one (.int .i64 (.ofNat n)))]) (c:=(Qwa _)) Tryz.func180 rfl hX rfl rfl ?_
   obtain ⟨_,_,_,hnt,_,har,_,hcm,_,_,_,_,ar01,ar12,_,hzpl,_,_,_,_,_,_,_,_,hT⟩:=Qca
   repeat' (first
    | refine goa ?_
    | (refine' Qiha Tryz.call142 ?_ ?_;rotate_left;(·intro wc hbc hxc;exact hS wc hbc))
    | (refine' Qiha Tryz.call231 ?_ ?_;rotate_left;(·intro wc hbc hxc;exact h3 wc))
    | fail)
   all_goals rfl
end Go.Proofs.YtemnfncbgalljaaGreat
