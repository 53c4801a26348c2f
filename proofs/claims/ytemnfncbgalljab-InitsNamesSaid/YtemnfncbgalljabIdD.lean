/- Lemmas. No condition. -/
import Derived.Test.YtemnfncbgalljabIdC
namespace Go.Proofs.Ytemnfncbgalljab
open Go.RowKit
set_option linter.all false
set_option maxHeartbeats 64000000
set_option maxRecDepth 100000
theorem Q7la {p:Prop} (h:p:=by (first|((try with_reducible refine Q8c ?_ ?_ ?_ ?_);all_goals (cbv;(try simp only[true_and,and_true]);(try ((repeat' apply And.intro)<;>(first|trivial|rfl|exact RowLe.rfl' _|decide|(rw[Qda har _ o9];done)|((rw[hR];exact Q9ka))|fail))));done)|fail)):Pf p:=⟨h⟩
theorem Q8la {p:Prop} (h:p:=by (first|((try with_reducible refine Q8c ?_ ?_ ?_ ?_);all_goals (cbv;(try simp only[true_and,and_true]);(try ((repeat' apply And.intro)<;>(first|trivial|rfl|exact RowLe.rfl' _|decide|(rw[Qda har _ o9];done)|((rw[hR];first|exact Q9ka|exact Qyla rfl rfl rfl rfl (Qaka (by first|exact Qrda _|exact Qsda _) (by first|exact Qrda _|exact Qsda _) (by first|exact Qrda _|exact Qsda _))|exact Qmna (Qaka (by first|exact Qrda _|exact Qsda _) (by first|exact Qrda _|exact Qsda _) (by first|exact Qrda _|exact Qsda _))|exact Qnna hzpl hzjn (Qaka (by first|exact Qrda _|exact Qsda _) (by first|exact Qrda _|exact Qsda _) (by first|exact Qrda _|exact Qsda _)) (Qaka (by first|exact Qrda _|exact Qsda _) (by first|exact Qrda _|exact Qsda _) (by first|exact Qrda _|exact Qsda _))|exact Q6na hzpl hzjn (Qaka (by first|exact Qrda _|exact Qsda _) (by first|exact Qrda _|exact Qsda _) (by first|exact Qrda _|exact Qsda _)) (Qaka (by first|exact Qrda _|exact Qsda _) (by first|exact Qrda _|exact Qsda _) (by first|exact Qrda _|exact Qsda _)) (Qaka (by first|exact Qrda _|exact Qsda _) (by first|exact Qrda _|exact Qsda _) (by first|exact Qrda _|exact Qsda _))))|fail))));done)|fail)):Pf p:=⟨h⟩
theorem Qina {p:Prop} (h:p:=by (first|((try with_reducible refine Q8c ?_ ?_ ?_ ?_);all_goals (cbv;(try simp only[true_and,and_true]);(try ((repeat' apply And.intro)<;>(first|trivial|rfl|exact RowLe.rfl' _|decide|(rw[Qda har _ o9];done)|((exact hfin _ _ (by first|exact Qrda _|exact Qsda _) (by first|exact Qrda _|exact Qsda _)))|fail))));done)|fail)):Pf p:=⟨h⟩
theorem Qgoa (F:GFun) (w:World) (hF:F.At w) (hO:F.Ok) (b:Nat) (hb:b<F.bn):
 Calls Try.prog 76 #[Q6z F b] w (RetR w (Qwa F) (.pt (.one (.rs 0))) [deR (jmD F b)]):=by
 have hx (h:F.jk b=2):=Qyfa hO hb h
 have h4 wc (hk:KB ⟨w,[]⟩ wc):=Q0oa F wc (hF.later hk) b (hO.jn8 hb)
 have hjk:F.jk b=1\/F.jk b=2\/F.jk b=3\/F.jk b=4\/F.jk b=5:=by
  have:=hO.okJ hb
  simp only[GJump.ok,GFun.jump,Bool.or_eq_true,Bool.and_eq_true,beq_iff_eq] at this
  omega
 obtain ⟨L,hL⟩:=x9 (jmD F b)
 obtain ⟨R,hR⟩:=x9 (deR (jmD F b))
 rw[<-hR]
 rw[<-hL] at hR
 have hn8:=Quka (F.ja b) (F.jn b)
 have hjn:=hO.jn8 hb
 obtain ⟨A,hA⟩:=x9 (Qkka (F.ja b) (F.jn b))
 obtain ⟨na,hna⟩:=x9 (A.length)
 obtain ⟨ta,hta⟩:=x9 (fun j=>A.getD j .zero:Nat->GDeed)
 have hRA:deR A=⟨na,4,fun j=>(ta j).sc⟩:=by rw[deR,hna,hta]
 simp only[jmD,opD,wrD,<-hA] at hL
 rw[<-hA,hRA] at h4
 rw[<-hA,<-hna] at hn8
 have hn9:na<=8:=by omega
 clear hO hA hna hta hn8 hjn
 obtain ⟨_,_,_,_,_,_,_,_,_,_,_,_,_,_,_,_,_,_,jk,jo,jf,jx,je,jd⟩:=F
 obtain ⟨hX,hl,hb,hs,hj⟩:=hF
 simp only at hl hb hs hj
 simp only at hx h4 hjk hL
 obtain ⟨ck,hck⟩:=x9 (jk b)
 obtain ⟨⟨ok,on,⟨ol,od,of⟩⟩,hco⟩:∃o,o=jo b:=⟨_,rfl⟩
 simp only[<-hck,<-hco] at hx hjk hL
 rcases hjk with rfl|rfl|rfl|rfl|rfl
 · simp at hL
   subst hL
   refine Qaa (args:=[.pt (.agg [.int .u8 (jk b),.int .u8 (jo b).k,.int .i64 (jo b).n,.int .i64 (jo b).p.l,.bool (jo b).p.d,.int .u8 (jo b).p.f,.int .i64 (jf b),.int .i64 (jx b),.int .i64 (je b),.xs 3 b,.int .i64 (jd b).l,.bool (jd b).d,.int .u8 (jd b).f])]) (c:=(Qwa _)) Try.func76 rfl hX rfl rfl ?_
   obtain ⟨_,_,_,hnt,_,har,_,hcm,_,_,_,_,ar01,ar12,zpl,hzpl,zjn,hzjn,_,_,_,_,_,_,hT⟩:=Qca
   rw[<-hck,<-hco]
   repeat' (first
    | refine goa ?_
    | exact gor (ha:=Q7la) (hb:=Q7la)
    | fail)
 · rcases hx rfl with hx|⟨hx|hx,hx0,hx1⟩<;>simp only at hx<;>subst hx
   all_goals
    simp at hL
    subst hL
    refine Qaa (args:=[.pt (.agg [.int .u8 (jk b),.int .u8 (jo b).k,.int .i64 (jo b).n,.int .i64 (jo b).p.l,.bool (jo b).p.d,.int .u8 (jo b).p.f,.int .i64 (jf b),.int .i64 (jx b),.int .i64 (je b),.xs 3 b,.int .i64 (jd b).l,.bool (jd b).d,.int .u8 (jd b).f])]) (c:=(Qwa _)) Try.func76 rfl hX rfl rfl ?_
    obtain ⟨_,_,_,hnt,_,har,_,hcm,_,_,_,_,ar01,ar12,zpl,hzpl,zjn,hzjn,_,_,_,_,_,_,hT⟩:=Qca
    rw[<-hck,<-hco]
    repeat' (first
     | (refine gov ?_;(try simp only[ar01,ar12]))
     | refine goa ?_|refine gof ?_|refine gob ?_
     | exact gor (ha:=Q8la) (hb:=Q8la)
     | refine Qhha Try.func89 Try.results89 Try.call89 ?_
     | (with_reducible apply Qqa 4)
     | fail)
 · simp at hL
   subst hL
   refine Qaa (args:=[.pt (.agg [.int .u8 (jk b),.int .u8 (jo b).k,.int .i64 (jo b).n,.int .i64 (jo b).p.l,.bool (jo b).p.d,.int .u8 (jo b).p.f,.int .i64 (jf b),.int .i64 (jx b),.int .i64 (je b),.xs 3 b,.int .i64 (jd b).l,.bool (jd b).d,.int .u8 (jd b).f])]) (c:=(Qwa _)) Try.func76 rfl hX rfl rfl ?_
   obtain ⟨_,_,_,hnt,_,har,_,hcm,_,_,_,_,ar01,ar12,zpl,hzpl,zjn,hzjn,_,_,_,_,_,_,hT⟩:=Qca
   rw[<-hck,<-hco]
   repeat' (first
    | refine goa ?_
    | exact gor (ha:=Q8la) (hb:=Q8la)
    | fail)
 · simp at hL
   subst hL
   refine Qaa (args:=[.pt (.agg [.int .u8 (jk b),.int .u8 (jo b).k,.int .i64 (jo b).n,.int .i64 (jo b).p.l,.bool (jo b).p.d,.int .u8 (jo b).p.f,.int .i64 (jf b),.int .i64 (jx b),.int .i64 (je b),.xs 3 b,.int .i64 (jd b).l,.bool (jd b).d,.int .u8 (jd b).f])]) (c:=(Qwa _)) Try.func76 rfl hX rfl rfl ?_
   obtain ⟨_,_,_,hnt,_,har,_,hcm,_,_,_,_,ar01,ar12,zpl,hzpl,zjn,hzjn,_,_,_,_,_,_,hT⟩:=Qca
   rw[<-hck,<-hco]
   have hfin:∀c1 c2,Qre c1 (.bool (!Q6a (jd b)))->Qre c2 (.bool (Q6a (jd b)))->RowLe ⟨zpl na 1,4,zjn na (fun j=>(ta j).sc) (fun j=>Qte [.int .i64 (jd b).l,c1,c2,.bool false] (0+j * 4) 4)⟩ R:=fun c1 c2 g1 g2=>by
    rw[hR]
    exact Qtka hzpl hzjn (L:=A) (by rw[hRA];exact RowLe.rfl' _) rfl (Qaka g1 g2 (Qsda _))
   have hna9:zpl na 1<=1073741824:=by rw[hzpl];show na+1<=_;omega
   clear hRA hR
   repeat' (first
    | refine goa ?_|exact go0|refine god ?_|refine gof ?_|refine Qvha ?_ ?_
    | exact gor (ha:=Qina) (hb:=Qina)
    | refine gob ?_
    | ((with_reducible refine Q4c ?_ ?_);(·first|((exact hna9))))
    | ((with_reducible apply Qoa (hf:=Try.call89));(·intro S;cbv;try rfl);(·intro wc S hbc hxc hrc;exact h4 wc hbc);(·rfl))
    | (refine' Qiha Try.call90 ?_ ?_;rotate_left;(·intro wc hbc hxc;exact Qlka _ _ _ wc))
    | fail)
 · simp at hL
   subst hL
   refine Qaa (args:=[.pt (.agg [.int .u8 (jk b),.int .u8 (jo b).k,.int .i64 (jo b).n,.int .i64 (jo b).p.l,.bool (jo b).p.d,.int .u8 (jo b).p.f,.int .i64 (jf b),.int .i64 (jx b),.int .i64 (je b),.xs 3 b,.int .i64 (jd b).l,.bool (jd b).d,.int .u8 (jd b).f])]) (c:=(Qwa _)) Try.func76 rfl hX rfl rfl ?_
   obtain ⟨_,_,_,hnt,_,har,_,hcm,_,_,_,_,ar01,ar12,zpl,hzpl,zjn,hzjn,_,_,_,_,_,_,hT⟩:=Qca
   rw[<-hck,<-hco]
   repeat' (first
    | refine goa ?_
    | exact gor (ha:=Q7la) (hb:=Q7la)
    | fail)
theorem Q7na (F:GFun) (w:World) (hF:F.At w) (hO:F.Ok) (b i:Nat) (hbb:b<F.bn):
 Calls Try.prog 55 #[F.val,.agg #[.int .i64 (.ofNat b),.int .i64 (.ofNat i)]] w (RetR w (Qwa F) (.pt (.one (.rs 0))) [deR (ptD F b i)]):=by
 have h1 (hi:i<F.sn b) (wc:World) {c:R9z}:=Calls.to (c':=c) (Qona _) rfl (Qqoa F.ln wc (F.s b i) (hO.okS hbb hi) (Q6ga hO hbb hi))
 have h2 wc (hk:KB ⟨w,[]⟩ wc):=Qgoa F wc (hF.later hk) hO b hbb
 have hs24:=hO.sn24 hbb
 by_cases hi:i<F.sn b
 · have h1 (wc:World) {c:R9z}:=h1 hi wc (c:=c)
   have e:ptD F b i=stD (F.s b i):=by unfold ptD;rw[if_pos hi]
   rw[e]
   obtain ⟨R,hR⟩:=x9 (deR (stD (F.s b i)))
   rw[<-hR] at h1⊢
   clear h2 e hR hO
   obtain ⟨pa,un,lA,ln,lc,lk,lt,bA,bn,bc,sA,sn,sc,s,jA,jn,jc,ja,jk,jo,jf,jx,je,jd⟩:=F
   obtain ⟨hX,hl,hb,hs,hj⟩:=hF
   simp only at hl hb hs hj
   simp only at h1 hi hbb hs24
   refine Qaa (args:=[.pt (.agg (GFun.dat _)),.pt (.agg [.int .i64 (.ofNat b),.int .i64 (.ofNat i)])]) (c:=(Qwa _)) Try.func55 rfl hX rfl rfl ?_
   obtain ⟨_,_,_,hnt,_,har,cm,hcm,_,_,_,_,ar01,ar12,_,hzpl,_,hzjn,_,_,_,_,_,_,hT⟩:=Qca
   have hq:cm .lss (.ofNat i) (.ofNat (sn b))=true:=by rw[hcm];exact decide_eq_true (Int.ofNat_lt.2 hi)
   repeat' (first
    | refine goa ?_|exact go0|refine gof ?_
    | ((with_reducible apply Qoa (hf:=Try.call75));(·intro S;cbv;try rfl);(·intro wc S hbc hxc hrc;exact h1 wc);(·rfl))
    | fail)
 · have e:ptD F b i=jmD F b:=by unfold ptD;rw[if_neg hi]
   rw[e]
   obtain ⟨R,hR⟩:=x9 (deR (jmD F b))
   rw[<-hR] at h2⊢
   clear h1 e hR hO
   obtain ⟨pa,un,lA,ln,lc,lk,lt,bA,bn,bc,sA,sn,sc,s,jA,jn,jc,ja,jk,jo,jf,jx,je,jd⟩:=F
   obtain ⟨hX,hl,hb,hs,hj⟩:=hF
   simp only at hl hb hs hj
   simp only at h2 hi hbb hs24
   refine Qaa (args:=[.pt (.agg (GFun.dat _)),.pt (.agg [.int .i64 (.ofNat b),.int .i64 (.ofNat i)])]) (c:=(Qwa _)) Try.func55 rfl hX rfl rfl ?_
   obtain ⟨_,_,_,hnt,_,har,cm,hcm,_,_,_,_,ar01,ar12,_,hzpl,_,hzjn,_,_,_,_,_,_,hT⟩:=Qca
   have hq:cm .lss (.ofNat i) (.ofNat (sn b))=false:=by rw[hcm];exact decide_eq_false (fun g=>hi (Int.ofNat_lt.1 g))
   repeat' (first
    | refine goa ?_|exact go0|refine gof ?_
    | ((with_reducible apply Qoa (hf:=Try.call76));(·intro S;cbv;try rfl);(·intro wc S hbc hxc hrc;exact h2 wc hbc);(·rfl))
    | fail)
end Go.Proofs.Ytemnfncbgalljab
