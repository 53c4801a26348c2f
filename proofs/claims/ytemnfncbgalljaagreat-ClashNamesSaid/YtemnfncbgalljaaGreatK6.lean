/- Lemmas. No condition. -/
import Derived.Test.YtemnfncbgalljaaGreatZ1
import Derived.Test.YtemnfncbgalljaaGreatK3
namespace Go.Proofs.YtemnfncbgalljaaGreat
open Go.RowKit
set_option linter.all false
set_option maxHeartbeats 64000000
def Qdia (t:GTouch) (l:GLoan):Bool:=t.p.ok&&l.p.ok&&(decide (1<=l.bo)&&decide (l.bo<=3))
theorem Q4ha (t:GTouch) (x:GLoan) (u:Bool) (t0:0<=t.p.f) (x0:0<=x.p.f) (w:World):
 Calls Tryz.prog 50 #[t.val,x.val,.bool u] w (Ret w (bif Qdia t x then .tuple #[.bool (conB t x u),.int .i64 0] else .tuple #[.bool false,.int .i64 8])):=by
 obtain ⟨R,hR⟩:=x9 (bif Qdia t x then Value.tuple #[.bool (conB t x u),.int .i64 0] else .tuple #[.bool false,.int .i64 8])
 rw[<-hR]
 have k1 (wc:World):=Q6h t.p.l t.p.f t.p.d wc
 have k2 (wc:World):=Q6h x.p.l x.p.f x.p.d wc
 simp only[Qdia] at hR
 by_cases ht:t.p.ok=true
 case neg=>
  have ht:t.p.ok=false:=by simpa using ht
  rw[show (GPlace.mk t.p.l t.p.d t.p.f).ok=false from ht] at k1
  rw[ht] at hR
  simp only[okI,Bool.false_eq_true,if_false] at k1
  simp only[Bool.false_and,cond_false] at hR
  obtain ⟨⟨tl,td,tf⟩,tw,te⟩:=t
  obtain ⟨xa,⟨xl,xd,xf⟩,xb,xc⟩:=x
  simp only at k1
  clear k2 ht t0 x0
  refine Qaa (args:=[.pt (.agg (GTouch.sc _)),.pt (.agg (GLoan.sc _)),.pt (.one (.bool u))]) (c:=Qra) Tryz.func50 rfl (Qga _) rfl rfl ?_
  obtain ⟨_,_,_,hnt,_,har,_,hcm,_,_,_,_,ar01,ar12,_,hzpl,_,_,_,_,_,_,_,_,hT⟩:=Qca
  repeat' (first
   | refine goa ?_|refine go3 (fun hlt=>?_) (fun hge=>?_)|refine go2 (fun h=>?_) (fun h=>?_)|exact go0|refine goz ?_|refine Qvha ?_ ?_
   | (refine' Qiha Tryz.call86 ?_ ?_;rotate_left;(·intro wc hbc hxc;exact k1 wc))
   | fail)
  all_goals (rw[hR])
 by_cases hx:x.p.ok=true
 case neg=>
  have hx:x.p.ok=false:=by simpa using hx
  rw[hx] at hR
  simp only[Bool.false_and,Bool.and_false,cond_false] at hR
  obtain ⟨⟨tl,td,tf⟩,tw,te⟩:=t
  obtain ⟨xa,⟨xl,xd,xf⟩,xb,xc⟩:=x
  simp only at hx ht
  have e1:∀z,z=okI (GPlace.mk xl xd xf).ok->decide (z=0)=false:=fun z h=>by rw[h,hx];rfl
  clear k1 k2 t0 x0
  refine Qaa (args:=[.pt (.agg (GTouch.sc _)),.pt (.agg (GLoan.sc _)),.pt (.one (.bool u))]) (c:=Qra) Tryz.func50 rfl (Qga _) rfl rfl ?_
  obtain ⟨_,_,_,hnt,_,har,_,hcm,_,_,_,_,ar01,ar12,_,hzpl,_,_,_,_,_,_,_,_,hT⟩:=Qca
  repeat' (first
   | refine goa ?_|refine go3 (fun hlt=>?_) (fun hge=>?_)|refine go2 (fun h=>?_) (fun h=>?_)|exact go0|refine goz ?_|refine Qvha ?_ ?_
   | ((with_reducible apply Q1a (hf:=Tryz.call86));(·(cbv;try rfl));(·intro wc hbc hxc;exact Q6h _ _ _ wc);intro z hz)
   | ((with_reducible apply Q4f (hf:=Tryz.call86));(·(cbv;try rfl));(·intro wc hbc hxc;exact Q6h _ _ _ wc);intro z hz)
   | fail)
  all_goals first|(rw[hR];done)|(exfalso;have:=e1 _ y9;simp_all)
 have h1 (wc:World):=Qxea t x u ht hx t0 x0 wc
 obtain ⟨z,hz⟩:=x9 (conB t x u)
 rw[<-hz] at h1 hR
 rw[ht,hx] at hR
 simp only[Bool.true_and] at hR
 clear hz t0 x0 k1 k2
 obtain ⟨⟨tl,td,tf⟩,tw,te⟩:=t
 obtain ⟨xa,⟨xl,xd,xf⟩,xb,xc⟩:=x
 simp only at h1 hx ht hR
 refine Qaa (args:=[.pt (.agg (GTouch.sc _)),.pt (.agg (GLoan.sc _)),.pt (.one (.bool u))]) (c:=Qra) Tryz.func50 rfl (Qga _) rfl rfl ?_
 obtain ⟨_,_,_,hnt,_,har,_,hcm,_,_,_,_,ar01,ar12,_,hzpl,_,_,_,_,_,_,_,_,hT⟩:=Qca
 repeat' (first
  | refine goa ?_|refine go3 (fun hlt=>?_) (fun hge=>?_)|refine go2 (fun h=>?_) (fun h=>?_)|exact go0|refine goz ?_|refine Qvha ?_ ?_
  | (refine' Qiha Tryz.call86 ?_ ?_;rotate_left;(·intro wc hbc hxc;exact Qhfa _ _ _ (by first|exact ht|exact hx) wc))
  | (refine' Qiha Tryz.call69 ?_ ?_;rotate_left;(·intro wc hbc hxc;exact h1 wc))
  | fail)
 all_goals
  rw[hR]
  clear hT h1
  subst hcm
  simp only[rCm,decide_eq_true_eq,decide_eq_false_iff_not] at *
 all_goals first
  | (rw[show (decide (1<=xb)&&decide (xb<=3))=true by simp;omega];rfl)
  | (rw[show (decide (1<=xb)&&decide (xb<=3))=false by simp;omega];rfl)
section
set_option maxRecDepth 100000
theorem Qtia (F:GFun) (w:World) (hF:F.At w) (hz:fchkV F≠0) (at_:Int):
 Calls Tryz.prog 49 #[F.val,.int .i64 at_] w (Ret w (.tuple #[.slice none 0 0,.int .i64 (fchkV F)])):=by
 have h1 wc (hk:KB ⟨w,[]⟩ wc):=Qn7 F wc (hF.later hk)
 generalize fchkV F=z at h1 hz⊢
 have hq:decide (z=0)=false:=decide_eq_false hz
 clear hz
 obtain ⟨_,_,_,ln,_,_,_,_,_,_,_,_,_,_,_,_,_,_,_,_,_,_,_,_⟩:=F
 obtain ⟨hX,hl,hb,hs,hj⟩:=hF
 simp only at hl hb hs hj
 refine Qaa (args:=[.pt (.agg (GFun.dat _)),.pt (.one (.int .i64 at_))]) (c:=(Qwa _)) Tryz.func49 rfl hX rfl rfl ?_
 obtain ⟨_,_,_,hnt,_,har,_,hcm,_,_,_,_,ar01,ar12,_,hzpl,_,_,_,_,_,_,_,_,hT⟩:=Qca
 repeat' (first
  | refine goa ?_|refine go3 (fun hlt=>?_) (fun hge=>?_)|refine go2 (fun h=>?_) (fun h=>?_)|exact go0|refine goz ?_|refine Qvha ?_ ?_
  | (refine' Qiha Tryz.call85 ?_ ?_;rotate_left;(·intro wc hbc hxc;exact h1 wc hbc))
  | fail)
 all_goals rfl
theorem Quia (F:GFun) (w:World) (hF:F.At w) (hO:F.Ok) (at_:Int) (hz:at_<0\/(stN F.sn F.bn:Int)<=at_):
 Calls Tryz.prog 49 #[F.val,.int .i64 at_] w (Ret w (.tuple #[.slice none 0 0,.int .i64 2])):=by
 have h1 wc (hk:KB ⟨w,[]⟩ wc):=hO.chk wc (hF.later hk)
 have h2 wc (hk:KB ⟨w,[]⟩ wc):=Qty F wc (hF.later hk) hO.small hO.chk
 obtain ⟨N,hN⟩:=x9 (stN F.sn F.bn)
 obtain ⟨g,hg⟩:=x9 (fun j=>[.int .i64 (.ofNat ((Qgb F.sn F.bn).getD j (0,0)).1),.int .i64 (.ofNat ((Qgb F.sn F.bn).getD j (0,0)).2)]:Nat->List SC)
 have h2 wc (hk:KB ⟨w,[]⟩ wc):Calls Tryz.prog 67 #[F.val] wc (RetR wc (Qwa F) (.tup [.one (.rs 0),.one (.int .i64 0)]) [⟨N,2,g⟩]):=by
  have:=h2 wc hk
  rw[hg,hN];exact this
 rw[<-hN] at hz
 clear hN hg hO
 obtain ⟨_,_,_,ln,_,_,_,_,_,_,_,_,_,_,_,_,_,_,_,_,_,_,_,_⟩:=F
 obtain ⟨hX,hl,hb,hs,hj⟩:=hF
 simp only at hl hb hs hj
 refine Qaa (args:=[.pt (.agg (GFun.dat _)),.pt (.one (.int .i64 at_))]) (c:=(Qwa _)) Tryz.func49 rfl hX rfl rfl ?_
 obtain ⟨_,_,_,hnt,_,har,_,hcm,_,_,_,_,ar01,ar12,_,hzpl,_,_,_,_,_,_,_,_,hT⟩:=Qca
 repeat' (first
  | refine goa ?_|refine go3 (fun hlt=>?_) (fun hge=>?_)|refine go2 (fun h=>?_) (fun h=>?_)|exact go0|refine goz ?_|refine Qvha ?_ ?_
  | (refine' Qiha Tryz.call85 ?_ ?_;rotate_left;(·intro wc hbc hxc;exact h1 wc hbc))
  | ((with_reducible apply Qoa (hf:=Tryz.call67));(·intro S;cbv;try rfl);(·intro wc S hbc hxc hrc;exact h2 wc hbc);(·rfl))
  | fail)
 all_goals (try rfl)
 all_goals
  exfalso
  subst hcm
  have q1:=of_decide_eq_false (show decide (at_<0)=false by assumption)
  have q2:=of_decide_eq_false (show decide ((N:Int)<=at_)=false by assumption)
  omega
theorem Q3ha (F:GFun) (w:World) (hF:F.At w) (hO:F.Ok) (n:Nat) (hn:n<stN F.sn F.bn):
 Calls Tryz.prog 49 #[F.val,.int .i64 (.ofNat n)] w (RetR w (Qwa F) (.tup [.one (.rs 0),.one (.int .i64 0)]) [Q4da (ptT F (pbN F n) (piN F n))]):=by
 have h1 wc (hk:KB ⟨w,[]⟩ wc):=hO.chk wc (hF.later hk)
 have h2 wc (hk:KB ⟨w,[]⟩ wc):=Qty F wc (hF.later hk) hO.small hO.chk
 have h3 wc (hk:KB ⟨w,[]⟩ wc):=Qxfa F wc (hF.later hk) hO (pbN F n) (piN F n) (Qoc hn).1
 obtain ⟨R,hR⟩:=x9 (Q4da (ptT F (pbN F n) (piN F n)))
 rw[<-hR] at h3⊢
 obtain ⟨N,hN⟩:=x9 (stN F.sn F.bn)
 obtain ⟨pb,hpb⟩:=x9 (pbN F:N9z)
 obtain ⟨pi,hpi⟩:=x9 (piN F:N9z)
 have h2 wc (hk:KB ⟨w,[]⟩ wc):Calls Tryz.prog 67 #[F.val] wc (RetR wc (Qwa F) (.tup [.one (.rs 0),.one (.int .i64 0)]) [⟨N,2,fun j=>[.int .i64 (.ofNat (pb j)),.int .i64 (.ofNat (pi j))]⟩]):=by
  have:=h2 wc hk
  rw[hN,hpb,hpi];exact this
 rw[<-hpb,<-hpi] at h3
 rw[<-hN] at hn
 clear hR hN hpb hpi hO
 obtain ⟨_,_,_,ln,_,_,_,_,_,_,_,_,_,_,_,_,_,_,_,_,_,_,_,_⟩:=F
 obtain ⟨hX,hl,hb,hs,hj⟩:=hF
 simp only at hl hb hs hj
 refine Qaa (args:=[.pt (.agg (GFun.dat _)),.pt (.one (.int .i64 (.ofNat n)))]) (c:=(Qwa _)) Tryz.func49 rfl hX rfl rfl ?_
 obtain ⟨_,_,_,hnt,_,har,cm,hcm,_,_,_,_,ar01,ar12,_,hzpl,_,_,_,_,_,_,_,_,hT⟩:=Qca
 have q1:cm .lss (.ofNat n) 0=false:=by rw[hcm];exact decide_eq_false (Int.not_lt.2 (Int.natCast_nonneg n))
 have q2:cm .geq (.ofNat n) (.ofNat N)=false:=by rw[hcm];exact decide_eq_false (fun g=>absurd (Int.ofNat_le.1 g) o9)
 repeat' (first
  | refine goa ?_|refine go3 (fun hlt=>?_) (fun hge=>?_)|refine go2 (fun h=>?_) (fun h=>?_)|exact go0|refine Qz9 ?_|refine gof ?_|refine gob ?_|refine Qvha ?_ ?_
  | (refine' Qiha Tryz.call85 ?_ ?_;rotate_left;(·intro wc hbc hxc;exact h1 wc hbc))
  | ((with_reducible apply Qoa (hf:=Tryz.call67));(·intro S;cbv;try rfl);(·intro wc S hbc hxc hrc;exact h2 wc hbc);(·rfl))
  | ((with_reducible apply Qoa (hf:=Tryz.call70));(·intro S;cbv;try rfl);(·intro wc S hbc hxc hrc;exact h3 wc hbc);(·rfl))
  | (((with_reducible apply Qxa);(·exact Int.natCast_nonneg _);(·exact Int.ofNat_lt.2 y9)))
  | fail)
end
section
set_option maxRecDepth 100000
section
variable {Q:E9z} {c:R9z} {w0:Base}
theorem Qyha (n:Nat) (L:List GTouch) {pa:Int} {un:Bool} {l b:SC} {xi:Int} {dst:Option Nat} {k:List Item} {st:St} (hxi:xi=.ofNat n) (hv:∀S B,Qjv S B c [.pt (.agg [.int .i64 pa,.lit un,l,b]),.pt (.one (.int .i64 xi))]=some [(Qxba st.h B pa un l b).val,.int .i64 xi]) (hok:Qtca st.h l b=true) (hO:∀B,fchkV (Qxba st.h B pa un l b)=0)
 (hx:∀B,decide (n<stN (Qxba st.h B pa un l b).sn (Qxba st.h B pa un l b).bn)=true) (hL:∀B,ptT (Qxba st.h B pa un l b) (pbN (Qxba st.h B pa un l b) n) (piN (Qxba st.h B pa un l b) n)=L)
 (h:Goes Tryz.prog Q c w0 k (({ st with r:=st.r++Qjq [Q4da L] }:St).put dst ((SV.tup [.one (.rs 0),.one (.int .i64 0)]).shR (Qyn st.r)))):OutOk Tryz.prog Q c w0 (.call 49 [.pt (.agg [.int .i64 pa,.lit un,l,b]),.pt (.one (.int .i64 xi))] dst k st):=
 Qaia (vs:=fun S B=>[(Qxba st.h B pa un l b).val,.int .i64 xi]) hv Tryz.call49 (fun w S B hk hx' hM=>by
  subst hxi
  have hO:GFun.Ok (Qxba st.h B pa un l b):=hO B
  have:=Q3ha _ w (Qfca hM hok) hO n (of_decide_eq_true (hx B))
  rw[hL B] at this
  exact Calls.to (c':=c) (Qdea L) rfl this) rfl h
end
theorem Q1ha (n:Int) (w:World):Calls Tryz.prog 39 #[.int .i64 n] w (Ret w (.agg #[.int .i64 n,.bool false,.int .u8 0])):=by
 refine Qaa (args:=[.pt (.one (.int .i64 n))]) (c:=Qra) Tryz.func39 rfl (Qga _) rfl rfl ?_
 obtain ⟨_,_,_,hnt,_,har,_,hcm,_,_,_,_,ar01,ar12,_,hzpl,_,_,_,_,_,_,_,_,hT⟩:=Qca
 repeat' (first
  | refine goa ?_|refine go3 (fun hlt=>?_) (fun hge=>?_)|refine go2 (fun h=>?_) (fun h=>?_)|exact go0|refine goz ?_|refine Qvha ?_ ?_
  | fail)
 all_goals rfl
theorem Qxha (n:Int) (w:World):Calls Tryz.prog 46 #[.int .i64 n] w (Ret w (.agg #[.int .i64 n,.bool true,.int .u8 0])):=by
 refine Qaa (args:=[.pt (.one (.int .i64 n))]) (c:=Qra) Tryz.func46 rfl (Qga _) rfl rfl ?_
 obtain ⟨_,_,_,hnt,_,har,_,hcm,_,_,_,_,ar01,ar12,_,hzpl,_,_,_,_,_,_,_,_,hT⟩:=Qca
 repeat' (first
  | refine goa ?_|refine go3 (fun hlt=>?_) (fun hge=>?_)|refine go2 (fun h=>?_) (fun h=>?_)|exact go0|refine goz ?_|refine Qvha ?_ ?_
  | fail)
 all_goals rfl
theorem Qeia (k l f:Int) (d:Bool) (w:World):Calls Tryz.prog 38 #[.int .u8 k,.agg #[.int .i64 l,.bool d,.int .u8 f]] w (Ret w (GRv.val ⟨1,0,0,⟨k,0,⟨l,d,f⟩⟩,.zero,.zero⟩)):=by
 refine Qaa (args:=[.pt (.one (.int .u8 k)),.pt (.agg [.int .i64 l,.bool d,.int .u8 f])]) (c:=Qra) Tryz.func38 rfl (Qga _) rfl rfl ?_
 obtain ⟨_,_,_,hnt,_,har,_,hcm,_,_,_,_,ar01,ar12,_,hzpl,_,_,_,_,_,_,_,_,hT⟩:=Qca
 repeat' (first
  | refine goa ?_|refine go3 (fun hlt=>?_) (fun hge=>?_)|refine go2 (fun h=>?_) (fun h=>?_)|exact go0|refine goz ?_|refine Qvha ?_ ?_
  | fail)
 all_goals rfl
theorem Qzha (ql qf rk ro rb ak an al af ek en el ef gl gf:Int) (qd ad ed gd:Bool) (w:World):Calls Tryz.prog 44 #[.agg #[.int .i64 ql,.bool qd,.int .u8 qf],.agg #[.int .u8 rk,.int .u8 ro,.int .u8 rb,.int .u8 ak,.int .i64 an,.int .i64 al,.bool ad,.int .u8 af,.int .u8 ek,.int .i64 en,.int .i64 el,.bool ed,.int .u8 ef,.int .i64 gl,.bool gd,.int .u8 gf]] w (Ret w (GStmt.val ⟨1,⟨ql,qd,qf⟩,⟨rk,ro,rb,⟨ak,an,⟨al,ad,af⟩⟩,⟨ek,en,⟨el,ed,ef⟩⟩,⟨gl,gd,gf⟩⟩,.zero,0⟩)):=by
 refine Qaa (args:=[.pt (.agg [.int .i64 ql,.bool qd,.int .u8 qf]),.pt (.agg (GRv.sc ⟨rk,ro,rb,⟨ak,an,⟨al,ad,af⟩⟩,⟨ek,en,⟨el,ed,ef⟩⟩,⟨gl,gd,gf⟩⟩))]) (c:=Qra) Tryz.func44 rfl (Qga _) rfl rfl ?_
 obtain ⟨_,_,_,hnt,_,har,_,hcm,_,_,_,_,ar01,ar12,_,hzpl,_,_,_,_,_,_,_,_,hT⟩:=Qca
 repeat' (first
  | refine goa ?_|refine go3 (fun hlt=>?_) (fun hge=>?_)|refine go2 (fun h=>?_) (fun h=>?_)|exact go0|refine goz ?_|refine Qvha ?_ ?_
  | fail)
 all_goals rfl
theorem Q8ha (tl tf xa xl xf xb xc:Int) (td tw te xd u:Bool) (t0:0<=tf) (x0:0<=xf) (w:World):
 Calls Tryz.prog 50 #[.agg #[.int .i64 tl,.bool td,.int .u8 tf,.bool tw,.bool te],.agg #[.int .i64 xa,.int .i64 xl,.bool xd,.int .u8 xf,.int .u8 xb,.int .i64 xc],.bool u] w (Ret w (bif Qdia ⟨⟨tl,td,tf⟩,tw,te⟩ ⟨xa,⟨xl,xd,xf⟩,xb,xc⟩ then .tuple #[.bool (conB ⟨⟨tl,td,tf⟩,tw,te⟩ ⟨xa,⟨xl,xd,xf⟩,xb,xc⟩ u),.int .i64 0] else .tuple #[.bool false,.int .i64 8])):=Q4ha ⟨⟨tl,td,tf⟩,tw,te⟩ ⟨xa,⟨xl,xd,xf⟩,xb,xc⟩ u t0 x0 w
theorem Q7ha (w:World):
 Calls Tryz.prog 51 #[] w (Ret w (.bool true)):=by
 refine Qaa (args:=[]) (c:=Qra) Tryz.func51 rfl (Qga _) rfl rfl ?_
 obtain ⟨_,hnd,_,hnt,_,har,_,hcm,_,hmx,_,hmn,ar01,ar12,_,hzpl,_,hzjn,_,hzup,_,hzmi,_,hzdp,hT⟩:=Qca
 subst hnd hnt har hcm hmx hmn hzpl hzjn hzup hzmi hzdp
 repeat' (first
  | refine goa ?_|refine go3 (fun hlt=>?_) (fun hge=>?_)|refine go2 (fun h=>?_) (fun h=>?_)|exact go0|refine gof ?_|refine gob ?_|refine Qvha ?_ ?_
  | (refine' Qiha Tryz.call39 ?_ ?_;rotate_left;(·intro wc hbc hxc;exact Q1ha _ wc))
  | (refine' Qiha Tryz.call46 ?_ ?_;rotate_left;(·intro wc hbc hxc;exact Qxha _ wc))
  | fail)
 with_reducible refine Q4d (by kernel_rfl) ?_
 refine Q9d 1 0 rfl rfl rfl rfl rfl trivial rfl (Qlba 0) (Qlca 0) (fun a1 _=>?_)
 refine Q9d 2 1 rfl rfl rfl rfl rfl trivial rfl (Qyf (Qlba 0) rfl Qvc) Qku (fun a2 _=>?_)
 refine Q9d 3 2 rfl rfl rfl rfl rfl trivial rfl (Qyf (Qyf (Qlba 0) rfl Qvc) rfl Qvc) Qku (fun a3 _=>?_)
 refine Qw4 (σ:=Unit) (fun _=>Q3a (Q3a (Q3a Qra 0 (Q1g a1 [.int .i64 2,.bool true,.int .u8 0,.lit false,.lit true])) 1 (Q1g a2 [.int .i64 2,.bool false,.int .u8 0,.lit true,.lit true])) 2 (Q1g a3 [.int .i64 2,.bool false,.int .u8 0,.lit true,.lit false])) [17,18,19,20,21,22,23,24,25,26,27,28,29,30,31,32,33,34,35,36,37,38,39,40,41,42,43,44,45,46,47,48] (fun _=>[(6,.pt (.one (.lit true)))]) (fun _=>[]) (fun _=>[]) rfl ?_ (fun _=>?_)
 · skip
   repeat' (first
    | (refine gov ?_;(try simp only[ar01,ar12]))
    | ((with_reducible apply go_takeC 0 hT (g:=39) (hfun:=Tryz.call39));(·rfl);(·kernel_rfl);(·rfl);(·rfl);(·(intro h_;cases h_));(·kernel_rfl);(·kernel_rfl);(·kernel_rfl);(·(cbv;try rfl));(·(cbv;try rfl));(·(cbv;try rfl));(·intro wc;exact Q1ha _ wc))
    | ((with_reducible apply go_takeC 1 hT (g:=39) (hfun:=Tryz.call39));(·rfl);(·kernel_rfl);(·rfl);(·rfl);(·(intro h_;cases h_));(·kernel_rfl);(·kernel_rfl);(·kernel_rfl);(·(cbv;try rfl));(·(cbv;try rfl));(·(cbv;try rfl));(·intro wc;exact Q1ha _ wc))
    | ((with_reducible apply go_takeC 2 hT (g:=39) (hfun:=Tryz.call39));(·rfl);(·kernel_rfl);(·rfl);(·rfl);(·(intro h_;cases h_));(·kernel_rfl);(·kernel_rfl);(·kernel_rfl);(·(cbv;try rfl));(·(cbv;try rfl));(·(cbv;try rfl));(·intro wc;exact Q1ha _ wc))
    | ((with_reducible apply go_takeC 3 hT (g:=39) (hfun:=Tryz.call39));(·rfl);(·kernel_rfl);(·rfl);(·rfl);(·(intro h_;cases h_));(·kernel_rfl);(·kernel_rfl);(·kernel_rfl);(·(cbv;try rfl));(·(cbv;try rfl));(·(cbv;try rfl));(·intro wc;exact Q1ha _ wc))
    | ((with_reducible apply go_takeC 4 hT (g:=39) (hfun:=Tryz.call39));(·rfl);(·kernel_rfl);(·rfl);(·rfl);(·(intro h_;cases h_));(·kernel_rfl);(·kernel_rfl);(·kernel_rfl);(·(cbv;try rfl));(·(cbv;try rfl));(·(cbv;try rfl));(·intro wc;exact Q1ha _ wc))
    | ((with_reducible apply go_takeC 0 hT (g:=46) (hfun:=Tryz.call46));(·rfl);(·kernel_rfl);(·rfl);(·rfl);(·(intro h_;cases h_));(·kernel_rfl);(·kernel_rfl);(·kernel_rfl);(·(cbv;try rfl));(·(cbv;try rfl));(·(cbv;try rfl));(·intro wc;exact Qxha _ wc))
    | ((with_reducible apply go_takeC 1 hT (g:=46) (hfun:=Tryz.call46));(·rfl);(·kernel_rfl);(·rfl);(·rfl);(·(intro h_;cases h_));(·kernel_rfl);(·kernel_rfl);(·kernel_rfl);(·(cbv;try rfl));(·(cbv;try rfl));(·(cbv;try rfl));(·intro wc;exact Qxha _ wc))
    | ((with_reducible apply go_takeC 2 hT (g:=46) (hfun:=Tryz.call46));(·rfl);(·kernel_rfl);(·rfl);(·rfl);(·(intro h_;cases h_));(·kernel_rfl);(·kernel_rfl);(·kernel_rfl);(·(cbv;try rfl));(·(cbv;try rfl));(·(cbv;try rfl));(·intro wc;exact Qxha _ wc))
    | ((with_reducible apply go_takeC 3 hT (g:=46) (hfun:=Tryz.call46));(·rfl);(·kernel_rfl);(·rfl);(·rfl);(·(intro h_;cases h_));(·kernel_rfl);(·kernel_rfl);(·kernel_rfl);(·(cbv;try rfl));(·(cbv;try rfl));(·(cbv;try rfl));(·intro wc;exact Qxha _ wc))
    | ((with_reducible apply go_takeC 4 hT (g:=46) (hfun:=Tryz.call46));(·rfl);(·kernel_rfl);(·rfl);(·rfl);(·(intro h_;cases h_));(·kernel_rfl);(·kernel_rfl);(·kernel_rfl);(·(cbv;try rfl));(·(cbv;try rfl));(·(cbv;try rfl));(·intro wc;exact Qxha _ wc))
    | ((with_reducible apply go_takeC 0 hT (g:=38) (hfun:=Tryz.call38));(·rfl);(·kernel_rfl);(·rfl);(·rfl);(·(intro h_;cases h_));(·kernel_rfl);(·kernel_rfl);(·kernel_rfl);(·(cbv;try rfl));(·(cbv;try rfl));(·(cbv;try rfl));(·intro wc;exact Qeia _ _ _ _ wc))
    | ((with_reducible apply go_takeC 1 hT (g:=38) (hfun:=Tryz.call38));(·rfl);(·kernel_rfl);(·rfl);(·rfl);(·(intro h_;cases h_));(·kernel_rfl);(·kernel_rfl);(·kernel_rfl);(·(cbv;try rfl));(·(cbv;try rfl));(·(cbv;try rfl));(·intro wc;exact Qeia _ _ _ _ wc))
    | ((with_reducible apply go_takeC 2 hT (g:=38) (hfun:=Tryz.call38));(·rfl);(·kernel_rfl);(·rfl);(·rfl);(·(intro h_;cases h_));(·kernel_rfl);(·kernel_rfl);(·kernel_rfl);(·(cbv;try rfl));(·(cbv;try rfl));(·(cbv;try rfl));(·intro wc;exact Qeia _ _ _ _ wc))
    | ((with_reducible apply go_takeC 3 hT (g:=38) (hfun:=Tryz.call38));(·rfl);(·kernel_rfl);(·rfl);(·rfl);(·(intro h_;cases h_));(·kernel_rfl);(·kernel_rfl);(·kernel_rfl);(·(cbv;try rfl));(·(cbv;try rfl));(·(cbv;try rfl));(·intro wc;exact Qeia _ _ _ _ wc))
    | ((with_reducible apply go_takeC 4 hT (g:=38) (hfun:=Tryz.call38));(·rfl);(·kernel_rfl);(·rfl);(·rfl);(·(intro h_;cases h_));(·kernel_rfl);(·kernel_rfl);(·kernel_rfl);(·(cbv;try rfl));(·(cbv;try rfl));(·(cbv;try rfl));(·intro wc;exact Qeia _ _ _ _ wc))
    | ((with_reducible apply go_takeC 0 hT (g:=44) (hfun:=Tryz.call44));(·rfl);(·kernel_rfl);(·rfl);(·rfl);(·(intro h_;cases h_));(·kernel_rfl);(·kernel_rfl);(·kernel_rfl);(·(cbv;try rfl));(·(cbv;try rfl));(·(cbv;try rfl));(·intro wc;exact Qzha _ _ _ _ _ _ _ _ _ _ _ _ _ _ _ _ _ _ _ wc))
    | ((with_reducible apply go_takeC 1 hT (g:=44) (hfun:=Tryz.call44));(·rfl);(·kernel_rfl);(·rfl);(·rfl);(·(intro h_;cases h_));(·kernel_rfl);(·kernel_rfl);(·kernel_rfl);(·(cbv;try rfl));(·(cbv;try rfl));(·(cbv;try rfl));(·intro wc;exact Qzha _ _ _ _ _ _ _ _ _ _ _ _ _ _ _ _ _ _ _ wc))
    | ((with_reducible apply go_takeC 2 hT (g:=44) (hfun:=Tryz.call44));(·rfl);(·kernel_rfl);(·rfl);(·rfl);(·(intro h_;cases h_));(·kernel_rfl);(·kernel_rfl);(·kernel_rfl);(·(cbv;try rfl));(·(cbv;try rfl));(·(cbv;try rfl));(·intro wc;exact Qzha _ _ _ _ _ _ _ _ _ _ _ _ _ _ _ _ _ _ _ wc))
    | ((with_reducible apply go_takeC 3 hT (g:=44) (hfun:=Tryz.call44));(·rfl);(·kernel_rfl);(·rfl);(·rfl);(·(intro h_;cases h_));(·kernel_rfl);(·kernel_rfl);(·kernel_rfl);(·(cbv;try rfl));(·(cbv;try rfl));(·(cbv;try rfl));(·intro wc;exact Qzha _ _ _ _ _ _ _ _ _ _ _ _ _ _ _ _ _ _ _ wc))
    | ((with_reducible apply go_takeC 4 hT (g:=44) (hfun:=Tryz.call44));(·rfl);(·kernel_rfl);(·rfl);(·rfl);(·(intro h_;cases h_));(·kernel_rfl);(·kernel_rfl);(·kernel_rfl);(·(cbv;try rfl));(·(cbv;try rfl));(·(cbv;try rfl));(·intro wc;exact Qzha _ _ _ _ _ _ _ _ _ _ _ _ _ _ _ _ _ _ _ wc))
    | refine goa ?_|refine go3 (fun hlt=>?_) (fun hge=>?_)|refine go2 (fun h=>?_) (fun h=>?_)|exact go0|refine gof ?_|refine gob ?_|refine Qvha ?_ ?_
    | (refine' Qiha Tryz.call39 ?_ ?_;rotate_left;(·intro wc hbc hxc;exact Q1ha _ wc))
    | (refine' Qiha Tryz.call46 ?_ ?_;rotate_left;(·intro wc hbc hxc;exact Qxha _ wc))
    | (refine' Qiha Tryz.call38 ?_ ?_;rotate_left;(·intro wc hbc hxc;exact Qeia _ _ _ _ wc))
    | (refine' Qiha Tryz.call44 ?_ ?_;rotate_left;(·intro wc hbc hxc;exact Qzha _ _ _ _ _ _ _ _ _ _ _ _ _ _ _ _ _ _ _ wc))
    | refine Qhha Tryz.func43 Tryz.results43 Tryz.call43 ?_
    | refine Qhha Tryz.func48 Tryz.results48 Tryz.call48 ?_
    | (((apply Qyha 0 [⟨⟨2,true,0⟩,false,true⟩,⟨⟨0,false,0⟩,true,false⟩] (by rfl));(·(intro S B;cbv;try rfl));(·kernel_rfl);(·(intro B;cbv));(·(intro B;cbv));(·(intro B;cbv))))
    | (((apply Qyha 0 [⟨⟨2,false,0⟩,true,true⟩,⟨⟨3,false,0⟩,true,false⟩] (by rfl));(·(intro S B;cbv;try rfl));(·kernel_rfl);(·(intro B;cbv));(·(intro B;cbv));(·(intro B;cbv))))
    | (((apply Qyha 0 [⟨⟨2,false,0⟩,true,false⟩] (by rfl));(·(intro S B;cbv;try rfl));(·kernel_rfl);(·(intro B;cbv));(·(intro B;cbv));(·(intro B;cbv))))
    | refine Qhha Tryz.func84 Tryz.results84 Tryz.call84 ?_
    | (with_reducible apply Qqa 4)
    | (((refine Qzh () rfl ?_ ?_ ?_);(·(refine Q8c ?_ ?_ ?_ ?_<;>(cbv;(try simp only[true_and,and_true]);(try ((repeat' apply And.intro)<;>(first|trivial|rfl|exact RowLe.rfl' _))))));(·(cbv;try rfl));(·simp)))
    | (((with_reducible apply Qbn);(·rfl);(·kernel_rfl);(·kernel_rfl)))
    | (fail)
    | fail)
 repeat' (first
  | refine goa ?_|refine go3 (fun hlt=>?_) (fun hge=>?_)|refine go2 (fun h=>?_) (fun h=>?_)|exact go0|refine goz ?_|refine Qvha ?_ ?_
  | refine Qhha Tryz.func58 Tryz.results58 Tryz.call58 ?_
  | (refine' Qiha Tryz.call50 ?_ ?_;rotate_left;(·intro wc hbc hxc;exact Q8ha _ _ _ _ _ _ _ _ _ _ _ _ (by decide) (by decide) wc))
  | fail)
 all_goals rfl
end
section
namespace ClaG
variable (G:ClaG)
def act (n k:Nat):Bool:=decide ((G.ln k).bo=3)&&(G.sI k n&&G.tw k n)
def te (n:Nat):Nat->List GTouch
 | 0=>G.tt n
 | m+1=>te n m++if G.act n m=true then [⟨(G.ln m).p,true,true⟩] else []
def bu (n:Nat):Nat->List Int
 | 0=>List.replicate (G.tt n).length (-1)
 | m+1=>bu n m++if G.act n m=true then [.ofNat m] else []
theorem bu_len (n:Nat):∀m,(G.bu n m).length=(G.te n m).length
 | 0=>by simp[bu,te]
 | m+1=>by
   simp only[bu,te,List.length_append,bu_len n m]
   split<;>rfl
theorem te_len (n:Nat):∀m,(G.te n m).length<=(G.tt n).length+m
 | 0=>Nat.le_refl _
 | m+1=>by
   have:=te_len n m
   simp only[te,List.length_append]
   split
   · simp only[List.length_singleton];omega
   · simp only[List.length_nil];omega
def etl (n:Nat) (T:List GTouch) (B:List Int):Nat->List GClash
 | 0=>[]
 | i+1=>etl n T B i++G.ag n (T.getD i .zero) (B.getD i 0) G.P
theorem etl_app (n:Nat) {T T':List GTouch} {B B':List Int} (h:B.length=T.length):∀i,i<=T.length->G.etl n (T++T') (B++B') i=G.etl n T B i
 | 0,_=>rfl
 | i+1,hi=>by
   simp only[etl,etl_app n h i o9]
   rw[show (T++T').getD i .zero=T.getD i .zero by simp[List.getD,List.getElem?_append_left (show i<T.length by omega)],show (B++B').getD i 0=B.getD i 0 by simp[List.getD,List.getElem?_append_left (show i<B.length by omega)]]
theorem etl_tl (n:Nat):∀i,i<=(G.tt n).length->G.etl n (G.tt n) (List.replicate (G.tt n).length (-1)) i=G.tl n i
 | 0,_=>rfl
 | i+1,hi=>by
   simp only[etl,tl,etl_tl n i o9]
   rw[show (List.replicate (G.tt n).length (-1:Int)).getD i 0= -1 by simp[List.getD,List.getElem?_replicate,show i<(G.tt n).length by omega]]
theorem etl_te (n:Nat):∀m,G.etl n (G.te n m) (G.bu n m) (G.te n m).length=G.tl n (G.tt n).length++G.ac n m
 | 0=>by simp only[te,bu,ac,List.append_nil];exact G.etl_tl n _ (Nat.le_refl _)
 | m+1=>by
   have ih:=etl_te n m
   by_cases h:G.act n m=true
   · have h':(decide ((G.ln m).bo=3)&&(G.sI m n&&G.tw m n))=true:=h
     simp only[te,bu,ac,h,h',if_true,List.length_append,List.length_singleton,etl]
     rw[G.etl_app n (G.bu_len n m) _ (Nat.le_refl _),ih]
     rw[show (G.te n m++[(⟨(G.ln m).p,true,true⟩:GTouch)]).getD (G.te n m).length .zero=⟨(G.ln m).p,true,true⟩ by simp[List.getD],show (G.bu n m++[Int.ofNat m]).getD (G.te n m).length 0=.ofNat m by rw[<-G.bu_len n m];simp[List.getD]]
     rw[List.append_assoc]
   · have h':¬(decide ((G.ln m).bo=3)&&(G.sI m n&&G.tw m n))=true:=h
     simp only[te,bu,ac,if_neg h,if_neg h',List.append_nil]
     exact ih
theorem etl_pt (n:Nat):G.etl n (G.te n G.P) (G.bu n G.P) (G.te n G.P).length=G.pt n:=G.etl_te n G.P
theorem ag_pre {n : Nat} {t : GTouch} {b : Int} : ∀ {k k'}, k <= k' -> G.ag n t b k <+: G.ag n t b k'
  | k, 0, h => by obtain rfl : k = 0 := by omega
                  exact List.prefix_refl _
  | k, k' + 1, h => by
    by_cases e : k = k' + 1
    · subst e; exact List.prefix_refl _
    · exact (ag_pre o9).trans (List.prefix_append _ _)
theorem etl_pre {n : Nat} {T : List GTouch} {B : List Int} : ∀ {i i'}, i <= i' -> G.etl n T B i <+: G.etl n T B i'
  | i, 0, h => by obtain rfl : i = 0 := by omega
                  exact List.prefix_refl _
  | i, i' + 1, h => by
    by_cases e : i = i' + 1
    · subst e; exact List.prefix_refl _
    · exact (etl_pre o9).trans (List.prefix_append _ _)
theorem al_pre : ∀ {n n'}, n <= n' -> G.al n <+: G.al n'
  | n, 0, h => by obtain rfl : n = 0 := by omega
                  exact List.prefix_refl _
  | n, n' + 1, h => by
    by_cases e : n = n' + 1
    · subst e; exact List.prefix_refl _
    · exact (al_pre o9).trans (List.prefix_append _ _)
def met (n i k:Nat):List GClash:=G.al n++G.etl n (G.te n G.P) (G.bu n G.P) i++G.ag n ((G.te n G.P).getD i .zero) ((G.bu n G.P).getD i 0) k
theorem met_end (n i:Nat):G.met n i G.P=G.met n (i+1) 0:=by simp only[met,etl,ag,List.append_nil,List.append_assoc]
theorem met_pt (n:Nat):G.met n (G.te n G.P).length 0=G.met (n+1) 0 0:=by simp only[met,ag,etl,List.append_nil,G.etl_pt,al]
theorem met_al (n:Nat):G.met n 0 0=G.al n:=by simp only[met,ag,etl,List.append_nil]
theorem met_skip {n i k:Nat} (h:(!decide (Int.ofNat k=(G.bu n G.P).getD i 0)&&(G.sI k n&&conB ((G.te n G.P).getD i .zero) (G.ln k) (G.sU k n)))=false):G.met n i k=G.met n i (k+1):=by
 simp only[met,ag,h,Bool.false_eq_true,if_false,List.append_nil]
theorem met_take {n i k:Nat} (h:(!decide (Int.ofNat k=(G.bu n G.P).getD i 0)&&(G.sI k n&&conB ((G.te n G.P).getD i .zero) (G.ln k) (G.sU k n)))=true):G.met n i (k+1)=G.met n i k++[⟨n,k,(G.te n G.P).getD i .zero⟩]:=by
 simp only[met,ag,h,if_true,List.append_assoc]
theorem met_pre {N n i k:Nat} (hn:n<N) (hi:i<(G.te n G.P).length) (hk:k<=G.P):G.met n i k<+:G.al N:=by
 have h1:G.met n i k<+:G.met n i G.P:=(List.prefix_append_right_inj _).2 (G.ag_pre hk)
 have h2:G.met n i G.P<+:G.al (n+1):=by
  rw[G.met_end,<-G.met_al (n+1),<-G.met_pt]
  simp only[met,ag,List.append_nil]
  exact (List.prefix_append_right_inj _).2 (G.etl_pre o9)
 exact (h1.trans h2).trans (G.al_pre o9)
theorem met_at {N n i k:Nat} (hn:n<N) (hi:i<(G.te n G.P).length) (hk:k<G.P) (h:(!decide (Int.ofNat k=(G.bu n G.P).getD i 0)&&(G.sI k n&&conB ((G.te n G.P).getD i .zero) (G.ln k) (G.sU k n)))=true):
 (G.met n i (k+1)).length=(G.met n i k).length+1/\(G.met n i k).length<(G.al N).length/\(G.al N).getD (G.met n i k).length .zero=⟨n,k,(G.te n G.P).getD i .zero⟩:=by
 have e:=G.met_take h
 obtain ⟨Y,hY⟩:=G.met_pre hn hi (show k+1<=G.P by omega)
 refine ⟨by rw[e];simp,by rw[<-hY,e];simp,?_⟩
 rw[<-hY,e];simp[List.getD]
end ClaG
end
structure ClaW (N P:Nat) (eb:I9z) (sI tw:B9y) (tn:N9z) (xl:Nat->Nat->Int) (xd:B9y) (xf:Nat->Nat->Int) (xw xz:B9y) (el:I9z) (ed:B9z) (ef:I9z) (tT:N9z) (yl:Nat->Nat->Int) (yd:B9y) (yf:Nat->Nat->Int) (yw yz:B9y) (yb:Nat->Nat->Int) (cq:Nat->Nat->Nat->Bool) (L:Nat) (za zk zl:I9z) (zd:B9z) (zf:I9z) (zw zz:B9z) where
 tm:Nat->Nat->Nat
 em:Nat->Nat->Nat->List SC
 bm:Nat->Nat->Nat->List SC
 x0:Nat->Nat
 x1:Nat->Nat->Nat
 x2:Nat->Nat->Nat->Nat
 m0:∀n,RowLe ⟨tn n,5,fun j=>[.int .i64 (xl n j),.bool (xd n j),.int .u8 (xf n j),.bool (xw n j),.bool (xz n j)]⟩ ⟨tm n 0,5,em n 0⟩
 m1:∀n,RowLe ⟨tn n,1,fun _=>[.int .i64 (-1)]⟩ ⟨tm n 0,1,bm n 0⟩
 mf:∀n m,(decide (eb m=3)&&(sI m n&&tw m n))=false->tm n m=tm n (m+1)/\em n m=em n (m+1)/\bm n m=bm n (m+1)
 mt:∀(zp:Nat->Nat->Nat) (zj:Nat->(Nat->List SC)->(Nat->List SC)->Nat->List SC),zp=(fun x y=>x+y)->zj=rJn->∀n m,eb m=3->sI m n=true->tw m n=true->RowLe ⟨zp (tm n m) 1,5,zj (tm n m) (em n m) (fun j=>Qte [.int .i64 (el m),.bool (ed m),.int .u8 (ef m),.lit true,.lit true] (0+j * 5) 5)⟩ ⟨tm n (m+1),5,em n (m+1)⟩
 mb:∀(zp:Nat->Nat->Nat) (zj:Nat->(Nat->List SC)->(Nat->List SC)->Nat->List SC),zp=(fun x y=>x+y)->zj=rJn->∀n m,eb m=3->sI m n=true->tw m n=true->RowLe ⟨zp (tm n m) 1,1,zj (tm n m) (bm n m) (fun j=>Qte [.int .i64 (.ofNat m)] (0+j * 1) 1)⟩ ⟨tm n (m+1),1,bm n (m+1)⟩
 mP:∀n m,P<=m->m<=P->RowLe ⟨tm n m,5,em n m⟩ ⟨tT n,5,fun j=>[.int .i64 (yl n j),.bool (yd n j),.int .u8 (yf n j),.bool (yw n j),.bool (yz n j)]⟩
 mQ:∀n m,P<=m->m<=P->RowLe ⟨tm n m,1,bm n m⟩ ⟨tT n,1,fun j=>[.int .i64 (yb n j)]⟩
 hm:∀n m,n<N->m<P->tm n m+1<=1073741824
 hT:∀n,n<N->tT n+1<=1073741824
 hL:L+1<=1073741824
 n0:x0 0=0
 n1:∀n,x0 n=x1 n 0
 n2:∀n i,x1 n i=x2 n i 0
 n3:∀n i k,P<=k->k<=P->x2 n i k=x1 n (i+1)
 n4:∀n i,tT n<=i->i<=tT n->x1 n i=x0 (n+1)
 nf:∀n i k,decide (Int.ofNat k=yb n i)=true\/sI k n=false\/cq n i k=false->x2 n i k=x2 n i (k+1)
 nt:∀n i k,n<N->i<tT n->k<P->decide (Int.ofNat k=yb n i)=false->sI k n=true->cq n i k=true->x2 n i k+1=x2 n i (k+1)/\x2 n i k<L/\za (x2 n i k)=.ofNat n/\zk (x2 n i k)=.ofNat k/\zl (x2 n i k)=yl n i/\zd (x2 n i k)=yd n i/\zf (x2 n i k)=yf n i/\zw (x2 n i k)=yw n i/\zz (x2 n i k)=yz n i
 nL:x0 N=L
theorem Q5ha {pl:Nat->Nat->Nat} {jn:Nat->(Nat->List SC)->(Nat->List SC)->Nat->List SC} (hpl:pl=fun x y=>x+y) (hjn:jn=rJn) {L M:List Int} {t:Int} {cs:List SC} (e:M=L++[t]) (hc:Qbc (Qte cs (0+0 * 1) 1) [.int .i64 t]):RowLe ⟨pl L.length 1,1,jn L.length (fun j=>[.int .i64 (L.getD j 0)]) (fun j=>Qte cs (0+j * 1) 1)⟩ ⟨M.length,1,fun j=>[.int .i64 (M.getD j 0)]⟩:=by
 subst e
 refine Q7a hpl hjn (by rw[List.length_append];rfl) (fun j hj=>?_) ?_
 · rw[show (L++[t]).getD j 0=L.getD j 0 by simp[List.getD,List.getElem?_append_left hj]]
   exact Qpa _
 · rw[show (L++[t]).getD L.length 0=t by simp[List.getD]]
   exact hc
theorem Q2ha {a b:ORow} (h:a=b):RowLe a b:=by subst h;exact RowLe.rfl' _
theorem Qbia {n es:Nat} {f g:Nat->List SC} (h:∀j,j<n->f j=g j):RowLe ⟨n,es,f⟩ ⟨n,es,g⟩:=Q0a rfl (fun j hj=>by show Qbc (f j) (g j);rw[h j hj];exact Qpa _)
theorem claW (F:GFun) (hO:F.Ok) {N P:Nat} {el ef eb:I9z} {ed:B9z} {sI tw:B9y} {tq:Nat->Nat->GTouch} {tn:N9z} {xl xf:Nat->Nat->Int} {xd xw xz:B9y} {ty:Nat->Nat->GTouch} {tT:N9z} {yl yf yb:Nat->Nat->Int} {yd yw yz:B9y} {cq:Nat->Nat->Nat->Bool} {L:Nat} {za zk zl zf:I9z} {zd zw zz:B9z}
 (hN:N=stN F.sn F.bn) (hP:P=lnC F) (hel:el=fun j=>(stAt F (lpN F j)).r.p.l) (hed:ed=fun j=>(stAt F (lpN F j)).r.p.d) (hef:ef=fun j=>(stAt F (lpN F j)).r.p.f) (heb:eb=fun j=>(stAt F (lpN F j)).r.bo) (hsI:sI=scI F) (htw:tw=fun k n=>(wyF F k).tw n)
 (htq:tq=fun n i=>(ptT F (pbN F n) (piN F n)).getD i .zero) (htn:tn=fun n=>(ptT F (pbN F n) (piN F n)).length) (hxl:xl=fun n i=>(tq n i).p.l) (hxd:xd=fun n i=>(tq n i).p.d) (hxf:xf=fun n i=>(tq n i).p.f) (hxw:xw=fun n i=>(tq n i).w) (hxz:xz=fun n i=>(tq n i).d)
 (hty:ty=fun n i=>((clG F).te n (clG F).P).getD i .zero) (htT:tT=fun n=>((clG F).te n (clG F).P).length) (hyl:yl=fun n i=>(ty n i).p.l) (hyd:yd=fun n i=>(ty n i).p.d) (hyf:yf=fun n i=>(ty n i).p.f) (hyw:yw=fun n i=>(ty n i).w) (hyz:yz=fun n i=>(ty n i).d) (hyb:yb=fun n i=>((clG F).bu n (clG F).P).getD i 0)
 (hcq:cq=fun n i k=>conB (ty n i) (lnG F k) (scU F k n)) (hL:L=(claL F).length) (hza:za=fun j=>.ofNat ((claL F).getD j .zero).at_) (hzk:zk=fun j=>.ofNat ((claL F).getD j .zero).loan) (hzl:zl=fun j=>((claL F).getD j .zero).t.p.l) (hzd:zd=fun j=>((claL F).getD j .zero).t.p.d) (hzf:zf=fun j=>((claL F).getD j .zero).t.p.f) (hzw:zw=fun j=>((claL F).getD j .zero).t.w) (hzz:zz=fun j=>((claL F).getD j .zero).t.d):
 ∃S:ClaW N P eb sI tw tn xl xd xf xw xz el ed ef tT yl yd yf yw yz yb cq L za zk zl zd zf zw zz,True:=by
 have hP9:lnC F<=600:=Nat.le_trans (Qxb F _) hO.pts
 have hT90:∀n,n<stN F.sn F.bn->(ptT F (pbN F n) (piN F n)).length<=9:=fun n hn=>Qcea hO (Qoc hn).1
 have hLe:=Quha hO
 obtain ⟨G,hG⟩:=x9 (clG F)
 have eP:G.P=lnC F:=by rw[hG];rfl
 have eL:G.ln=lnG F:=by rw[hG];rfl
 have eI:G.sI=scI F:=by rw[hG];rfl
 have eU:G.sU=scU F:=by rw[hG];rfl
 have eW:G.tw=fun k n=>(wyF F k).tw n:=by rw[hG];rfl
 have eT:G.tt=fun n=>ptT F (pbN F n) (piN F n):=by rw[hG];rfl
 have eC:claL F=G.al N:=by rw[hG,hN];rfl
 rw[<-hG] at hty htT hyb
 have ebo:∀m,(G.ln m).bo=eb m:=fun m=>by rw[eL,heb];rfl
 have ha:∀n m,G.act n m=(decide (eb m=3)&&(sI m n&&tw m n)):=fun n m=>by rw[ClaG.act,ebo,eI,eW,hsI,htw]
 have hPP:P=G.P:=by rw[hP,eP]
 have hte:∀n m,n<N->m<=P->(G.te n m).length<=609:=fun n m hn hm=>by
  have h1:=G.te_len n m
  have h2:(G.tt n).length<=9:=by rw[eT];exact hT90 n (hN▸hn)
  omega
 have hat:∀n i k,cq n i k=conB ((G.te n G.P).getD i .zero) (G.ln k) (G.sU k n):=fun n i k=>by rw[hcq,eL,eU,hty]
 refine ⟨{ tm:=fun n m=>(G.te n m).length,em:=fun n m j=>((G.te n m).getD j .zero).sc,bm:=fun n m j=>[.int .i64 ((G.bu n m).getD j 0)],x0:=fun n=>(G.met n 0 0).length,x1:=fun n i=>(G.met n i 0).length,x2:=fun n i k=>(G.met n i k).length,m0:=fun n=>?_,m1:=fun n=>?_,mf:=fun n m h=>?_,mt:=fun zp zj g1 g2 n m a b c=>?_,mb:=fun zp zj g1 g2 n m a b c=>?_,mP:=fun n m g1 g2=>?_,mQ:=fun n m g1 g2=>?_,hm:=fun n m hn hm=>?_,hT:=fun n hn=>?_,hL:=?_,n0:=rfl,n1:=fun n=>rfl,n2:=fun n i=>rfl,n3:=fun n i k g1 g2=>?_,n4:=fun n i g1 g2=>?_,nf:=fun n i k h=>?_,nt:=fun n i k hn hi hk a b c=>?_,nL:=?_ },trivial⟩
 · refine Q2ha ?_
   rw[hxl,hxd,hxf,hxw,hxz,htn,htq]
   show _=(⟨(G.tt n).length,5,fun j=>((G.tt n).getD j .zero).sc⟩:ORow)
   rw[eT];rfl
 · have e:(G.te n 0).length=tn n:=by rw[htn];show (G.tt n).length=_;rw[eT]
   rw[e]
   refine Qbia fun j hj=>?_
   show _=[SC.int .i64 ((List.replicate (G.tt n).length (-1:Int)).getD j 0)]
   have:j<(G.tt n).length:=by rw[<-show (G.te n 0).length=(G.tt n).length from rfl,e];exact hj
   rw[show (List.replicate (G.tt n).length (-1:Int)).getD j 0= -1 by simp[List.getD,List.getElem?_replicate,this]]
 · have h2:¬G.act n m=true:=by rw[ha,h];decide
   refine ⟨?_,?_,?_⟩<;>simp only[ClaG.te,ClaG.bu,if_neg h2,List.append_nil]
 · have h2:G.act n m=true:=by rw[ha,a,b,c];rfl
   have e:G.te n (m+1)=G.te n m++[⟨(G.ln m).p,true,true⟩]:=by simp only[ClaG.te,h2,if_true]
   rw[hel,hed,hef]
   refine Qxda g1 g2 (L:=G.te n m) (RowLe.rfl' _) e ?_
   rw[eL]
   exact ⟨⟨rfl,rfl⟩,rfl,⟨rfl,rfl⟩,rfl,rfl,trivial⟩
 · have h2:G.act n m=true:=by rw[ha,a,b,c];rfl
   have e:G.bu n (m+1)=G.bu n m++[.ofNat m]:=by simp only[ClaG.bu,h2,if_true]
   have:=Q5ha g1 g2 (cs:=[.int .i64 (.ofNat m)]) e (Qpa _)
   rw[G.bu_len,G.bu_len] at this
   exact this
 · obtain rfl:m=P:=by omega
   refine Q2ha ?_
   rw[hyl,hyd,hyf,hyw,hyz,htT,hty,hPP];rfl
 · obtain rfl:m=P:=by omega
   refine Q2ha ?_
   rw[hyb,htT,hPP]
 · have:=hte n m hn o9
   show (G.te n m).length+1<=_
   omega
 · rw[htT,<-hPP]
   have:=hte n P hn o9
   show (G.te n P).length+1<=_
   omega
 · rw[hL];exact hLe
 · obtain rfl:k=P:=by omega
   rw[hPP,G.met_end]
 · have e:i=(G.te n G.P).length:=by rw[htT] at g1 g2;exact Nat.le_antisymm g2 g1
   rw[e,G.met_pt]
 · have:(!decide (Int.ofNat k=(G.bu n G.P).getD i 0)&&(G.sI k n&&conB ((G.te n G.P).getD i .zero) (G.ln k) (G.sU k n)))=false:=by
    rw[<-hat,eI,<-hsI]
    rw[hyb] at h
    rcases h with h|h|h
    · rw[h];rfl
    · rw[h];simp
    · rw[h];simp
   show (G.met n i k).length=_
   rw[G.met_skip this]
 · have hh:(!decide (Int.ofNat k=(G.bu n G.P).getD i 0)&&(G.sI k n&&conB ((G.te n G.P).getD i .zero) (G.ln k) (G.sU k n)))=true:=by
    rw[<-hat,eI,<-hsI]
    rw[hyb] at a
    rw[a,b,c];rfl
   obtain ⟨k1,k2,k3⟩:=G.met_at hn (by rw[htT] at hi;exact hi) (hPP▸hk) hh
   rw[<-eC] at k2 k3
   refine ⟨k1.symm,by rw[hL];exact k2,?_⟩
   rw[hza,hzk,hzl,hzd,hzf,hzw,hzz,hyl,hyd,hyf,hyw,hyz,hty]
   simp only[k3]
   exact ⟨trivial,trivial,trivial,trivial,trivial,trivial,trivial⟩
 · show (G.met N 0 0).length=L
   rw[G.met_al,hL,eC]
end Go.Proofs.YtemnfncbgalljaaGreat
