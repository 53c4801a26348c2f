/- Lemmas. No condition. -/
import Derived.Test.YtemnfncbgalljaaGreatC4
import Derived.Test.YtemnfncbgalljaaGreatE4
import Derived.Test.YtemnfncbgalljaaGreatW4
namespace Go.Proofs.YtemnfncbgalljaaGreat
open Go.RowKit
set_option linter.all false
set_option maxHeartbeats 64000000
set_option maxRecDepth 100000
theorem Qtha {P:Program} {Q:E9z} {c:R9z} {w0:Base} (ws:List Nat) (ups:List (Nat×SV)) (hh:List (Option (List SC))) {ops:Array Oper} {l:List Bool} {f:Nat} {k:List Item} {st:St} (hk:noA k=true)
 (h1:Goes P Q c w0 (.aops ops l f::.stop (Q3z (fun _:Unit=>c) w0 (fun _=>{ st.lay ws ups [] [] with h:=(st.lay ws ups [] []).h++hh }))::k) st) (h2:Goes P Q c w0 k { st.lay ws ups [] [] with h:=(st.lay ws ups [] []).h++hh }):Goes P Q c w0 (.aops ops l f::k) st:=Qmw (fun _=>c) _ hk h1 (fun _=>h2)
theorem Q8g {p:Prop} (h:p:=by (first|((try with_reducible refine Q8c ?_ ?_ ?_ ?_);all_goals (cbv;(try simp only[true_and,and_true]);(try ((repeat' apply And.intro)<;>(first|trivial|rfl|exact RowLe.rfl' _|decide|(rw[Qda har _ o9];done)|((exact Q0a rfl (fun j hj=>absurd hj (Nat.not_lt_zero _))))|((rw[Qda har j o9];done))|((exact hst j _ (l1 j y9)))|((exact hst j _ (l2 j y9)))|((have haN:j=P:=o9;subst haN;exact RowLe.rfl' _))|fail))));done)|fail)):Pf p:=⟨h⟩
theorem Q6y (F:GFun) (w:World) (hF:F.At w) (hO:F.Ok):
 Calls Tryz.prog 89 #[F.val] w (RetR w (Qwa F) (.pt (.one (.rs 0))) [lnR F]):=by
 have h10 wc (hk:KB ⟨w,[]⟩ wc) {c:R9z}:=Calls.to (c':=c) (r:=[Qzu (Qia F (stN F.sn F.bn))]) ⟨fun _ _=>rfl,trivial⟩ rfl (Q0n F wc (hF.later hk) hO.small)
 have h20 wc (hk:KB ⟨w,[]⟩ wc) (n:Nat) (hn:n<stN F.sn F.bn):=Qlz F wc (hF.later hk) hO.small n hn
 have hN9:=hO.pts
 have hP9:lnC F<=600:=Nat.le_trans (Qxb F _) hN9
 have hj0:∀j,j<lnC F->lpN F j<stN F.sn F.bn/\Qge F (lpN F j)=true:=fun j h=>⟨(Qhm h).1,(Qhm h).2.1⟩
 obtain ⟨P,hP⟩:=x9 (lnC F)
 obtain ⟨lp,hlp⟩:=x9 (lpN F:N9z)
 obtain ⟨sa,hsa⟩:=x9 (fun j=>stAt F (lpN F j):Nat->GStmt)
 obtain ⟨lo,hlo⟩:=x9 (fun j=>lnL F (lpN F j):I9z)
 obtain ⟨wp,hwp⟩:=x9 (fun l d f=>wholeP ⟨l,d,f⟩:Int->Bool->Int->Bool)
 have h1 wc (hk:KB ⟨w,[]⟩ wc) {c:R9z}:Calls Tryz.prog 141 #[F.val] wc (RetR wc c (.pt (.one (.rs 0))) [⟨P,1,fun j=>[.int .i64 (.ofNat (lp j))]⟩]):=by
  have:=@h10 wc hk c
  rw[Qzu] at this
  rw[hP,hlp];exact this
 have h2 wc (hk:KB ⟨w,[]⟩ wc) (j:Nat) (hj:j<P):Calls Tryz.prog 142 #[F.val,.int .i64 (.ofNat (lp j))] wc (Ret wc (.tuple #[(sa j).val,.bool true])):=by
  have:=h20 wc hk (lpN F j) (hj0 j (hP▸hj)).1
  rw[(hj0 j (hP▸hj)).2] at this
  rw[hlp,hsa];exact this
 have h3 (l:Int) (d:Bool) (f:Int) (wc:World):Calls Tryz.prog 143 #[.agg #[.int .i64 l,.bool d,.int .u8 f]] wc (Ret wc (.bool (wp l d f))):=by rw[hwp];exact Q2y _ _ _ wc
 have l1:∀j,wp (sa j).p.l (sa j).p.d (sa j).p.f=true->lo j=(sa j).p.l:=fun j h=>by
  rw[hwp,hsa] at h
  rw[hlo,hsa]
  simp only[lnL]
  rw[if_pos h]
 have l2:∀j,wp (sa j).p.l (sa j).p.d (sa j).p.f=false->lo j= -1:=fun j h=>by
  rw[hwp,hsa] at h
  rw[hlo]
  simp only[lnL]
  rw[if_neg (by rw[show wholeP (stAt F (lpN F j)).p=false from h];decide)]
 have hR2:lnR F=⟨P,6,fun j=>[.int .i64 (.ofNat (lp j)),.int .i64 (sa j).r.p.l,.bool (sa j).r.p.d,.int .u8 (sa j).r.p.f,.int .u8 (sa j).r.bo,.int .i64 (lo j)]⟩:=by rw[lnR,hP,hlp,hsa,hlo]
 rw[hR2]
 rw[<-hP] at hP9
 clear h10 h20 hR2 hj0 hN9 hP hlp hsa hlo hwp hO
 cases F
 obtain ⟨hX,hl,hb,hs,hj⟩:=hF
 simp only at hl hb hs hj
 refine Qaa (args:=[.pt (.agg (GFun.dat _))]) (c:=(Qwa _)) Tryz.func89 rfl hX rfl rfl ?_
 obtain ⟨_,_,_,hnt,_,har,_,hcm,_,_,_,_,ar01,ar12,zpl,hzpl,zjn,hzjn,_,_,_,_,_,_,hT⟩:=Qca
 have hpl:Qic [⟨P,6,fun j=>[.int .i64 (.ofNat (lp j)),.int .i64 (sa j).r.p.l,.bool (sa j).r.p.d,.int .u8 (sa j).r.p.f,.int .u8 (sa j).r.bo,.int .i64 (lo j)]⟩]:=⟨fun _ _=>rfl,trivial⟩
 have hst:∀j (x:Int),lo j=x->RowLe ⟨zpl j 1,6,zjn j (fun j=>[.int .i64 (.ofNat (lp j)),.int .i64 (sa j).r.p.l,.bool (sa j).r.p.d,.int .u8 (sa j).r.p.f,.int .u8 (sa j).r.bo,.int .i64 (lo j)]) (fun i=>Qte [.int .i64 (.ofNat (lp j)),.int .i64 (sa j).r.p.l,.bool (sa j).r.p.d,.int .u8 (sa j).r.p.f,.int .u8 (sa j).r.bo,.int .i64 x] (0+i * 6) 6)⟩ ⟨j+1,6,fun j=>[.int .i64 (.ofNat (lp j)),.int .i64 (sa j).r.p.l,.bool (sa j).r.p.d,.int .u8 (sa j).r.p.f,.int .u8 (sa j).r.bo,.int .i64 (lo j)]⟩:=fun j x hx=>by
  refine Q7a hzpl hzjn rfl (fun j hj=>Qpa _) ?_
  rw[hx]
  exact Qpa _
 repeat' (first
  | (((with_reducible refine Q4d (id:=6) (by kernel_rfl) ?_);(refine Qtha (zs9 [7,1,17,9]) [(6,.pt (.one (.ptr 1 0)))] [some (sa j).sc] rfl ?_ ?_)))
  | (((with_reducible refine Q4d (id:=7) (by kernel_rfl) ?_);(refine Qtha (zs9 [26,14]) [(8,.pt (.one (.ptr 2 0)))] [some [.int .i64 (.ofNat (lp j)),.int .i64 (sa j).r.p.l,.bool (sa j).r.p.d,.int .u8 (sa j).r.p.f,.int .u8 (sa j).r.bo,.int .i64 (sa j).p.l]] rfl ?_ ?_)))
  | refine goa ?_|refine go3 (fun hlt=>?_) (fun hge=>?_)|refine go2 (fun h=>?_) (fun h=>?_)|exact go0|refine god ?_|refine gof ?_|refine Qvha ?_ ?_
  | ((first|with_reducible apply Qhb hT|with_reducible apply Qna hT);(·(cbv;try rfl));(·(cbv;try rfl));(·exact Q8g);(·exact Q8g);(·rfl))
  | ((first|with_reducible apply Qcn hT|with_reducible apply Qgn hT);(·(cbv;try rfl));(·(cbv;try rfl));(·exact Q8g);(·exact Q8g);(·rfl);(·first|assumption|exact ⟨fun _ _=>rfl,trivial⟩);(·rfl))
  | refine gob ?_
  | ((with_reducible refine Q4c ?_ ?_);(·first|((rw[hzpl];show j+1<=1073741824;omega))))
  | (((with_reducible refine Qzh () rfl ?_ ?_ ?_);(·exact pfp Q8g);(·(cbv;try rfl));(·simp)))
  | (((with_reducible apply Qoa (hf:=Tryz.call141));(·intro S;cbv;try rfl);(·intro wc S hbc hxc hrc;exact h1 wc hbc);(·rfl);(refine Qcm 4 rfl rfl ⟨fun _ _=>rfl,trivial⟩ (Qmc _) ?_);(refine Qnc 0 0 0 (fun a cap=>Q5j P 1 (fun j=>[.int .i64 (.ofNat (lp j))]) (a,cap)) (R:=⟨P,1,fun j=>[.int .i64 (.ofNat (lp j))]⟩) rfl (RowLe.rfl' _) rfl (fun v=>rfl) trivial (fun j hj=>rfl) (Qmc _) (fun p i j hj=>absurd hj (Nat.not_lt_zero _)) rfl (fun a cap p' i' h=>Qlt h) (fun a cap=>rfl) (fun aL cL hnL=>?_));(refine Qrs 10 4 0 rfl rfl ?_)))
  | (refine' Qiha Tryz.call142 ?_ ?_;rotate_left;(·intro wc hbc hxc;exact h2 wc hbc j y9))
  | (refine' Qiha Tryz.call143 ?_ ?_;rotate_left;(·intro wc hbc hxc;exact h3 _ _ _ wc))
  | ((with_reducible apply Qud 4 6);(·(cbv;try rfl)))
  | ((with_reducible refine Qgha (σ:={j:Nat // j<=P}) (zs9 [6,3,11,38]) (fun x=>[zc9 5 x.1]) (fun x=>[]) (fun x=>[(1,⟨x.1,6,fun j=>[.int .i64 (.ofNat (lp j)),.int .i64 (sa j).r.p.l,.bool (sa j).r.p.d,.int .u8 (sa j).r.p.f,.int .u8 (sa j).r.bo,.int .i64 (lo j)]⟩)]) (fun x=>P - x.1) ⟨0,Nat.zero_le _⟩ ?_ ?_);(·exact pfp Q8g);(rintro ⟨j,hj⟩ mm hmm))
  | (((with_reducible apply Qxa);(·exact Int.natCast_nonneg _);(·exact Int.ofNat_lt.2 y9)))
  | ((with_reducible refine Qfha (⟨j+1,Nat.succ_le_of_lt y9⟩:{j:Nat // j<=P}) ?_ ?_);(·exact msr o9 y9);(·exact pfp Q8g))
  | fail)
theorem Q9u (F:GFun) (w:World) (hF:F.At w) (hO:F.Ok) (at_ l:Int) (d:Bool) (f bo lo:Int) (n:Nat) (hn:n<stN F.sn F.bn):
 Calls Tryz.prog 147 #[F.val,.agg #[.int .i64 at_,.int .i64 l,.bool d,.int .u8 f,.int .u8 bo,.int .i64 lo],.int .i64 (.ofNat n)] w (Ret w (.bool (d&&decide (smN F n=l)))):=by
 have h10 wc (hk:KB ⟨w,[]⟩ wc):=Q1y F wc (hF.later hk) hO n hn
 obtain ⟨sm,hsm⟩:=x9 (smN F n:Int)
 rw[<-hsm] at h10⊢
 clear hsm hO
 cases F
 obtain ⟨hX,hl,hb,hs,hj⟩:=hF
 simp only at hl hb hs hj
 refine Qaa (args:=[.pt (.agg (GFun.dat _)),.pt (.agg [.int .i64 at_,.int .i64 l,.bool d,.int .u8 f,.int .u8 bo,.int .i64 lo]),.pt (.one (.int .i64 (.ofNat n)))]) (c:=(Qwa _)) Tryz.func147 rfl hX rfl rfl ?_
 obtain ⟨_,_,_,hnt,_,har,_,hcm,_,_,_,_,ar01,ar12,_,hzpl,_,_,_,_,_,_,_,_,hT⟩:=Qca
 cases d with
 | false=>
   repeat' (first
    | refine goa ?_|refine go3 (fun hlt=>?_) (fun hge=>?_)|refine go2 (fun h=>?_) (fun h=>?_)|exact go0|refine goz ?_|refine Qvha ?_ ?_
    | (refine' Qiha Tryz.call211 ?_ ?_;rotate_left;(·intro wc hbc hxc;exact h10 wc hbc))
    | fail)
   all_goals rfl
 | true=>
   repeat' (first
    | refine goa ?_|refine go3 (fun hlt=>?_) (fun hge=>?_)|refine go2 (fun h=>?_) (fun h=>?_)|exact go0|refine goz ?_|refine Qvha ?_ ?_
    | (refine' Qiha Tryz.call211 ?_ ?_;rotate_left;(·intro wc hbc hxc;exact h10 wc hbc))
    | fail)
   all_goals rfl
end Go.Proofs.YtemnfncbgalljaaGreat
