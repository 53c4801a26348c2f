/- Lemmas. No condition. -/
import Derived.Test.YtemnfncbgalljaaGreatW3
import Derived.Test.YtemnfncbgalljaaGreatC3
namespace Go.Proofs.YtemnfncbgalljaaGreat
open Go.RowKit
set_option linter.all false
set_option maxHeartbeats 64000000
section
set_option maxRecDepth 100000
theorem Qr3 {p:Prop} (h:p:=by (first|((try with_reducible refine Q8c ?_ ?_ ?_ ?_);all_goals (cbv;(try simp only[true_and,and_true]);(try ((repeat' apply And.intro)<;>(first|trivial|rfl|exact RowLe.rfl' _|decide|(rw[Qda har _ o9];done)|((exact Q0a rfl (fun j hj=>⟨by rw[hz y9 j];rfl,trivial⟩)))|fail))));done)|fail)):Pf p:=⟨h⟩
theorem Qp8 (F:GFun) (w:World) (hF:F.At w) (hO:F.Ok) (L:Nat) (hL:L<F.ln):
 Calls Tryz.prog 208 #[F.val,.int .i64 (.ofNat L)] w (RetR w (Qwa F) (.pt (.one (.rs 0))) [⟨stN F.sn F.bn,1,fun j=>[.bool (Qqt F L j)]⟩]):=by
 have h1 wc (hk:KB ⟨w,[]⟩ wc):=Q0y F (.ofNat L) wc (hF.later hk) (Int.natCast_nonneg L) (Int.ofNat_lt.2 hL)
 have h20 wc (hk:KB ⟨w,[]⟩ wc):=Qzy F wc (hF.later hk) hO L hL
 have h3 wc (hk:KB ⟨w,[]⟩ wc):=Qez F wc (hF.later hk) hO.small
 have hN9:=hO.pts
 obtain ⟨N,hN⟩:=x9 (stN F.sn F.bn)
 obtain ⟨ow,how⟩:=x9 (Qqt F L:B9z)
 obtain ⟨rk,hrk⟩:=x9 (isRef (F.lk L):Bool)
 have h1 wc (hk:KB ⟨w,[]⟩ wc):Calls Tryz.prog 254 #[F.val,.int .i64 (.ofNat L)] wc (Ret wc (.bool rk)):=by rw[hrk];exact h1 wc hk
 have h2 wc (hk:KB ⟨w,[]⟩ wc) (hr:rk=true):Calls Tryz.prog 255 #[F.val,.int .i64 (.ofNat L)] wc (RetR wc (Qwa F) (.pt (.one (.rs 0))) [⟨N,1,fun j=>[.bool (ow j)]⟩]):=by
  have e:ow=(Qdf F).liB L:=by
   rw[how];funext j
   unfold Qqt
   rw[show Qzd (F.lk L)=true from by rw[hrk] at hr;exact hr,Bool.true_and]
  rw[hN,e];exact h20 wc hk
 have hz:rk=false->∀j,ow j=false:=fun hr j=>by
  rw[how];unfold Qqt
  rw[show Qzd (F.lk L)=false from by rw[hrk] at hr;exact hr];rfl
 rw[<-hN] at h3 hN9⊢
 rw[<-how]
 clear h20 how hrk hN hO hL
 cases F
 obtain ⟨hX,hl,hb,hs,hj⟩:=hF
 simp only at hl hb hs hj
 refine Qaa (args:=[.pt (.agg (GFun.dat _)),.pt (.one (.int .i64 (.ofNat L)))]) (c:=(Qwa _)) Tryz.func208 rfl hX rfl rfl ?_
 obtain ⟨_,_,_,hnt,_,har,_,hcm,_,_,_,_,ar01,ar12,_,hzpl,_,_,_,_,_,_,_,_,hT⟩:=Qca
 repeat' (first
  | refine go1 ?_|refine go2 (fun h=>?_) (fun h=>?_)
  | exact gor (ha:=Qr3) (hb:=Qr3)
  | refine gob ?_
  | ((with_reducible refine Q4c ?_ ?_);(·first|((exact ⟨Int.natCast_nonneg N,(show (N:Int)<=1073741824 by omega)⟩))))
  | (refine' Qiha Tryz.call254 ?_ ?_;rotate_left;(·intro wc hbc hxc;exact h1 wc hbc))
  | (refine' Qiha Tryz.call56 ?_ ?_;rotate_left;(·intro wc hbc hxc;exact h3 wc hbc))
  | ((with_reducible apply Qoa (hf:=Tryz.call255));(·intro S;cbv;try rfl);(·intro wc S hbc hxc hrc;exact h2 wc hbc y9);(·rfl))
  | fail)

theorem Q7y (F:GFun) (w:World) (hF:F.At w) (hK:F.Ty8) (hO:F.Ok):
 Calls Tryz.prog 144 #[F.val] w (RetX w (fun _:AdF=>.tup [.one (.rs 0),.one (.int .i64 0)]) (fun A=>[⟨F.ln,1,fun j=>[.val (.slice (A j).1 (stN F.sn F.bn) (A j).2)]⟩]) (fun A=>rrG A (nnN F.ln (stN F.sn F.bn)) (Qqt F))):=by
 have h1 wc (hk:KB ⟨w,[]⟩ wc):=Q2p F wc (hF.later hk) hK
 rw[Qdj,show fchkV F=0 from hO] at h1
 have h20 wc (hk:KB ⟨w,[]⟩ wc) (L:Nat) (hL:L<F.ln):=Qp8 F wc (hF.later hk) hO L hL
 have hl16:=hO.ln16
 have hN0:=Qdl hO
 obtain ⟨N,hN⟩:=x9 (stN F.sn F.bn)
 obtain ⟨ow,how⟩:=x9 (Qqt F:B9y)
 obtain ⟨tg,th,tu,htg,t0,tp,tz,h3,h4,hup,hu1,hu2,huN,tN⟩:=Qyi N ow
 have h2 wc (hk:KB ⟨w,[]⟩ wc) {c:R9z} (L:Nat) (hL:L<F.ln):Calls Tryz.prog 208 #[F.val,.int .i64 (.ofNat L)] wc (RetR wc c (.pt (.one (.rs 0))) [⟨N,1,fun j=>[.bool (ow L j)]⟩]):=by
  rw[hN,how];exact Calls.to (c':=c) ⟨fun _ _=>rfl,trivial⟩ rfl (h20 wc hk L hL)
 have hG:(fun A:AdF=>rrG A (nnN F.ln N) ow)=fun A=>tg F.ln A:=by rw[htg]
 rw[<-hN,<-how,hG]
 rw[<-hN] at hN0
 clear hG htg h20 hN how hO hK
 obtain ⟨pa,un,lA,ln,lc,lk,lt,bA,bn,bc,sA,sn,sc,s,jA,jn,jc,ja,jk,jo,jf,jx,je,jd⟩:=F
 obtain ⟨hX,hl,hb,hs,hj⟩:=hF
 simp only at hl hb hs hj
 simp only at h1 h2 hl16
 refine Qaa (args:=[.pt (.agg (GFun.dat _))]) (c:=(Qwa _)) Tryz.func144 rfl hX rfl rfl ?_
 obtain ⟨_,_,_,hnt,_,har,_,hcm,_,_,_,_,ar01,ar12,zpl,hzpl,zjn,hzjn,_,_,_,_,_,_,hT⟩:=Qca
 have hc4:∀q i j,q<4->j<(Qwa ⟨pa,un,lA,ln,lc,lk,lt,bA,bn,bc,sA,sn,sc,s,jA,jn,jc,ja,jk,jo,jf,jx,je,jd⟩ q i).n->qbL 4 ((Qwa ⟨pa,un,lA,ln,lc,lk,lt,bA,bn,bc,sA,sn,sc,s,jA,jn,jc,ja,jk,jo,jf,jx,je,jd⟩ q i).el j)=true:=fun q i j hq hj=>by
  match q,hq with
  | 0,_=>rfl
  | 1,_=>rfl
  | 2,_=>rfl
  | 3,_=>rfl
 refine Q0i 4 t0 rfl rfl trivial (Qmc _) ?_
 have hz0:(0:Nat)<=ln/\∀j:Nat,Q3d w ((fun _=>((none:Option Addr),0):AdF) j).1:=⟨Nat.zero_le _,fun j b p h=>(by cases h)⟩
 have hsn:∀i (A:AdF) (a:Option Addr) (cap:Nat),RowLe ⟨zpl i 1,1,zjn i (fun j=>[.val (.slice (A j).1 N (A j).2)]) (fun j=>Qte [.val (.slice a N cap)] (0+j * 1) 1)⟩ ⟨i+1,1,fun j=>[.val (.slice (tu A i (a,cap) j).1 N (tu A i (a,cap) j).2)]⟩:=fun i A a cap=>by
  refine Q7a hzpl hzjn rfl (fun j hj=>?_) ?_
  · rw[hu1 A i _ j hj];exact Qpa _
  · rw[hu2];exact Qpa _
 repeat' (first
  | refine goa ?_|refine go3 (fun hlt=>?_) (fun hge=>?_)
  | refine gob ?_
  | ((with_reducible refine Q4c ?_ ?_);(·first|((rw[hzpl];show i+1<=1073741824;omega))))
  | (refine' Qiha Tryz.call35 ?_ ?_;rotate_left;(·intro wc hbc hxc;exact h1 wc hbc))
  | ((with_reducible apply Qoa (hf:=Tryz.call208));(·intro S;cbv;try rfl);(·intro wc S hbc hxc hrc;exact h2 wc hbc i y9);(·rfl))
  | ((with_reducible apply Qud 5 1);(·(cbv;try rfl)))
  | (((with_reducible refine Qne (σ:={x:Nat×AdF // x.1<=ln/\∀j,Q3d w (x.2 j).1}) (fun x=>Q3a (Qwa ⟨pa,un,lA,ln,lc,lk,lt,bA,bn,bc,sA,sn,sc,s,jA,jn,jc,ja,jk,jo,jf,jx,je,jd⟩) 4 (tg x.1.1 x.1.2)) [12,13,14,15,16,17,18,19,20,21,22,23,24] (fun x=>[(6,.pt (.one (.int .i64 (.ofNat x.1.1))))]) (fun x=>[]) (fun x=>[(0,⟨x.1.1,1,fun j=>[.val (.slice (x.1.2 j).1 N (x.1.2 j).2)]⟩)]) (fun x=>ln - x.1.1) ⟨(0,fun _=>(none,0)),hz0⟩ rfl rfl ?_ ?_ ?_ ?_);(·(refine Q8c ?_ ?_ ?_ ?_<;>(cbv;(try simp only[true_and,and_true]);(try ((repeat' apply And.intro)<;>(first|trivial|rfl|exact RowLe.rfl' _|exact Q0a rfl (fun j hj=>absurd hj (Nat.not_lt_zero _))))))))  ;(·(cbv;try rfl));(·simp);(rintro ⟨⟨i,A⟩,hi,hA⟩ mm hmm)))
  | ((refine Qjg (Qnc 1 0 i (fun a cap=>th i A (a,cap)) (R:=⟨N,1,fun k=>[.bool (ow i k)]⟩) rfl (RowLe.rfl' _) rfl (fun v=>rfl) ⟨fun _ _=>rfl,trivial⟩ (fun j hj=>rfl) hc4 (fun p j k h=>tp i A p j k h) (tz i A) (fun a cap p' i' h=>h3 i A a cap p' i' h) (fun a cap=>h4 i A a cap) (fun a1 c1 hn1=>?_))))
  | (((with_reducible refine Qqe (⟨(i+1,tu A i (a1,c1)),Nat.succ_le_of_lt y9,huN hA hn1⟩:{x:Nat×AdF // x.1<=ln/\∀j,Q3d w (x.2 j).1}) (by rw[hup]) ?_ ?_ ?_ ?_);(·exact Nat.lt_of_lt_of_eq (show ln - (i+1)<ln - i by omega) (Eq.symm y9));(·(refine Q8c ?_ ?_ ?_ ?_<;>(cbv;(try simp only[true_and,and_true]);(try ((repeat' apply And.intro)<;>(first|trivial|rfl|exact RowLe.rfl' _|(rw[Qda har _ o9])|(exact hsn _ _ _ _)))))));(·(cbv;try rfl));(·simp)))
  | (((have hi_:i<=ln:=hi);(have e_:i=ln:=o9);(subst e_);(with_reducible apply Q7q hT A);(·(cbv;try rfl));(·(cbv;try rfl));(·(cbv;(try simp only[true_and,and_true]);(try ((repeat' apply And.intro)<;>(first|trivial|rfl|decide)))));(·(cbv;(try simp only[true_and,and_true]);(try ((repeat' apply And.intro)<;>(first|trivial|rfl|exact RowLe.rfl' _)))));(·rfl);(·exact fun p j k h=>tp i A p j k h);(·exact fun p j=>tN hA p j);(·exact ⟨fun _ _=>rfl,trivial⟩);(·rfl)))
  | fail)
theorem Qid {p:Prop} (h:p:=by (first|((try with_reducible refine Q8c ?_ ?_ ?_ ?_);all_goals (cbv;(try simp only[true_and,and_true]);(try ((repeat' apply And.intro)<;>(first|trivial|rfl|exact RowLe.rfl' _|decide|(rw[Qda har _ o9];done)|((rw[hin k (hk3 k y9)];done))|((refine Q0a (by rw[x0,hln];rfl) (fun j hj=>absurd hj (Nat.not_lt_zero _))))|((exact hj1 n k y9))|((rw[x2 n k y9];exact RowLe.rfl' _))|((rw[<-x3 n,<-hk4 k hk y9];exact RowLe.rfl' _))|((have haN:n=N:=o9;subst haN;exact RowLe.rfl' _))|fail))));done)|fail)):Pf p:=⟨h⟩
theorem Qk0 (F:GFun) (w:World) (hF:F.At w) (hO:F.Ok):
 Calls Tryz.prog 146 #[F.val] w (RetR w (Qwa F) (.pt (.one (.rs 0))) [Q4z (Qlc F)]):=by
 have h1 wc (hk:KB ⟨w,[]⟩ wc):=Qez F wc (hF.later hk) hO.small
 have h20 wc (hk:KB ⟨w,[]⟩ wc) (n:Nat) (hn:n<stN F.sn F.bn) (k:Nat) (hk3:k<3):=Qk9 F n wc (hF.later hk) hO hn k hk3
 have hN9:=hO.pts
 rw[Qth]
 obtain ⟨N,hN⟩:=x9 (stN F.sn F.bn)
 obtain ⟨X,hXX⟩:=x9 (fun n k=>Qtd F n++whL F n k:Nat->Nat->List KCon)
 obtain ⟨wb,hwb⟩:=x9 (fun n k=>(whV F n k).2:B9y)
 obtain ⟨kk,hkk⟩:=x9 (fun n k=>(whV F n k).1:Nat->Nat->KCon)
 obtain ⟨ln_,hln⟩:=x9 (List.length:List KCon->Nat)
 obtain ⟨gt_,hgt⟩:=x9 (fun L j=>L.getD j .zero:List KCon->Nat->KCon)
 have h2 wc (hk:KB ⟨w,[]⟩ wc) (n:Nat) (hn:n<N) (k:Nat) (hk3:k<3):Calls Tryz.prog 210 #[F.val,.int .i64 (.ofNat n),.int .u8 (.ofNat (k+1))] wc (Ret wc (.tuple #[.agg #[.int .i64 (kk n k).fr,.int .i64 (kk n k).to,.int .i64 (kk n k).at_,.int .u8 (kk n k).why],.bool (wb n k)])):=by
  rw[hkk,hwb];exact h20 wc hk n (hN▸hn) k hk3
 have x0:X 0 0=[]:=by rw[hXX];rfl
 have x1:∀n k,wb n k=true->X n (k+1)=X n k++[kk n k]:=fun n k h=>by
  have h:(whV F n k).2=true:=by rw[hwb] at h;exact h
  rw[hXX,hkk];simp only[whL];rw[if_pos h,List.append_assoc]
 have x2:∀n k,wb n k=false->X n (k+1)=X n k:=fun n k h=>by
  have h:(whV F n k).2=false:=by rw[hwb] at h;exact h
  rw[hXX];simp only[whL];rw[if_neg (by rw[h];decide),List.append_nil]
 have x3:∀n,X n 3=X (n+1) 0:=fun n=>by
  rw[hXX];simp only[Qw6,Qtd];rw[whL,List.append_nil]
 have xN:Qtd F (stN F.sn F.bn)=X N 0:=by rw[hXX,hN];simp only[whL,List.append_nil]
 have xl:∀n k,ln_ (X n k)<=2 * n+k:=fun n k=>by
  rw[hln,hXX];simp only[List.length_append]
  have h1:=Q2o F n
  have h2:(whL F n k).length<=k:=by
   induction k with
   | zero=>simp[whL]
   | succ k ih=>simp only[whL,List.length_append];split<;>simp<;>omega
  omega
 have hRc:∀L,Q4z L=⟨ln_ L,4,fun j=>(gt_ L j).sc⟩:=fun L=>by rw[Q4z,hln,hgt]
 have hgx:∀n k j,j<ln_ (X n k)->∀b,gt_ (X n k++b) j=gt_ (X n k) j:=fun n k j hj b=>by
  rw[hgt];rw[hln] at hj
  simp[List.getD,List.getElem?_append_left hj]
 have hgy:∀n k b,gt_ (X n k++[b]) (ln_ (X n k))=b:=fun n k b=>by
  rw[hgt,hln]
  simp[List.getD]
 rw[xN,hRc]
 rw[<-hN] at h1 hN9
 clear h20 hN hXX hwb hkk hRc xN hO
 cases F
 obtain ⟨hX,hl,hb,hs,hj⟩:=hF
 simp only at hl hb hs hj
 refine Qaa (args:=[.pt (.agg (GFun.dat _))]) (c:=(Qwa _)) Tryz.func146 rfl hX rfl rfl ?_
 obtain ⟨_,_,_,hnt,ar,har,cm,hcm,_,_,_,_,ar01,ar12,zpl,hzpl,zjn,hzjn,_,_,_,_,_,_,hT⟩:=Qca
 have hj1:∀n k,wb n k=true->RowLe ⟨zpl (ln_ (X n k)) 1,4,zjn (ln_ (X n k)) (fun j=>(gt_ (X n k) j).sc) (fun j=>Qte [.int .i64 (kk n k).fr,.int .i64 (kk n k).to,.int .i64 (kk n k).at_,.int .u8 (kk n k).why] (0+j * 4) 4)⟩ ⟨ln_ (X n (k+1)),4,fun j=>(gt_ (X n (k+1)) j).sc⟩:=fun n k g=>by
  rw[x1 n k g]
  refine Q7a hzpl hzjn (by rw[hln];simp) (fun j hj=>?_) ?_
  · show Qbc (gt_ (X n k) j).sc (gt_ (X n k++[kk n k]) j).sc
    rw[hgx n k j hj];exact Qpa _
  · show Qbc _ (gt_ (X n k++[kk n k]) (ln_ (X n k))).sc
    rw[hgy];exact Qpa _
 have hk3:∀k:Nat,cm .leq (.ofNat (k+1)) 3=true->k<3:=fun k h=>by
  rw[hcm] at h
  have:=of_decide_eq_true (show decide (((k+1:Nat):Int)<=3)=true from h)
  omega
 have hk4:∀k:Nat,k<=3->cm .leq (.ofNat (k+1)) 3=false->k=3:=fun k hk h=>by
  rw[hcm] at h
  have:=of_decide_eq_false (show decide (((k+1:Nat):Int)<=3)=false from h)
  omega
 have hin:∀k:Nat,k<3->ar .add .u8 (.ofNat (k+1)) 1=.ofNat (k+1+1):=fun k hk=>by
  rw[har]
  match k,hk with
  | 0,_=>decide
  | 1,_=>decide
  | 2,_=>decide
 repeat' (first
  | refine go1 ?_|refine go3 (fun hlt=>?_) (fun hge=>?_)|refine go2 (fun h=>?_) (fun h=>?_)
  | exact gor (ha:=Qid) (hb:=Qid)
  | refine gob ?_
  | ((with_reducible refine Q4c ?_ ?_);(·first|((rw[hzpl];exact Nat.le_trans (Nat.add_le_add_right (xl n k) 1) (show 2 * n+k+1<=1073741824 from by omega)))))
  | (refine' Qiha Tryz.call56 ?_ ?_;rotate_left;(·intro wc hbc hxc;exact h1 wc hbc))
  | (refine' Qiha Tryz.call210 ?_ ?_;rotate_left;(·intro wc hbc hxc;exact h2 wc hbc n y9 k (hk3 k y9)))
  | ((with_reducible apply Qud 3 4);(·(cbv;try rfl)))
  | ((with_reducible refine Qgha (σ:={n:Nat // n<=N}) (zs9 [5,25]) (fun x=>[zc9 4 x.1]) (fun x=>[]) (fun x=>[(0,⟨ln_ (X x.1 0),4,fun j=>(gt_ (X x.1 0) j).sc⟩)]) (fun x=>N - x.1) ⟨0,Nat.zero_le _⟩ ?_ ?_);(·exact pfp Qid);(rintro ⟨n,hn⟩ mm hmm))
  | ((with_reducible refine Qgha (σ:={k:Nat // k<=3}) (zs9 [6,2,14,16]) (fun x=>[(5,.pt (.one (.int .u8 (.ofNat (x.1+1)))))]) (fun x=>[]) (fun x=>[(0,⟨ln_ (X n x.1),4,fun j=>(gt_ (X n x.1) j).sc⟩)]) (fun x=>3 - x.1) ⟨0,Nat.zero_le _⟩ ?_ ?_);(·exact pfp Qid);(rintro ⟨k,hk⟩ mm hmm))
  | ((with_reducible refine Qfha (⟨k+1,Nat.succ_le_of_lt (hk3 k y9)⟩:{k:Nat // k<=3}) ?_ ?_);(·subst hmm;(show 3 - (k+1)<3 - k;(have:=hk3 k y9;omega)));(·exact pfp Qid))
  | ((with_reducible refine Qfha (⟨n+1,Nat.succ_le_of_lt y9⟩:{n:Nat // n<=N}) ?_ ?_);(·exact msr o9 y9);(·exact pfp Qid))
  | fail)
end
theorem Q5y (F:GFun) (w:World) (hF:F.At w) (hK:F.Ty8) (hO:F.Ok):
 Calls Tryz.prog 90 #[F.val] w (RetX w (fun _:AdF=>.pt (.one (.rs 0))) (fun A=>[⟨Q4g F,1,fun j=>[.val (.slice (A j).1 (stN F.sn F.bn) (A j).2)]⟩]) (fun A=>rrG A (nnN (Q4g F) (stN F.sn F.bn)) (Qfl F))):=by
 have h10 wc (hk:KB ⟨w,[]⟩ wc):=Q7y F wc (hF.later hk) hK hO
 have h50 wc (hk:KB ⟨w,[]⟩ wc) {c:R9z}:=Calls.to (c':=c) (Qfs _) rfl (Qk0 F wc (hF.later hk) hO)
 have h60 wc (hk:KB ⟨w,[]⟩ wc) {c:R9z}:=Calls.to (c':=c) (r:=[Qzu (Qia F (stN F.sn F.bn))]) ⟨fun _ _=>rfl,trivial⟩ rfl (Q0n F wc (hF.later hk) hO.small)
 have h80 wc (hk:KB ⟨w,[]⟩ wc):=Qez F wc (hF.later hk) hO.small
 have h70:=fun (wc:World) (c:R9z) (v v':Value) (B:AdF) hx hB=>Qe6 (Q4g F) (Qlc F).length (stN F.sn F.bn) (owB F) (Qe4 F) (Qg4 F) (fun j=>((Qlc F).getD j .zero).at_) (fun j=>((Qlc F).getD j .zero).why) wc c v v' B hx hB (Qbo hO).2 hO.cons hO.pts (Qaw hO)
 have hN9:=hO.pts
 have hN0:=Qdl hO
 have hl16:=hO.ln16
 have hP9:=(Qbo hO).1
 have hRN:Q4g F=F.ln+(Qia F (stN F.sn F.bn)).length:=rfl
 obtain ⟨rN,hrN⟩:=x9 (Q4g F)
 obtain ⟨P,hP⟩:=x9 ((Qia F (stN F.sn F.bn)).length)
 obtain ⟨N,hN⟩:=x9 (stN F.sn F.bn)
 obtain ⟨M,hM⟩:=x9 ((Qlc F).length)
 obtain ⟨fr,hfr⟩:=x9 (Qe4 F:I9z)
 obtain ⟨tn,htn⟩:=x9 (Qg4 F:I9z)
 obtain ⟨an,han⟩:=x9 (fun j=>((Qlc F).getD j .zero).at_:I9z)
 obtain ⟨wy,hwy⟩:=x9 (fun j=>((Qlc F).getD j .zero).why:I9z)
 obtain ⟨ox,hox⟩:=x9 (owB F:B9y)
 obtain ⟨rf,hrf⟩:=x9 (Qfl F:B9y)
 obtain ⟨nr,hnr⟩:=x9 (nnN (Q4g F) (stN F.sn F.bn):N9z)
 obtain ⟨tg,th,tu,htg,t0,tp,tz,k3,k4,hup,hu1,hu2,huN,tN⟩:=Qyi N ox
 obtain ⟨sK,hsK⟩:=x9 (fun k=>F.ln+k:N9z)
 have hs0K:sK 0=F.ln:=by rw[hsK]<;>rfl
 have hs1K:∀k,sK (k+1)=sK k+1:=fun k=>by rw[hsK]<;>rfl
 have hsE:∀k,sK k=F.ln+k:=fun k=>by rw[hsK]
 have hz:∀i j,ox (F.ln+i) j=false:=fun i j=>by rw[hox];unfold owB;rw[decide_eq_false o9];rfl
 have h1 wc (hk:KB ⟨w,[]⟩ wc):Calls Tryz.prog 144 #[F.val] wc (RetX wc (fun _:AdF=>.tup [.one (.rs 0),.one (.int .i64 0)]) (fun A=>[⟨F.ln,1,fun j=>[.val (.slice (A j).1 N (A j).2)]⟩]) (fun A=>tg F.ln A)):=by
  have e:(fun A:AdF=>tg F.ln A)=fun A=>rrG A (nnN F.ln (stN F.sn F.bn)) (owB F):=by funext A;rw[htg,hN,hox]
  rw[e,hN]
  refine (h10 wc hk).mono fun en w' h=>h.fam fun A p i j hj=>?_
  unfold rrG at hj⊢
  by_cases hp:p=0
  · rw[if_pos hp] at hj⊢
    rw[if_pos hp]
    simp only at hj
    by_cases hi:i<F.ln
    · have e:∀j,Qqt F i j=owB F i j:=fun j=>by unfold Qqt owB;rw[decide_eq_true hi,Bool.true_and]
      simp only[e]
    · rw[nnN,if_neg hi] at hj;exact absurd hj (Nat.not_lt_zero _)
  · rw[if_neg hp,if_neg hp]
 have h5 wc (hk:KB ⟨w,[]⟩ wc) {c:R9z}:Calls Tryz.prog 146 #[F.val] wc (RetR wc c (.pt (.one (.rs 0))) [⟨M,4,fun j=>[.int .i64 (fr j),.int .i64 (tn j),.int .i64 (an j),.int .u8 (wy j)]⟩]):=by
  rw[hM,hfr,htn,han,hwy];exact h50 wc hk
 obtain ⟨lp,hlp⟩:=x9 (fun j=>(Qia F (stN F.sn F.bn)).getD j 0:N9z)
 have h6 wc (hk:KB ⟨w,[]⟩ wc) {c:R9z}:Calls Tryz.prog 141 #[F.val] wc (RetR wc c (.pt (.one (.rs 0))) [⟨P,1,fun j=>[.int .i64 (.ofNat (lp j))]⟩]):=by
  have:=@h60 wc hk c
  rw[Qzu] at this
  rw[hP,hlp];exact this
 have h7 (wc:World) (k:Nat) (hk:k=P) (v v':Value) (B:AdF) (hx:XOk ⟨[],Q3a (Qwa F) 4 (tg (sK k) B),[]⟩ ⟨wc,[]⟩) (hR:RowIs (Q3a (Qwa F) 4 (tg (sK k) B)) wc ⟨sK k,1,fun j=>[.val (.slice (B j).1 N (B j).2)]⟩ v) (hR':RowIs (Q3a (Qwa F) 4 (tg (sK k) B)) wc ⟨M,4,fun j=>[.int .i64 (fr j),.int .i64 (tn j),.int .i64 (an j),.int .u8 (wy j)]⟩ v'):
  Calls Tryz.prog 145 #[v,v'] wc (RetX wc (fun _:AdF=>.pt (.one (.rs 0))) (fun A=>[⟨rN,1,fun j=>[.val (.slice (A j).1 N (A j).2)]⟩]) (fun A=>rrG A nr rf)):=by
  have e:sK k=rN:=by rw[hsE,hrN,hRN,hk,hP]
  rw[e] at hx hR hR'
  rw[hnr,hrf,hrN]
  unfold Qfl
  rw[hrN] at hx hR hR'
  rw[hM,hfr,htn,han,hwy] at hR'
  rw[hN] at hR⊢
  refine h70 wc _ v v' B hx (fun j hj=>⟨4,j,?_⟩) hR hR'
  rw[htg,hN,hox,Q2a (Nat.le_refl _)]
  show rrG B (nnN (Q4g F) (stN F.sn F.bn)) (owB F) 0 j=_
  unfold rrG
  rw[if_pos rfl,Qde hj]
 have hrP:rN=F.ln+P:=by rw[hrN,hRN,hP]
 rw[<-hrN,<-hN,<-hrf]
 rw[<-hrN,<-hN] at hnr
 rw[<-hnr]
 rw[<-hN] at hN9 hN0 h80
 rw[<-hP] at hP9
 have h8:=h80
 clear h10 h50 h60 h70 h80 hlp hrN hP hN hM hfr htn han hwy hox hrf hnr htg hsK hRN hO hK
 obtain ⟨pa,un,lA,ln,lc,lk,lt,bA,bn,bc,sA,sn,sc,s,jA,jn,jc,ja,jk,jo,jf,jx,je,jd⟩:=F
 obtain ⟨hX,hl,hb,hs,hj⟩:=hF
 simp only at hl hb hs hj
 try simp only at h1 h5 h6 h7 hl16 hz hrP h8 hsE hs0K
 refine Qaa (args:=[.pt (.agg (GFun.dat _))]) (c:=(Qwa _)) Tryz.func90 rfl hX rfl rfl ?_
 obtain ⟨_,_,_,hnt,_,har,_,hcm,_,_,_,_,ar01,ar12,zpl,hzpl,zjn,hzjn,_,_,_,_,_,_,hT⟩:=Qca
 have hc4:∀q i j,q<4->j<(Qwa ⟨pa,un,lA,ln,lc,lk,lt,bA,bn,bc,sA,sn,sc,s,jA,jn,jc,ja,jk,jo,jf,jx,je,jd⟩ q i).n->qbL 4 ((Qwa ⟨pa,un,lA,ln,lc,lk,lt,bA,bn,bc,sA,sn,sc,s,jA,jn,jc,ja,jk,jo,jf,jx,je,jd⟩ q i).el j)=true:=fun q i j hq hj=>by
  match q,hq with
  | 0,_=>rfl
  | 1,_=>rfl
  | 2,_=>rfl
  | 3,_=>rfl
 have hc5:∀n (A:AdF) q i j,q<5->j<(Q3a (Qwa ⟨pa,un,lA,ln,lc,lk,lt,bA,bn,bc,sA,sn,sc,s,jA,jn,jc,ja,jk,jo,jf,jx,je,jd⟩) 4 (tg n A) q i).n->qbL 5 ((Q3a (Qwa ⟨pa,un,lA,ln,lc,lk,lt,bA,bn,bc,sA,sn,sc,s,jA,jn,jc,ja,jk,jo,jf,jx,je,jd⟩) 4 (tg n A) q i).el j)=true:=fun n A q i j hq hj=>by
  by_cases g:q<4
  · rw[Q4a g]
    match q,g with
    | 0,_=>rfl
    | 1,_=>rfl
    | 2,_=>rfl
    | 3,_=>rfl
  · rw[Q2a o9] at hj⊢
    exact Q9c (tp n A _ _ _ hj)
 have hsn:∀i (A:AdF) (a:Option Addr) (cap:Nat),RowLe ⟨zpl (sK i) 1,1,zjn (sK i) (fun j=>[.val (.slice (A j).1 N (A j).2)]) (fun j=>Qte [.val (.slice a N cap)] (0+j * 1) 1)⟩ ⟨sK (i+1),1,fun j=>[.val (.slice (tu A (sK i) (a,cap) j).1 N (tu A (sK i) (a,cap) j).2)]⟩:=fun i A a cap=>by
  refine Q7a hzpl hzjn (hs1K i) (fun j hj=>?_) ?_
  · rw[hu1 A _ _ j hj];exact Qpa _
  · rw[hu2];exact Qpa _
 have hfz:∀i,RowLe ⟨N,1,fun _=>[.lit false]⟩ ⟨N,1,fun k=>[.bool (ox (sK i) k)]⟩:=fun i=>Q0a rfl (fun j hj=>⟨by rw[hsE i,hz i j];rfl,trivial⟩)
 have hmk:(N:Int)<=1073741824:=by omega
 repeat' (first
  | refine go1 ?_|refine go3 (fun hlt=>?_) (fun hge=>?_)
  | refine gob ?_
  | ((with_reducible refine Q4c ?_ ?_);(·first|((exact ⟨Int.natCast_nonneg N,hmk⟩))|((rw[hzpl];show sK k+1<=1073741824;rw[hsE k];omega))))
  | (((with_reducible apply Qhc 4 (hf:=Tryz.call144));(·intro S;cbv;try rfl);(·intro wc S hbc hxc hrc;exact h1 wc hbc);(·intro A;rfl);(·intro A;rfl);(·rfl);(·rfl);(·trivial);(·exact hc4);(·intro A;exact ⟨fun j hj=>rfl,trivial⟩);(·intro A p i j hj;exact tp ln A p i j hj);(intro A1 hnew1)))
  | ((with_reducible apply Qoa (hf:=Tryz.call146));(·intro S;cbv;try rfl);(·intro wc S hbc hxc hrc;exact h5 wc hbc);(·rfl))
  | ((with_reducible apply Qoa (hf:=Tryz.call141));(·intro S;cbv;try rfl);(·intro wc S hbc hxc hrc;exact h6 wc hbc);(·rfl))
  | (refine' Qiha Tryz.call56 ?_ ?_;rotate_left;(·intro wc hbc hxc;exact h8 wc hbc))
  | (((with_reducible refine Qne (σ:={x:Nat×AdF // x.1<=P}) (fun x=>Q3a (Qwa ⟨pa,un,lA,ln,lc,lk,lt,bA,bn,bc,sA,sn,sc,s,jA,jn,jc,ja,jk,jo,jf,jx,je,jd⟩) 4 (tg (sK x.1.1) x.1.2)) [6,8,9,11,12,13,14,15,16,17,18,19,20,21,22,23] (fun x=>[(5,.pt (.one (.int .i64 (.ofNat x.1.1))))]) (fun x=>[]) (fun x=>[(0,⟨sK x.1.1,1,fun j=>[.val (.slice (x.1.2 j).1 N (x.1.2 j).2)]⟩)]) (fun x=>P - x.1.1) ⟨(0,A1),Nat.zero_le _⟩ (by rw[hs0K]) rfl ?_ ?_ ?_ ?_);(·(refine Q8c ?_ ?_ ?_ ?_<;>(cbv;(try simp only[true_and,and_true]);(try ((repeat' apply And.intro)<;>(first|trivial|rfl|exact RowLe.rfl' _|(rw[hs0K];exact RowLe.rfl' _)))))));(·(cbv;try rfl));(·simp);(rintro ⟨⟨k,A⟩,hk0⟩ mm hmm);(have hk:k<=P:=hk0)))
  | ((refine Qjg (Qnc 2 0 (sK k) (fun a cap=>th (sK k) A (a,cap)) (R:=⟨N,1,fun x=>[.bool (ox (sK k) x)]⟩) rfl (hfz k) rfl (fun v=>rfl) ⟨fun _ _=>rfl,fun _ _=>rfl,trivial⟩ (fun j hj=>rfl) hc4 (fun p j x h=>tp (sK k) A p j x h) (tz (sK k) A) (fun a cap p' i' h=>k3 (sK k) A a cap p' i' h) (fun a cap=>k4 (sK k) A a cap) (fun a1 c1 hn1=>?_))))
  | (((with_reducible refine Qqe (⟨(k+1,tu A (sK k) (a1,c1)),Nat.succ_le_of_lt y9⟩:{x:Nat×AdF // x.1<=P}) (by (show _=Q3a _ 4 (tg (sK (k+1)) (tu A (sK k) (a1,c1))));rw[hup,hs1K]) ?_ ?_ ?_ ?_);(·exact Nat.lt_of_lt_of_eq (show P - (k+1)<P - k by omega) (Eq.symm y9));(·(refine Q8c ?_ ?_ ?_ ?_<;>(cbv;(try simp only[true_and,and_true]);(try ((repeat' apply And.intro)<;>(first|trivial|rfl|exact RowLe.rfl' _|(rw[Qda har _ o9])|(exact hsn _ _ _ _)))))));(·(cbv;try rfl));(·simp)))
  | (((with_reducible apply Qhc 5 (hf:=Tryz.call145));(·intro S;cbv;try rfl);(·intro wc S hbc hxc hrc;exact h7 wc k o9 _ _ A hxc (hrc 0 _ rfl) (hrc 2 _ rfl));(·intro A;rfl);(·intro A;rfl);(·rfl);(·rfl);(·exact ⟨fun _ _=>rfl,fun _ _=>rfl,fun _ _=>rfl,trivial⟩);(·exact hc5 _ _);(·intro A;exact ⟨fun j hj=>rfl,trivial⟩);(·intro A p i j hj;exact Qwc p i j hj);(intro A2 hnew2)))
  | (((with_reducible apply Qcc hT A2);(·(cbv;try rfl));(·(cbv;try rfl));(·(cbv;(try simp only[true_and,and_true]);(try ((repeat' apply And.intro)<;>(first|trivial|rfl|decide)))));(·(cbv;(try simp only[true_and,and_true]);(try ((repeat' apply And.intro)<;>(first|trivial|rfl|exact RowLe.rfl' _)))));(·rfl);(·exact fun p j x h=>Qwc p j x h);(·exact fun p j h=>hnew2 p j h);(·exact ⟨fun _ _=>rfl,trivial⟩);(·rfl)))
  | fail)
end Go.Proofs.YtemnfncbgalljaaGreat
