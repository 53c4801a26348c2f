/- Lemmas. No condition. -/
import Derived.Test.YtemnfncbgalljaaGreatM6
namespace Go.Proofs.YtemnfncbgalljaaGreat
open Go.RowKit
set_option linter.all false
set_option maxHeartbeats 64000000
def ptR (L:List (Nat×Nat)):ORow:=⟨L.length,2,fun j=>[.int .i64 (Int.ofNat (L.getD j (0,0)).1),.int .i64 (Int.ofNat (L.getD j (0,0)).2)]⟩
def Qxf (b n:Nat):List (Nat×Nat):=(List.range n).map fun i=>(b,i)
def Qgb (sn:N9z):Nat->List (Nat×Nat)
 | 0=>[]
 | b+1=>Qgb sn b++Qxf b (sn b+1)
theorem Qpq (b n:Nat):Qxf b (n+1)=Qxf b n++[(b,n)]:=by simp[Qxf,List.range_succ]
theorem Qkw {α:Type} (l:List α) (x d:α) (j:Nat) (h:j<l.length):(l++[x]).getD j d=l.getD j d:=by
 simp[List.getD,List.getElem?_append_left h]
theorem Qms {α:Type} (l:List α) (x d:α):(l++[x]).getD l.length d=x:=by
 simp[List.getD]
theorem Qjd {p:Prop} (h:p:=by (first|((try with_reducible refine Q8c ?_ ?_ ?_ ?_);all_goals (cbv;(try simp only[true_and,and_true]);(try ((repeat' apply And.intro)<;>(first|trivial|rfl|exact RowLe.rfl' _|decide|(rw[Qda har _ o9])|((have hsb:=hsn b o9;rw[Qda har _ o9]))|((refine Q0a (by rw[x0,hln];rfl) (fun j hj=>absurd hj (Nat.not_lt_zero _))))|((rw[y0];exact RowLe.rfl' _))|((have hi':i=sn b+1:=o9;subst hi';rw[x1];exact RowLe.rfl' _))|((have hbb:b=bn:=o9;subst hbb;exact RowLe.rfl' _))|((refine Q7a hzpl hzjn (by rw[y1,hln];simp) (fun j hj=>⟨⟨rfl,?_⟩,⟨rfl,?_⟩,trivial⟩) ⟨⟨rfl,?_⟩,⟨rfl,?_⟩,trivial⟩<;>(first|(rw[y1,hp1];rw[hln] at hj;simp only[Qkw _ _ _ _ hj];done)|(rw[y1,hp2];rw[hln] at hj;simp only[Qkw _ _ _ _ hj];done)|(rw[y1,hp1,hln];simp only[Qms];done)|(rw[y1,hp2,hln];simp only[Qms];done))))|fail))));done)|fail)):Pf p:=⟨h⟩
theorem Q9aa (F:GFun) (w:World) (hF:F.At w) (hsn:∀b,b<F.bn->F.sn b<=30) (hbn:F.bn<=30):
 Calls Tryz.prog 101 #[F.val] w (RetR w (Qwa F) (.pt (.one (.rs 0))) [ptR (Qgb F.sn F.bn)]):=by
 obtain ⟨X,hX0⟩:=x9 (Qgb F.sn:Nat->List (Nat×Nat))
 obtain ⟨Y,hY0⟩:=x9 (fun b i=>X b++Qxf b i:Nat->Nat->List (Nat×Nat))
 obtain ⟨ln_,hln⟩:=x9 (List.length:List (Nat×Nat)->Nat)
 obtain ⟨p1,hp1⟩:=x9 (fun L j=>Int.ofNat (L.getD j (0,0)).1:List (Nat×Nat)->Nat->Int)
 obtain ⟨p2,hp2⟩:=x9 (fun L j=>Int.ofNat (L.getD j (0,0)).2:List (Nat×Nat)->Nat->Int)
 have hR:ptR (Qgb F.sn F.bn)=⟨ln_ (X F.bn),2,fun j=>[.int .i64 (p1 (X F.bn) j),.int .i64 (p2 (X F.bn) j)]⟩:=by rw[ptR,hln,hp1,hp2,hX0]
 rw[hR]
 have y0:∀b,Y b 0=X b:=fun b=>by rw[hY0];simp[Qxf]
 have y1:∀b i,Y b (i+1)=Y b i++[(b,i)]:=fun b i=>by rw[hY0];simp[Qpq]
 have x1:∀b,X (b+1)=Y b (F.sn b+1):=fun b=>by rw[hY0,hX0];rfl
 have x0:X 0=[]:=by rw[hX0];rfl
 have xl:∀b,b<=F.bn->ln_ (X b)<=b * 31:=fun b=>by
  induction b with
  | zero=>intro _;rw[x0,hln];simp
  | succ b ih=>
    intro hb'
    have h1:=ih o9
    have h2:=hsn b o9
    rw[x1,hY0,hln]
    simp only[List.length_append,Qxf,List.length_map,List.length_range]
    rw[hln] at h1
    omega
 have yl:∀b i,b<F.bn->i<=F.sn b+1->ln_ (Y b i)<=961:=fun b i hb' hi=>by
  have h1:=xl b o9
  have h2:=hsn b hb'
  rw[hln] at h1⊢
  rw[hY0]
  simp only[List.length_append,Qxf,List.length_map,List.length_range]
  omega
 clear hR hX0 hY0
 obtain ⟨_,_,_,_,_,_,_,_,bn,_,_,sn,_,_,_,_,_,_,_,_,_,_,_,_⟩:=F
 obtain ⟨hX,hl,hb,hs,hj⟩:=hF
 simp only at hl hb hs hj
 simp only at hsn hbn x1 xl yl
 refine Qaa (args:=[.pt (.agg (GFun.dat _))]) (c:=(Qwa _)) Tryz.func101 rfl hX rfl rfl ?_
 obtain ⟨_,_,_,hnt,ar,har,_,hcm,_,_,_,_,ar01,ar12,_,hzpl,_,hzjn,_,_,_,_,_,_,hT⟩:=Qca
 repeat' (first
  | refine go1 ?_|refine go3 (fun hlt=>?_) (fun hge=>?_)|refine gof ?_
  | exact gor (ha:=Qjd) (hb:=Qjd)
  | refine gob ?_
  | ((with_reducible refine Q4c ?_ ?_);(·first|((rw[hzpl];exact Nat.le_trans (Nat.add_le_add_right (yl b i o9 o9) 1) (by decide)))))
  | ((with_reducible apply Qud 3 2);(·(cbv;try rfl)))
  | ((with_reducible refine Qgha (σ:={b:Nat // b<=bn}) (zs9 [4,2,10,21]) (fun x=>[zc9 9 x.1]) (fun x=>[]) (fun x=>[(0,⟨ln_ (X x.1),2,fun j=>[.int .i64 (p1 (X x.1) j),.int .i64 (p2 (X x.1) j)]⟩)]) (fun x=>bn - x.1) ⟨0,by omega⟩ ?_ ?_);(·exact pfp Qjd);(rintro ⟨b,hb1⟩ mm hmm))
  | ((with_reducible refine Qgha (σ:={i:Nat // i<=sn b+1}) (zs9 [5,1,21,9]) (fun x=>[(19,.pt (.one (.int .i64 (.ofNat (sn b+1))))),zc9 20 x.1]) (fun x=>[]) (fun x=>[(0,⟨ln_ (Y b x.1),2,fun j=>[.int .i64 (p1 (Y b x.1) j),.int .i64 (p2 (Y b x.1) j)]⟩)]) (fun x=>sn b+1 - x.1) ⟨0,by omega⟩ ?_ ?_);(·exact pfp Qjd);(rintro ⟨i,hi⟩ mm hmm))
  | ((with_reducible refine Qfha ⟨i+1,by omega⟩ ?_ ?_);(·exact Nat.lt_of_lt_of_eq (show sn b+1 - (i+1)<sn b+1 - i from by omega) (Eq.symm y9));(·exact pfp Qjd))
  | ((with_reducible refine Qfha ⟨b+1,by omega⟩ ?_ ?_);(·exact msr o9 y9);(·exact pfp Qjd))
  | fail)
def stN (sn:N9z):Nat->Nat
 | 0=>0
 | b+1=>stN sn b+sn b+1
def Qzu (L:List Nat):ORow:=⟨L.length,1,fun j=>[.int .i64 (Int.ofNat (L.getD j 0))]⟩
theorem Qtm {sn:N9z} {n:Nat} (hs:∀b,b<n->sn b<=30):∀b,b<=n->stN sn b<=b * 31
 | 0,_=>Nat.le_refl _
 | b+1,h=>by have:=Qtm hs b o9;have:=hs b o9;simp only[stN];omega
theorem Qgo (sn:N9z) {a b:Nat} (h:a<b):stN sn a<stN sn b:=by
 induction b with
 | zero=>omega
 | succ b ih=>
   simp only[stN]
   rcases Nat.lt_or_eq_of_le (Nat.le_of_lt_succ h) with h|rfl
   · have:=ih h;omega
   · omega
theorem Qoq {ar:A9z} (har:ar=rAr) {i n:Nat} (h:i+n<=9223372036854775807):ar .add .i64 (.ofNat i) (.ofNat n)=.ofNat (i+n):=by
 rw[har]
 show IntKind.i64.wrap ((i:Int)+(n:Int))=((i+n:Nat):Int)
 rw[Go.IntWalk.i64_in _ o9]
 omega
theorem Qo6 {ar:A9z} (har:ar=rAr) {i n:Nat} (h:n<=i) (h2:i<=9223372036854775807):ar .sub .i64 (.ofNat i) (.ofNat n)=.ofNat (i - n):=by
 rw[har]
 show IntKind.i64.wrap ((i:Int) - (n:Int))=((i - n:Nat):Int)
 rw[Go.IntWalk.i64_in _ o9]
 omega
theorem Qch {p:Prop} (h:p:=by (first|((try with_reducible refine Q8c ?_ ?_ ?_ ?_);all_goals (cbv;(try simp only[true_and,and_true]);(try ((repeat' apply And.intro)<;>(first|trivial|rfl|exact RowLe.rfl' _|decide|(rw[Qda har _ o9])|((refine Q0a (by rw[hsu]) (fun j hj=>?_);have hj0:j=0:=(by have hj':j<1:=hj;omega);subst hj0;rw[s0];exact ⟨⟨rfl,rfl⟩,trivial⟩))|((have hbb:b=bn:=o9;subst hbb;exact RowLe.rfl' _))|((refine Q7a hzpl hzjn (by rw[hsu]) (fun j hj=>Qpa _) ⟨⟨rfl,?_⟩,trivial⟩;(have q1:=sl b o9;have q2:=hsn b o9;show ar .add .i64 (ar .add .i64 (.ofNat (st b)) (.ofNat (sn b))) 1=.ofNat (st (su b));rw[Qoq har o9,Qda har _ o9,hsu];simp only[s1])))|fail))));done)|fail)):Pf p:=⟨h⟩
theorem Qwr (F:GFun) (w:World) (hF:F.At w) (hsn:∀b,b<F.bn->F.sn b<=30) (hbn:F.bn<=30):
 Calls Tryz.prog 31 #[F.val] w (RetR w (Qwa F) (.pt (.one (.rs 0))) [⟨F.bn+1,1,fun j=>[.int .i64 (.ofNat (stN F.sn j))]⟩]):=by
 obtain ⟨st,hst⟩:=x9 (stN F.sn:N9z)
 have s0:st 0=0:=by rw[hst];rfl
 have s1:∀b,st (b+1)=st b+F.sn b+1:=fun b=>by rw[hst];rfl
 have sl:∀b,b<=F.bn->st b<=b * 31:=by rw[hst];exact Qtm hsn
 rw[<-hst]
 clear hst
 obtain ⟨_,_,_,_,_,_,_,_,bn,_,_,sn,_,_,_,_,_,_,_,_,_,_,_,_⟩:=F
 obtain ⟨hX,hl,hb,hs,hj⟩:=hF
 simp only at hl hb hs hj
 simp only at hsn hbn s1 sl⊢
 obtain ⟨su,hsu⟩:=x9 (fun n=>n+1:N9z)
 have hR:bn+1=su bn:=by rw[hsu]
 rw[hR]
 clear hR
 refine Qaa (args:=[.pt (.agg (GFun.dat _))]) (c:=(Qwa _)) Tryz.func31 rfl hX rfl rfl ?_
 obtain ⟨_,_,_,hnt,ar,har,_,hcm,_,_,_,_,ar01,ar12,_,hzpl,_,hzjn,_,_,_,_,_,_,hT⟩:=Qca
 repeat' (first
  | refine go1 ?_|refine go3 (fun hlt=>?_) (fun hge=>?_)|exact go0|refine god ?_|refine gof ?_|refine Qvha ?_ ?_
  | exact gor (ha:=Qch) (hb:=Qch)
  | refine gob ?_
  | ((with_reducible refine Q4c ?_ ?_);(·first|((rw[hzpl,hsu];exact (show b+1+1<=1073741824 from by omega)))))
  | ((with_reducible apply Qud 3 1);(·(cbv;try rfl)))
  | ((with_reducible refine Qgha (σ:={b:Nat // b<=bn}) (zs9 [6,23]) (fun x=>[zc9 4 x.1]) (fun x=>[]) (fun x=>[(0,⟨su x.1,1,fun j=>[.int .i64 (.ofNat (st j))]⟩)]) (fun x=>bn - x.1) ⟨0,by omega⟩ ?_ ?_);(·exact pfp Qch);(rintro ⟨b,hb1⟩ mm hmm))
  | ((with_reducible refine Qfha ⟨b+1,by omega⟩ ?_ ?_);(·exact msr o9 y9);(·exact pfp Qch))
  | (((with_reducible refine Qxa ?_ ?_ ?_);(·exact Int.natCast_nonneg _);(·show (b:Int)<((su b:Nat):Int);simp only[hsu];omega)))
  | fail)
section
set_option maxRecDepth 100000
structure GFun.Sm (F:GFun):Prop where
 s:∀b,b<F.bn->F.sn b<=30
 b:F.bn<=30
 l:F.ln<=30
 j:∀b,b<F.bn->F.jn b<=12
def GStmt.zero:GStmt:=⟨0,.zero,.zero,.zero,0⟩
theorem Qez (F:GFun) (w:World) (hF:F.At w) (hS:F.Sm):
 Calls Tryz.prog 56 #[F.val] w (Ret w (.int .i64 (.ofNat (stN F.sn F.bn)))):=by
 have hC wc (hk:KB ⟨w,[]⟩ wc):=Qwr F wc (hF.later hk) hS.s hS.b
 obtain ⟨st,hst⟩:=x9 (stN F.sn:N9z)
 obtain ⟨su,hsu⟩:=x9 (fun n=>n+1:N9z)
 have hR:F.bn+1=su F.bn:=by rw[hsu]
 rw[<-hst]
 simp only[<-hst,hR] at hC
 clear hst hS hR
 obtain ⟨_,_,_,_,_,_,_,_,bn,_,_,sn,_,_,_,_,_,_,_,_,_,_,_,_⟩:=F
 obtain ⟨hX,hl,hb,hs,hj⟩:=hF
 simp only at hl hb hs hj
 simp only at hC
 refine Qaa (args:=[.pt (.agg (GFun.dat _))]) (c:=(Qwa _)) Tryz.func56 rfl hX rfl rfl ?_
 obtain ⟨_,_,_,hnt,ar,har,_,hcm,_,_,_,_,ar01,ar12,_,hzpl,_,hzjn,_,_,_,_,_,_,hT⟩:=Qca
 repeat' (first
  | refine go1 ?_|exact go0|refine Qz9 ?_|refine gof ?_|refine Qvha ?_ ?_
  | ((with_reducible apply Qoa (hf:=Tryz.call31));(·intro S;cbv;try rfl);(·intro wc S hbc hxc hrc;exact hC wc hbc);(·rfl))
  | (((with_reducible refine Qxa ?_ ?_ ?_);(·exact Int.natCast_nonneg _);(·show (bn:Int)<((su bn:Nat):Int);simp only[hsu];omega)))
  | fail)
 all_goals rfl
theorem Qry (F:GFun) (w:World) (hF:F.At w) (hS:F.Sm) (b i:Nat) (hbb:b<F.bn) (hii:i<=F.sn b):
 Calls Tryz.prog 207 #[F.val,.int .i64 (.ofNat (stN F.sn b+i))] w (Ret w (.agg #[.int .i64 (.ofNat b),.int .i64 (.ofNat i)])):=by
 have hC wc (hk:KB ⟨w,[]⟩ wc):=Qwr F wc (hF.later hk) hS.s hS.b
 obtain ⟨st,hst⟩:=x9 (stN F.sn:N9z)
 obtain ⟨su,hsu⟩:=x9 (fun n=>n+1:N9z)
 have hR:F.bn+1=su F.bn:=by rw[hsu]
 have sl:∀b,b<=F.bn->st b<=930:=fun b hb=>by
  have:=Qtm hS.s b hb
  have:=hS.b
  rw[hst];omega
 have smo:∀a b,a<b->st a<st b:=by rw[hst];exact fun a b=>Qgo F.sn
 have s1:st (b+1)=st b+F.sn b+1:=by rw[hst];rfl
 obtain ⟨n,hn⟩:=x9 (st b+i)
 rw[<-hst,<-hn]
 simp only[<-hst,hR] at hC
 have hsb:=hS.s b hbb
 have hn1:st b<=n:=by omega
 have hn2:n<st (b+1):=by omega
 have hni:i=n - st b:=by omega
 have hn3:n<=961:=by have:=sl b o9;omega
 have up:∀a,st (su a)<=n->su a<=b:=fun a ha=>by
  rcases Nat.lt_or_ge b (su a) with h|h
  · rcases Nat.lt_or_ge (b+1) (su a) with h'|h'
    · have:=smo _ _ h';omega
    · have:su a=b+1:=by omega
      rw[this] at ha;omega
  · exact h
 have dn:∀a,a<=b->n<st (su a)->a=b:=fun a ha h=>by
  rcases Nat.lt_or_ge a b with h'|h'
  · have h2:su a<=b:=by rw[hsu];exact h'
    rcases Nat.lt_or_eq_of_le h2 with h3|h3
    · have:=smo _ _ h3;omega
    · rw[h3] at h;omega
  · omega
 clear hst hS hR hn s1 hsb hii
 rw[hni]
 clear hni
 obtain ⟨_,_,_,_,_,_,_,_,bn,_,_,sn,_,_,_,_,_,_,_,_,_,_,_,_⟩:=F
 obtain ⟨hX,hl,hb,hs,hj⟩:=hF
 simp only at hl hb hs hj
 simp only at hC sl hbb
 refine Qaa (args:=[.pt (.agg (GFun.dat _)),.pt (.one (.int .i64 (.ofNat n)))]) (c:=(Qwa _)) Tryz.func207 rfl hX rfl rfl ?_
 obtain ⟨_,_,_,hnt,ar,har,cm,hcm,_,_,_,_,ar01,ar12,_,hzpl,_,hzjn,_,_,_,_,_,_,hT⟩:=Qca
 have hadd:∀a,a<=b->ar .add .i64 (.ofNat a) 1=.ofNat (su a):=fun a ha=>by rw[Qda har _ o9,hsu]
 have hle:∀x y:Nat,cm .leq (.ofNat x) (.ofNat y)=true->x<=y:=fun x y h=>by rw[hcm] at h;exact Int.ofNat_le.1 (of_decide_eq_true h)
 have hlt:∀x y:Nat,cm .leq (.ofNat x) (.ofNat y)=false->y<x:=fun x y h=>by rw[hcm] at h;exact Nat.lt_of_not_le fun h'=>of_decide_eq_false h (Int.ofNat_le.2 h')
 repeat' (first
  | refine go1 ?_|refine go2 (fun h=>?_) (fun h=>?_)
  | ((with_reducible apply Qoa (hf:=Tryz.call31));(·intro S;cbv;try rfl);(·intro wc S hbc hxc hrc;exact hC wc hbc);(·rfl))
  | ((rw[hadd a ha]))
  | (((with_reducible refine Qxa ?_ ?_ ?_);(·exact Int.natCast_nonneg _);(·show (_:Int)<((su bn:Nat):Int);simp only[hsu,Int.ofNat_eq_natCast];omega)))
  | ((with_reducible refine Qgha (σ:={a:Nat // a<=b}) (zs9 [9,9]) (fun x=>[zc9 6 x.1]) (fun x=>[]) (fun x=>[]) (fun x=>b - x.1) ⟨0,by omega⟩ ?_ ?_);(·exact pfp Qdb);(rintro ⟨a,ha⟩ mm hmm))
  | ((with_reducible refine Qfha ⟨su a,up a (hle _ _ h)⟩ ?_ ?_);(·subst hmm;have hq:=up a (hle _ _ h);show b - su a<b - a;simp only[hsu] at hq⊢;omega);(·exact pfp Qdb))
  | fail)
 all_goals
  have hab:=dn a ha (hlt _ _ h)
  subst hab
  rw[Qo6 har hn1 o9]
theorem Q0aa (F:GFun) (w:World) (hF:F.At w) (hS:F.Sm) (b i:Nat) (hbb:b<F.bn) (hii:i<F.sn b):
 Calls Tryz.prog 142 #[F.val,.int .i64 (.ofNat (stN F.sn b+i))] w (Ret w (.tuple #[(F.s b i).val,.bool true])):=by
 have hC wc (hk:KB ⟨w,[]⟩ wc):=Qry F wc (hF.later hk) hS b i hbb (Nat.le_of_lt hii)
 obtain ⟨n,hn⟩:=x9 (stN F.sn b+i)
 rw[<-hn]
 rw[<-hn] at hC
 clear hn hS
 obtain ⟨_,_,_,_,_,_,_,_,bn,_,_,sn,_,_,_,_,_,_,_,_,_,_,_,_⟩:=F
 obtain ⟨hX,hl,hb,hs,hj⟩:=hF
 simp only at hl hb hs hj
 simp only at hC hbb hii
 refine Qaa (args:=[.pt (.agg (GFun.dat _)),.pt (.one (.int .i64 (.ofNat n)))]) (c:=(Qwa _)) Tryz.func142 rfl hX rfl rfl ?_
 obtain ⟨_,_,_,hnt,ar,har,_,hcm,_,_,_,_,ar01,ar12,_,hzpl,_,hzjn,_,_,_,_,_,_,hT⟩:=Qca
 repeat' (first
  | refine go1 ?_|refine go3 (fun hlt=>?_) (fun hge=>?_)|exact go0|refine god ?_|refine gof ?_|refine Qvha ?_ ?_
  | (refine' Qiha Tryz.call207 ?_ ?_;rotate_left;(·intro wc hbc hxc;exact hC wc hbc))
  | fail)
 all_goals (first|rfl|(exfalso;omega))
theorem Qkz (F:GFun) (w:World) (hF:F.At w) (hS:F.Sm) (b:Nat) (hbb:b<F.bn):
 Calls Tryz.prog 142 #[F.val,.int .i64 (.ofNat (stN F.sn b+F.sn b))] w (Ret w (.tuple #[GStmt.zero.val,.bool false])):=by
 have hC wc (hk:KB ⟨w,[]⟩ wc):=Qry F wc (hF.later hk) hS b (F.sn b) hbb (Nat.le_refl _)
 obtain ⟨n,hn⟩:=x9 (stN F.sn b+F.sn b)
 rw[<-hn]
 rw[<-hn] at hC
 clear hn hS
 obtain ⟨_,_,_,_,_,_,_,_,bn,_,_,sn,_,_,_,_,_,_,_,_,_,_,_,_⟩:=F
 obtain ⟨hX,hl,hb,hs,hj⟩:=hF
 simp only at hl hb hs hj
 simp only at hC hbb
 refine Qaa (args:=[.pt (.agg (GFun.dat _)),.pt (.one (.int .i64 (.ofNat n)))]) (c:=(Qwa _)) Tryz.func142 rfl hX rfl rfl ?_
 obtain ⟨_,_,_,hnt,ar,har,_,hcm,_,_,_,_,ar01,ar12,_,hzpl,_,hzjn,_,_,_,_,_,_,hT⟩:=Qca
 repeat' (first
  | refine go1 ?_|refine go3 (fun hlt=>?_) (fun hge=>?_)|exact go0|refine god ?_|refine gof ?_|refine Qvha ?_ ?_
  | (refine' Qiha Tryz.call207 ?_ ?_;rotate_left;(·intro wc hbc hxc;exact hC wc hbc))
  | fail)
 all_goals (first|rfl|(exfalso;omega))
end
end Go.Proofs.YtemnfncbgalljaaGreat
