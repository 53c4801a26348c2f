/- Lemmas. No condition. -/
import Derived.Test.YtemnfncbgalljabM6
namespace Go.Proofs.Ytemnfncbgalljab
open Go.RowKit
set_option linter.all false
set_option maxRecDepth 100000
set_option maxHeartbeats 64000000
def ptR (L:List (Nat×Nat)):ORow:=⟨L.length,2,fun j=>[.int .i64 (Int.ofNat (L.getD j (0,0)).1),.int .i64 (Int.ofNat (L.getD j (0,0)).2)]⟩
def Qxf (b n:Nat):List (Nat×Nat):=(List.range n).map fun i=>(b,i)
def Qgb (sn:N9z):Nat->List (Nat×Nat)
 | 0=>[]
 | b+1=>Qgb sn b++Qxf b (sn b+1)
theorem Qpq (b n:Nat):Qxf b (n+1)=Qxf b n++[(b,n)]:=by simp[Qxf,List.range_succ]
theorem Qkw {α:Type} (l:List α) (x d:α) (j:Nat) (h:j<l.length):(l++[x]).getD j d=l.getD j d:=by
 simp[List.getD,List.getElem?_append_left h]
theorem Qms {α:Type} (l:List α) (x d:α):(l++[x]).getD l.length d=x:=by
 simp[List.getD]
theorem Qjd {p:Prop} (h:p:=by (first|((try with_reducible refine Q8c ?_ ?_ ?_ ?_);all_goals (cbv;(try simp only[true_and,and_true]);(try ((repeat' apply And.intro)<;>(first|trivial|rfl|exact RowLe.rfl' _|decide|(rw[Qda har _ o9])|((have hsb:=hsn b o9;rw[Qda har _ o9]))|((refine Q0a (by rw[x0,hln];rfl) (fun j hj=>absurd hj (Nat.not_lt_zero _))))|((rw[y0];exact RowLe.rfl' _))|((have hi':i=sn b+1:=o9;subst hi';rw[x1];exact RowLe.rfl' _))|((have hbb:b=bn:=o9;subst hbb;exact RowLe.rfl' _))|((refine Q7a hzpl hzjn (by rw[y1,hln];simp) (fun j hj=>⟨⟨rfl,?_⟩,⟨rfl,?_⟩,trivial⟩) ⟨⟨rfl,?_⟩,⟨rfl,?_⟩,trivial⟩<;>(first|(rw[y1,hp1];rw[hln] at hj;simp only[Qkw _ _ _ _ hj];done)|(rw[y1,hp2];rw[hln] at hj;simp only[Qkw _ _ _ _ hj];done)|(rw[y1,hp1,hln];simp only[Qms];done)|(rw[y1,hp2,hln];simp only[Qms];done))))|fail))));done)|fail)):Pf p:=⟨h⟩
theorem Q9aa (F:GFun) (w:World) (hF:F.At w) (hsn:∀b,b<F.bn->F.sn b<=30) (hbn:F.bn<=30):
 Calls Try.prog 33 #[F.val] w (RetR w (Qwa F) (.pt (.one (.rs 0))) [ptR (Qgb F.sn F.bn)]):=by
 obtain ⟨X,hX0⟩:=x9 (Qgb F.sn:Nat->List (Nat×Nat))
 obtain ⟨Y,hY0⟩:=x9 (fun b i=>X b++Qxf b i:Nat->Nat->List (Nat×Nat))
 obtain ⟨ln_,hln⟩:=x9 (List.length:List (Nat×Nat)->Nat)
 obtain ⟨p1,hp1⟩:=x9 (fun L j=>Int.ofNat (L.getD j (0,0)).1:List (Nat×Nat)->Nat->Int)
 obtain ⟨p2,hp2⟩:=x9 (fun L j=>Int.ofNat (L.getD j (0,0)).2:List (Nat×Nat)->Nat->Int)
 have hR:ptR (Qgb F.sn F.bn)=⟨ln_ (X F.bn),2,fun j=>[.int .i64 (p1 (X F.bn) j),.int .i64 (p2 (X F.bn) j)]⟩:=by rw[ptR,hln,hp1,hp2,hX0]
 rw[hR]
 have y0:∀b,Y b 0=X b:=fun b=>by rw[hY0];simp[Qxf]
 have y1:∀b i,Y b (i+1)=Y b i++[(b,i)]:=fun b i=>by rw[hY0];simp[Qpq]
 have x1:∀b,X (b+1)=Y b (F.sn b+1):=fun b=>by rw[hY0,hX0];rfl
 have x0:X 0=[]:=by rw[hX0];rfl
 have xl:∀b,b<=F.bn->ln_ (X b)<=b * 31:=fun b=>by
  induction b with
  | zero=>intro _;rw[x0,hln];simp
  | succ b ih=>
    intro hb'
    have h1:=ih o9
    have h2:=hsn b o9
    rw[x1,hY0,hln]
    simp only[List.length_append,Qxf,List.length_map,List.length_range]
    rw[hln] at h1
    omega
 have yl:∀b i,b<F.bn->i<=F.sn b+1->ln_ (Y b i)<=961:=fun b i hb' hi=>by
  have h1:=xl b o9
  have h2:=hsn b hb'
  rw[hln] at h1⊢
  rw[hY0]
  simp only[List.length_append,Qxf,List.length_map,List.length_range]
  omega
 clear hR hX0 hY0
 obtain ⟨_,_,_,_,_,_,_,_,bn,_,_,sn,_,_,_,_,_,_,_,_,_,_,_,_⟩:=F
 obtain ⟨hX,hl,hb,hs,hj⟩:=hF
 simp only at hl hb hs hj
 simp only at hsn hbn x1 xl yl
 refine Qaa (args:=[.pt (.agg (GFun.dat _))]) (c:=(Qwa _)) Try.func33 rfl hX rfl rfl ?_
 obtain ⟨_,_,_,hnt,ar,har,_,hcm,_,_,_,_,ar01,ar12,_,hzpl,_,hzjn,_,_,_,_,_,_,hT⟩:=Qca
 repeat' (first
  | refine go1 ?_|refine go3 (fun hlt=>?_) (fun hge=>?_)|refine gof ?_
  | exact gor (ha:=Qjd) (hb:=Qjd)
  | refine gob ?_
  | ((with_reducible refine Q4c ?_ ?_);(·first|((rw[hzpl];exact Nat.le_trans (Nat.add_le_add_right (yl b i o9 o9) 1) (by decide)))))
  | ((with_reducible apply Qud 3 2);(·(cbv;try rfl)))
  | ((with_reducible refine Qgha (σ:={b:Nat // b<=bn}) (zs9 [4,2,10,21]) (fun x=>[zc9 9 x.1]) (fun x=>[]) (fun x=>[(0,⟨ln_ (X x.1),2,fun j=>[.int .i64 (p1 (X x.1) j),.int .i64 (p2 (X x.1) j)]⟩)]) (fun x=>bn - x.1) ⟨0,by omega⟩ ?_ ?_);(·exact pfp Qjd);(rintro ⟨b,hb1⟩ mm hmm))
  | ((with_reducible refine Qgha (σ:={i:Nat // i<=sn b+1}) (zs9 [5,1,21,9]) (fun x=>[(19,.pt (.one (.int .i64 (.ofNat (sn b+1))))),zc9 20 x.1]) (fun x=>[]) (fun x=>[(0,⟨ln_ (Y b x.1),2,fun j=>[.int .i64 (p1 (Y b x.1) j),.int .i64 (p2 (Y b x.1) j)]⟩)]) (fun x=>sn b+1 - x.1) ⟨0,by omega⟩ ?_ ?_);(·exact pfp Qjd);(rintro ⟨i,hi⟩ mm hmm))
  | ((with_reducible refine Qfha ⟨i+1,by omega⟩ ?_ ?_);(·exact Nat.lt_of_lt_of_eq (show sn b+1 - (i+1)<sn b+1 - i from by omega) (Eq.symm y9));(·exact pfp Qjd))
  | ((with_reducible refine Qfha ⟨b+1,by omega⟩ ?_ ?_);(·exact msr o9 y9);(·exact pfp Qjd))
  | fail)
def stN (sn:N9z):Nat->Nat
 | 0=>0
 | b+1=>stN sn b+sn b+1
theorem Qgo (sn:N9z) {a b:Nat} (h:a<b):stN sn a<stN sn b:=by
 induction b with
 | zero=>omega
 | succ b ih=>
   simp only[stN]
   rcases Nat.lt_or_eq_of_le (Nat.le_of_lt_succ h) with h|rfl
   · have:=ih h;omega
   · omega
theorem Qoq {ar:A9z} (har:ar=rAr) {i n:Nat} (h:i+n<=9223372036854775807):ar .add .i64 (.ofNat i) (.ofNat n)=.ofNat (i+n):=by
 rw[har]
 show IntKind.i64.wrap ((i:Int)+(n:Int))=((i+n:Nat):Int)
 rw[Go.IntWalk.i64_in _ o9]
 omega
structure GFun.Sm (F:GFun):Prop where
 s:∀b,b<F.bn->F.sn b<=30
 b:F.bn<=30
 l:F.ln<=30
 j:∀b,b<F.bn->F.jn b<=12
def GStmt.zero:GStmt:=⟨0,.zero,.zero,.zero,0⟩
end Go.Proofs.Ytemnfncbgalljab
