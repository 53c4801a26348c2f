/- Texts joined: SwA SwB SwC. No condition. -/
import Derived.Test.YtamcjkgedgocfaaGreatM7
namespace Go.Proofs.YtamcjkgedgocfaaGreat
open Go.RowKit
set_option linter.all false
set_option maxHeartbeats 64000000
section
def ptR (L:List (Nat×Nat)):ORow:=⟨L.length,2,fun j=>[.int .i64 (Int.ofNat (L.getD j (0,0)).1),.int .i64 (Int.ofNat (L.getD j (0,0)).2)]⟩
def Qxf (b n:Nat):List (Nat×Nat):=(List.range n).map fun i=>(b,i)
def Qgb (sn:Nat→Nat):Nat→List (Nat×Nat)
 | 0=>[]
 | b+1=>Qgb sn b++Qxf b (sn b+1)
theorem Qpq (b n:Nat):Qxf b (n+1)=Qxf b n++[(b,n)]:=by simp[Qxf,List.range_succ]
theorem Qkw {α:Type} (l:List α) (x d:α) (j:Nat) (h:j<l.length):(l++[x]).getD j d=l.getD j d:=by
 simp[List.getD,List.getElem?_append_left h]
theorem Qms {α:Type} (l:List α) (x d:α):(l++[x]).getD l.length d=x:=by
 simp[List.getD]
theorem Qjd {p:Prop} (h:p:=by (first|(cbv;(try simp only[true_and,and_true]);(try ((repeat' apply And.intro)<;>(first|trivial|rfl|exact RowLe.rfl' _|decide|(rw[Qda har _ (by omega)])|((have hsb:=hsn b (by omega);rw[Qda har _ (by omega)]))|((refine Q0a (by rw[x0,hln];rfl) (fun j hj=>absurd hj (Nat.not_lt_zero _))))|((rw[y0];exact RowLe.rfl' _))|((have hi':i=sn b+1:=(by omega);subst hi';rw[x1];exact RowLe.rfl' _))|((have hbb:b=bn:=(by omega);subst hbb;exact RowLe.rfl' _))|((refine Q7a hzpl hzjn (by rw[y1,hln];simp) (fun j hj=>⟨⟨rfl,?_⟩,⟨rfl,?_⟩,trivial⟩) ⟨⟨rfl,?_⟩,⟨rfl,?_⟩,trivial⟩<;>(first|(rw[y1,hp1];rw[hln] at hj;simp only[Qkw _ _ _ _ hj];done)|(rw[y1,hp2];rw[hln] at hj;simp only[Qkw _ _ _ _ hj];done)|(rw[y1,hp1,hln];simp only[Qms];done)|(rw[y1,hp2,hln];simp only[Qms];done))))|fail)));done)|fail)):Pf p:=⟨h⟩
set_option maxRecDepth 100000 in
theorem Q9aa (F:GFun) (w:World) (hF:F.At w) (hsn:∀b,b<F.bn→F.sn b≤30) (hbn:F.bn≤30):
 Calls Tryz.prog 69 #[F.val] w (RetR w (Qwa F) (.pt (.one (.rs 0))) [ptR (Qgb F.sn F.bn)]):=by
 obtain ⟨X,hX0⟩:∃X:Nat→List (Nat×Nat),X=Qgb F.sn:=⟨_,rfl⟩
 obtain ⟨Y,hY0⟩:∃Y:Nat→Nat→List (Nat×Nat),Y=fun b i=>X b++Qxf b i:=⟨_,rfl⟩
 obtain ⟨ln_,hln⟩:∃f:List (Nat×Nat)→Nat,f=List.length:=⟨_,rfl⟩
 obtain ⟨p1,hp1⟩:∃f:List (Nat×Nat)→Nat→Int,f=fun L j=>Int.ofNat (L.getD j (0,0)).1:=⟨_,rfl⟩
 obtain ⟨p2,hp2⟩:∃f:List (Nat×Nat)→Nat→Int,f=fun L j=>Int.ofNat (L.getD j (0,0)).2:=⟨_,rfl⟩
 have hR:ptR (Qgb F.sn F.bn)=⟨ln_ (X F.bn),2,fun j=>[.int .i64 (p1 (X F.bn) j),.int .i64 (p2 (X F.bn) j)]⟩:=by rw[ptR,hln,hp1,hp2,hX0]
 rw[hR]
 have y0:∀b,Y b 0=X b:=fun b=>by rw[hY0];simp[Qxf]
 have y1:∀b i,Y b (i+1)=Y b i++[(b,i)]:=fun b i=>by rw[hY0];simp[Qpq]
 have x1:∀b,X (b+1)=Y b (F.sn b+1):=fun b=>by rw[hY0,hX0];rfl
 have x0:X 0=[]:=by rw[hX0];rfl
 have xl:∀b,b≤F.bn→ln_ (X b)≤b * 31:=fun b=>by
  induction b with
  | zero=>intro _;rw[x0,hln];simp
  | succ b ih=>
    intro hb'
    have h1:=ih (by omega)
    have h2:=hsn b (by omega)
    rw[x1,hY0,hln]
    simp only[List.length_append,Qxf,List.length_map,List.length_range]
    rw[hln] at h1
    omega
 have yl:∀b i,b<F.bn→i≤F.sn b+1→ln_ (Y b i)≤961:=fun b i hb' hi=>by
  have h1:=xl b (by omega)
  have h2:=hsn b hb'
  rw[hln] at h1⊢
  rw[hY0]
  simp only[List.length_append,Qxf,List.length_map,List.length_range]
  omega
 clear hR hX0 hY0
 obtain ⟨pa,un,lA,ln,lc,lk,lt,bA,bn,bc,sA,sn,sc,s,jA,jn,jc,ja,jk,jo,jf,jx,je,jd⟩:=F
 obtain ⟨hX,hl,hb,hs,hj⟩:=hF
 simp only at hl hb hs hj
 simp only at hsn hbn x1 xl yl
 refine Qaa (args:=[.pt (.agg (GFun.dat _))]) (c:=(Qwa _)) Tryz.func69 rfl hX rfl rfl ?_
 obtain ⟨nd,hnd,nt,hnt,ar,har,cm,hcm,mx,hmx,mn,hmn,ar01,ar12,zpl,hzpl,zjn,hzjn,zup,hzup,zmi,hzmi,zdp,hzdp,hT⟩:=Qca
 repeat' (first
  | refine go1 ?_|refine go3 (fun hlt=>?_) (fun hge=>?_)|refine gof ?_
  | ((with_reducible apply Qna hT);(·(cbv;try rfl));(·(cbv;try rfl));(·exact Qjd);(·exact Qjd);(·rfl))
  | ((with_reducible refine Q4c ?_ ?_);(·first|trivial|(refine ⟨trivial,?_⟩;omega)|(rw[hzpl];refine ⟨trivial,?_⟩;show _+_≤1073741824;omega)|(rw[hzpl];show _+_≤1073741824;omega)|((rw[hzpl];exact Nat.le_trans (Nat.add_le_add_right (yl b i (by omega) (by omega)) 1) (by decide)))))
  | ((with_reducible apply Qud 3 2);(·(cbv;try rfl)))
  | ((with_reducible refine Qja (σ:={b:Nat // b≤bn}) [4,5,10,11,12,13,14,15,16,17,18,19,20,21,22,23,24,25,26,27,28,29,30] (fun x=>[(9,.pt (.one (.int .i64 (.ofNat x.1))))]) (fun x=>[]) (fun x=>[(0,⟨ln_ (X x.1),2,fun j=>[.int .i64 (p1 (X x.1) j),.int .i64 (p2 (X x.1) j)]⟩)]) (fun x=>bn - x.1) ⟨0,by omega⟩ ?_ ?_ ?_ ?_);(·exact Qea Qjd Qjd Qjd Qjd);(·(cbv;try rfl));(·simp);(rintro ⟨b,hb1⟩ mm hmm))
  | ((with_reducible refine Qja (σ:={i:Nat // i≤sn b+1}) [5,21,22,23,24,25,26,27,28,29] (fun x=>[(19,.pt (.one (.int .i64 (.ofNat (sn b+1))))),(20,.pt (.one (.int .i64 (.ofNat x.1))))]) (fun x=>[]) (fun x=>[(0,⟨ln_ (Y b x.1),2,fun j=>[.int .i64 (p1 (Y b x.1) j),.int .i64 (p2 (Y b x.1) j)]⟩)]) (fun x=>sn b+1 - x.1) ⟨0,by omega⟩ ?_ ?_ ?_ ?_);(·exact Qea Qjd Qjd Qjd Qjd);(·(cbv;try rfl));(·simp);(rintro ⟨i,hi⟩ mm hmm))
  | ((with_reducible refine Qma ⟨i+1,by omega⟩ ?_ ?_ ?_ ?_);(·exact Nat.lt_of_lt_of_eq (show sn b+1 - (i+1)<sn b+1 - i from by omega) (Eq.symm ‹_›));(·exact Qea Qjd Qjd Qjd Qjd);(·(cbv;try rfl));(·simp))
  | ((with_reducible refine Qma ⟨b+1,by omega⟩ ?_ ?_ ?_ ?_);(·exact Nat.lt_of_lt_of_eq (show bn - (b+1)<bn - b from by omega) (Eq.symm ‹_›));(·exact Qea Qjd Qjd Qjd Qjd);(·(cbv;try rfl));(·simp))
  | fail)
 all_goals trace_state
end
section
def stN (sn:Nat→Nat):Nat→Nat
 | 0=>0
 | b+1=>stN sn b+sn b+1
theorem Qtm {sn:Nat→Nat} {n:Nat} (hs:∀b,b<n→sn b≤30):∀b,b≤n→stN sn b≤b * 31
 | 0,_=>Nat.le_refl _
 | b+1,h=>by have:=Qtm hs b (by omega);have:=hs b (by omega);simp only[stN];omega
theorem Qgo (sn:Nat→Nat) {a b:Nat} (h:a<b):stN sn a<stN sn b:=by
 induction b with
 | zero=>omega
 | succ b ih=>
   simp only[stN]
   rcases Nat.lt_or_eq_of_le (Nat.le_of_lt_succ h) with h|rfl
   · have:=ih h;omega
   · omega
theorem Qoq {ar:BinOp→IntKind→Int→Int→Int} (har:ar=rAr) {i n:Nat} (h:i+n≤9223372036854775807):ar .add .i64 (.ofNat i) (.ofNat n)=.ofNat (i+n):=by
 rw[har]
 show IntKind.i64.wrap ((i:Int)+(n:Int))=((i+n:Nat):Int)
 rw[Go.IntWalk.i64_in _ (by omega)]
 omega
end
section
structure GFun.Sm (F:GFun):Prop where
 s:∀b,b<F.bn→F.sn b≤30
 b:F.bn≤30
 l:F.ln≤30
 j:∀b,b<F.bn→F.jn b≤12
def GStmt.zero:GStmt:=⟨0,.zero,.zero,.zero,0⟩
end
end Go.Proofs.YtamcjkgedgocfaaGreat
