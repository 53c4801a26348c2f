/- Layer 11 of the program: the points next to a point and before it, points that are reached. No condition. -/
import Derived.Test.YtaafofmfbcnaaaaGreatGrC
import Derived.Test.YtaafofmfbcnaaaaGreatGrD
import Derived.Test.YtaafofmfbcnaaaaGreatGrE
namespace Go.Proofs.YtaafofmfbcnaaaaGreat
set_option maxRecDepth 100000
open Go.RowKit
set_option linter.unusedVariables false
set_option linter.unusedSimpArgs false
set_option maxHeartbeats 4000000 in
theorem nextPC (F:GFun) (w:World) (hF:F.At w) (hO:F.Ok) (b i:Nat) (hbb:b<F.bn) (hii:i≤F.sn b):
 Calls Tryz.prog 17 #[F.val,.agg #[.int .i64 (.ofNat b),.int .i64 (.ofNat i)]] w (RetR w (funX F) (.tup [.one (.rs 0),.one (.int .i64 0)]) [ptR (nextP F b i)]):=by
 have h1 (wc:World) (hk:KB ⟨w,[]⟩ wc):=checkC F wc (hF.later hk) hO b i
 have e:=there_in hbb hii
 simp only[Int.ofNat_eq_natCast] at *
 rw[e] at h1
 have h2 (wc:World) (hk:KB ⟨w,[]⟩ wc):=nextC F wc (hF.later hk) hO b i hbb hii
 obtain ⟨R,hR⟩:∃R,R=ptR (nextP F b i):=⟨_,rfl⟩
 rw[←hR] at h2⊢
 clear e hO hR
 obtain ⟨pa,un,lA,ln,lc,lk,lt,bA,bn,bc,sA,sn,sc,s,jA,jn,jc,ja,jk,jo,jf,jx,je,jd⟩:=F
 obtain ⟨hX,hl,hb,hs,hj⟩:=hF
 simp only at hl hb hs hj
 simp only at h1 h2
 refine go_start (args:=[.pt (.agg (GFun.dat ⟨pa,un,lA,ln,lc,lk,lt,bA,bn,bc,sA,sn,sc,s,jA,jn,jc,ja,jk,jo,jf,jx,je,jd⟩)),.pt (.agg [.int .i64 (.ofNat b),.int .i64 (.ofNat i)])]) (c:=(funX ⟨pa,un,lA,ln,lc,lk,lt,bA,bn,bc,sA,sn,sc,s,jA,jn,jc,ja,jk,jo,jf,jx,je,jd⟩)) Tryz.func17 rfl hX rfl rfl ?_
 obtain ⟨nd,hnd,nt,hnt,ar,har,cm,hcm,mx,hmx,mn,hmn,ar01,ar12,zpl,hzpl,zjn,hzjn,zup,hzup,zmi,hzmi,zdp,hzdp,hT⟩:=t0_all
 repeat' (first
  | refine go1 ?_|refine gobn ?_|exact go0
  | ((with_reducible apply go_call (f:=66) (hf:=Tryz.call66));(·(cbv;try rfl));(·intro wc hbc hxc;exact h1 wc hbc))
  | ((with_reducible apply go_callR (f:=71) (hf:=Tryz.call71));(·intro S;cbv;try rfl);(·intro wc S hbc hxc hrc;exact h2 wc hbc);(·rfl))
  | fail)
theorem nextP_len {F:GFun} {b i:Nat}:(nextP F b i).length≤2:=by
 unfold nextP
 split
 · simp
 · rw[List.length_map]
   have h1:(F.jump b).leads.length≤2:=by
    unfold GJump.leads
    split
    · simp
    · split<;>simp
   have h2:∀l:List Int,l.length≤2→(sort2 l).length≤2:=fun l h=>by
    unfold sort2
    split
    · split<;>simp
    · exact h
   exact h2 _ h1
def befP (F:GFun) (p:Nat×Nat):Nat→List (Nat×Nat)
 | 0=>[]
 | n+1=>befP F p n++if decide (p∈nextP F (pbN F n) (piN F n))=true then [(pbN F n,piN F n)] else []
theorem befP_len (F:GFun) (p:Nat×Nat):∀n,(befP F p n).length≤n
 | 0=>Nat.le_refl _
 | n+1=>by
   have:=befP_len F p n
   simp only[befP,List.length_append]
   split<;>simp<;>omega
theorem wGrF_1 {p:Prop} (h:p:=by (first|(cbv;(try simp only[true_and,and_true]);(try ((repeat' apply And.intro)<;>(first|trivial|rfl|exact RowLe.rfl' _|decide|(rw[wrap_nat har _ (by omega)];done)|((refine rowLe_of (by rw[x0,hln];rfl) (fun j hj=>absurd hj (Nat.not_lt_zero _))))|((exact hj1 a ‹_›))|((rw[x2 a ‹_›];exact RowLe.rfl' _))|((have haN:a=N:=(by omega);subst haN;exact RowLe.rfl' _))|fail)));done)|fail)):Pf p:=⟨h⟩
set_option maxHeartbeats 8000000 in
theorem beforeC (F:GFun) (w:World) (hF:F.At w) (hO:F.Ok) (b i:Nat) (hbb:b<F.bn) (hii:i≤F.sn b):
 Calls Tryz.prog 19 #[F.val,.agg #[.int .i64 (.ofNat b),.int .i64 (.ofNat i)]] w (RetR w (funX F) (.tup [.one (.rs 0),.one (.int .i64 0)]) [ptR (befP F (b,i) (stN F.sn F.bn))]):=by
 have h1 (wc:World) (hk:KB ⟨w,[]⟩ wc):=checkC F wc (hF.later hk) hO b i
 have e:=there_in hbb hii
 simp only[Int.ofNat_eq_natCast] at *
 rw[e] at h1
 have h2 (wc:World) (hk:KB ⟨w,[]⟩ wc):=allC F wc (hF.later hk) hO.small.s hO.small.b
 have h30 (wc:World) (hk:KB ⟨w,[]⟩ wc) (a:Nat) (ha:a<stN F.sn F.bn):=nextC F wc (hF.later hk) hO (pbN F a) (piN F a) (num_pt ha).1 (num_pt ha).2.1
 have h40 (wc:World) (a:Nat) (v:Value) (c:Nat→Nat→Row):=containsC (nextP F (pbN F a) (piN F a)) b i (Nat.le_trans nextP_len (by decide)) c wc v
 have hN9:=hO.pts
 obtain ⟨N,hN⟩:∃N,N=stN F.sn F.bn:=⟨_,rfl⟩
 obtain ⟨zb,hzb⟩:∃f:Nat→Bool,f=fun a=>decide ((b,i)∈nextP F (pbN F a) (piN F a)):=⟨_,rfl⟩
 obtain ⟨X,hXX⟩:∃f:Nat→List (Nat×Nat),f=befP F (b,i):=⟨_,rfl⟩
 obtain ⟨NR,hNR⟩:∃f:Nat→ORow,f=fun a=>ptR (nextP F (pbN F a) (piN F a)):=⟨_,rfl⟩
 have h3 (wc:World) (hk:KB ⟨w,[]⟩ wc) (a:Nat) (ha:a<N):Calls Tryz.prog 71 #[F.val,.agg #[.int .i64 (.ofNat (pbN F a)),.int .i64 (.ofNat (piN F a))]] wc (RetR wc (funX F) (.pt (.one (.rs 0))) [NR a]):=by rw[hNR];exact h30 wc hk a (hN▸ha)
 have h4 (wc:World) (a:Nat) (v:Value) (c:Nat→Nat→Row) (h:RowIs c wc (NR a) v):Calls Tryz.prog 73 #[v,.agg #[.int .i64 (.ofNat b),.int .i64 (.ofNat i)]] wc (Ret wc (.bool (zb a))):=by
  rw[hzb];rw[hNR] at h;exact h40 wc a v c h
 have x0:X 0=[]:=by rw[hXX];rfl
 have x1:∀a,zb a=true→X (a+1)=X a++[(pbN F a,piN F a)]:=fun a h=>by rw[hXX];rw[hzb] at h;simp only[befP];rw[if_pos h]
 have x2:∀a,zb a=false→X (a+1)=X a:=fun a h=>by rw[hXX];rw[hzb] at h;simp only[befP];rw[if_neg (by simpa using h)];simp
 have xl:∀a,(X a).length≤a:=fun a=>by rw[hXX];exact befP_len F _ a
 obtain ⟨pb,hpb⟩:∃f:Nat→Nat,f=pbN F:=⟨_,rfl⟩
 obtain ⟨pi,hpi⟩:∃f:Nat→Nat,f=piN F:=⟨_,rfl⟩
 have hR:ptR (allPts F.sn F.bn)=⟨N,2,fun j=>[.int .i64 (.ofNat (pb j)),.int .i64 (.ofNat (pi j))]⟩:=by rw[ptR,allPts_len,hN,hpb,hpi];rfl
 rw[hR] at h2
 simp only[←hpb,←hpi] at h3 x1
 rw[←hN] at hN9⊢
 rw[←hXX]
 obtain ⟨ln_,hln⟩:∃f:List (Nat×Nat)→Nat,f=List.length:=⟨_,rfl⟩
 obtain ⟨p1,hp1⟩:∃f:List (Nat×Nat)→Nat→Int,f=fun L j=>Int.ofNat (L.getD j (0,0)).1:=⟨_,rfl⟩
 obtain ⟨p2,hp2⟩:∃f:List (Nat×Nat)→Nat→Int,f=fun L j=>Int.ofNat (L.getD j (0,0)).2:=⟨_,rfl⟩
 have hRX:∀L,ptR L=⟨ln_ L,2,fun j=>[.int .i64 (p1 L j),.int .i64 (p2 L j)]⟩:=fun L=>by rw[ptR,hln,hp1,hp2]
 rw[hRX]
 have xl:∀a,ln_ (X a)≤a:=fun a=>by rw[hln];exact xl a
 clear h30 h40 hR hN hzb hXX hNR hpb hpi hO e hRX
 obtain ⟨pa,un,lA,ln,lc,lk,lt,bA,bn,bc,sA,sn,sc,s,jA,jn,jc,ja,jk,jo,jf,jx,je,jd⟩:=F
 obtain ⟨hX,hl,hb,hs,hj⟩:=hF
 simp only at hl hb hs hj
 simp only at h1 h2 h3
 refine go_start (args:=[.pt (.agg (GFun.dat ⟨pa,un,lA,ln,lc,lk,lt,bA,bn,bc,sA,sn,sc,s,jA,jn,jc,ja,jk,jo,jf,jx,je,jd⟩)),.pt (.agg [.int .i64 (.ofNat b),.int .i64 (.ofNat i)])]) (c:=(funX ⟨pa,un,lA,ln,lc,lk,lt,bA,bn,bc,sA,sn,sc,s,jA,jn,jc,ja,jk,jo,jf,jx,je,jd⟩)) Tryz.func19 rfl hX rfl rfl ?_
 obtain ⟨nd,hnd,nt,hnt,ar,har,cm,hcm,mx,hmx,mn,hmn,ar01,ar12,zpl,hzpl,zjn,hzjn,zup,hzup,zmi,hzmi,zdp,hzdp,hT⟩:=t0_all
 have hj1:∀a,zb a=true→RowLe ⟨zpl (ln_ (X a)) 1,2,zjn (ln_ (X a)) (fun j=>[.int .i64 (p1 (X a) j),.int .i64 (p2 (X a) j)]) (fun j=>cutL [.int .i64 (.ofNat (pb a)),.int .i64 (.ofNat (pi a))] (0+j * 2) 2)⟩ ⟨ln_ (X (a+1)),2,fun j=>[.int .i64 (p1 (X (a+1)) j),.int .i64 (p2 (X (a+1)) j)]⟩:=fun a h=>by
  rw[x1 a h]
  refine rowLe_snoc hzpl hzjn (by rw[hln];simp) (fun j hj=>⟨⟨rfl,?_⟩,⟨rfl,?_⟩,trivial⟩) ⟨⟨rfl,?_⟩,⟨rfl,?_⟩,trivial⟩
  · rw[hp1];rw[hln] at hj;simp only[getD_lt _ _ _ _ hj]
  · rw[hp2];rw[hln] at hj;simp only[getD_lt _ _ _ _ hj]
  · rw[hp1,hln];simp only[getD_end]
  · rw[hp2,hln];simp only[getD_end]
 repeat' (first
  | refine go1 ?_|refine gobt ?_|refine gobn ?_|refine go3 (fun hlt=>?_) (fun hge=>?_)|refine go2 (fun h=>?_) (fun h=>?_)|exact go0|refine gof ?_|(with_reducible refine fork_cons ?_ ?_)
  | ((first|with_reducible apply go_fin_rowsP hT|with_reducible apply go_ret_rowsP hT);(·(cbv;try rfl));(·(cbv;try rfl));(·exact wGrF_1);(·exact wGrF_1);(·rfl))
  | ((with_reducible refine go_ob ?_ ?_);(·first|trivial|(refine ⟨trivial,?_⟩;omega)|(rw[hzpl];refine ⟨trivial,?_⟩;show _+_≤1073741824;omega)|(rw[hzpl];show _+_≤1073741824;omega)|((rw[hzpl];exact Nat.le_trans (Nat.add_le_add_right (xl a) 1) (show a+1≤1073741824 from by omega)))))
  | ((with_reducible apply go_call (f:=66) (hf:=Tryz.call66));(·(cbv;try rfl));(·intro wc hbc hxc;exact h1 wc hbc))
  | ((with_reducible apply go_callq (f:=66) (hf:=Tryz.call66));(·(cbv;try rfl));(·intro wc hbc hxc;exact h1 wc hbc))
  | ((with_reducible apply go_callR (f:=64) (hf:=Tryz.call64));(·intro S;cbv;try rfl);(·intro wc S hbc hxc hrc;exact h2 wc hbc);(·rfl))
  | ((with_reducible apply go_row 7 2);(·(cbv;try rfl)))
  | (((with_reducible apply go_drawE);(·kernel_rfl)))
  | ((with_reducible apply go_callR (f:=71) (hf:=Tryz.call71));(·intro S;cbv;try rfl);(·intro wc S hbc hxc hrc;exact h3 wc hbc a ‹_›);(·rfl))
  | ((with_reducible apply go_callRv (f:=73) (hf:=Tryz.call73));(·intro S;cbv;try rfl);(·intro wc S hbc hxc hrc;exact h4 wc a _ _ (hrc 2 _ rfl)))
  | ((with_reducible refine go_loopk (σ:={a:Nat // a≤N}) [8,9,20,21,22,23,24,25,26,27,28,29,30,31,32] (fun x=>[(19,.pt (.one (.int .i64 (.ofNat x.1))))]) (fun x=>[]) (fun x=>[(1,⟨ln_ (X x.1),2,fun j=>[.int .i64 (p1 (X x.1) j),.int .i64 (p2 (X x.1) j)]⟩)]) (fun x=>N - x.1) ⟨0,by omega⟩ ?_ ?_ ?_ ?_);(·exact le_mkP wGrF_1 wGrF_1 wGrF_1 wGrF_1);(·(cbv;try rfl));(·simp);(rintro ⟨a,ha⟩ mm hmm))
  | ((with_reducible refine go_stop ⟨a+1,by omega⟩ ?_ ?_ ?_ ?_);(·exact Nat.lt_of_lt_of_eq (show N - (a+1)<N - a from by omega) (Eq.symm ‹_›));(·exact le_mkP wGrF_1 wGrF_1 wGrF_1 wGrF_1);(·(cbv;try rfl));(·simp))
  | fail)
end Go.Proofs.YtaafofmfbcnaaaaGreat
