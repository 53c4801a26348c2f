/- Lemmas. No condition. -/
import Derived.Test.YtemnfncbgalljabIdD
import Derived.Test.YtemnfncbgalljabInB
namespace Go.Proofs.Ytemnfncbgalljab
open Go.RowKit
set_option linter.all false
set_option maxRecDepth 100000
set_option maxHeartbeats 64000000
theorem Qjna {p:Prop} (h:p:=by (first|((try with_reducible refine Q8c ?_ ?_ ?_ ?_);all_goals (cbv;(try simp only[true_and,and_true]);(try ((repeat' apply And.intro)<;>(first|trivial|rfl|exact RowLe.rfl' _|decide|(rw[Qda har _ o9];done)|((exact hU k y9 y9 y9))|((exact hV k y9 y9 y9))|((exact hW k y9 y9 y9))|((exact hY k y9 y9 y9))|((exact hB1 k y9 y9 y9 y9))|((exact hB2 k y9 y9))|((exact hB3 k y9 y9))|((exact hB4 k y9 y9))|fail))));done)|fail)):Pf p:=⟨h⟩
theorem Qxha (F:GFun) (w:World) (hF:F.At w) (hO:F.Ok) (b i:Nat) (hb:b<F.bn) (S:B9z):
 Calls Try.prog 37 #[F.val,.agg #[.int .i64 (.ofNat b),.int .i64 (.ofNat i)],.int .u32 (.ofNat (mk S F.ln))] w (Ret w (.tuple #[.int .u32 (.ofNat (mk (Qcna (ptD F b i) S) F.ln)),.int .i64 (Qcma (ptD F b i) S)])):=by
 have h1 wc (hk:KB ⟨w,[]⟩ wc):=Q7na F wc (hF.later hk) hO b i hb
 have hin:=Q1la hO (i:=i) hb
 have hn9:=Qwna hO (i:=i) hb
 have hl16:=hO.ln16
 obtain ⟨ln',hln'⟩:=x9 (F.ln)
 rw[<-hln'] at hl16 hin
 rw[<-hln']
 obtain ⟨L,hL⟩:=x9 (ptD F b i)
 rw[<-hL] at h1 hin hn9⊢
 obtain ⟨n,hn⟩:=x9 (L.length)
 obtain ⟨tc,htc⟩:=x9 (fun j=>L.getD j .zero:Nat->GDeed)
 have hR:deR L=⟨n,4,fun j=>(tc j).sc⟩:=by rw[deR,hn,htc]
 rw[hR] at h1
 rw[<-hn] at hn9
 obtain ⟨X,hX'⟩:=x9 (fun k=>(L.take k).foldl Q9ja (S,-1):Nat->(Nat->Bool)×Int)
 have x0:X 0=(S,-1):=by rw[hX'];simp
 have xs:∀k,k<n->X (k+1)=Q9ja (X k) (tc k):=fun k hk=>by
  rw[hX',htc]
  rw[hn] at hk
  simp only[List.take_add_one,List.getElem?_eq_getElem hk,Option.toList_some,List.foldl_append,List.foldl_cons,List.foldl_nil,List.getD,Option.getD_some]
 have xe:X n=(Qcna L S,Qcma L S):=by rw[hX',hn];simp[Qcna,Qcma]
 obtain ⟨mS,hmS⟩:=x9 (fun k=>mk (X k).1 ln':N9z)
 obtain ⟨bd,hbd⟩:=x9 (fun k=>(X k).2:I9z)
 have hin2:∀k,k<n->0<=(tc k).l/\(tc k).l<ln':=fun k hk=>by
  rw[htc];rw[hn] at hk
  refine hin _ ?_
  simp only[List.getD,List.getElem?_eq_getElem hk,Option.getD_some]
  exact List.getElem_mem hk
 have m0:mk S ln'=mS 0:=by rw[hmS];simp only[x0]
 have me:mk (Qcna L S) ln'=mS n:=by rw[hmS];simp only[xe]
 have b0:(-1:Int)=bd 0:=by rw[hbd];simp only[x0]
 have be:Qcma L S=bd n:=by rw[hbd];simp only[xe]
 rw[m0,me,be]
 clear hX' hR hin hL hn x0 xe m0 me be hO htc hln'
 cases F
 obtain ⟨hX,hl,hb,hs,hj⟩:=hF
 simp only at hl hb hs hj
 refine Qaa (args:=[.pt (.agg (GFun.dat _)),.pt (.agg [.int .i64 (.ofNat b),.int .i64 (.ofNat i)]),.pt (.one (.int .u32 (.ofNat (mS 0))))]) (c:=(Qwa _)) Try.func37 rfl hX rfl rfl ?_
 obtain ⟨_,_,_,hnt,ar,har,cm,hcm,_,_,_,_,ar01,ar12,_,hzpl,_,_,_,_,_,_,_,_,hT⟩:=Qca
 have hbit:∀k,k<n->ar .shl .u32 1 (tc k).l=.ofNat (mk (fun l=>decide (l=(tc k).l.toNat)) ln'):=fun k hk=>by
  have q:=hin2 k hk
  have e:(tc k).l=.ofNat (tc k).l.toNat:=by simp only[Int.ofNat_eq_natCast];omega
  rw[<-Qz2 (show (tc k).l.toNat<ln' by omega),<-Qyz har (show (tc k).l.toNat<32 by omega),<-e]
 have hand:∀k,k<n->ar .and .u32 (.ofNat (mS k)) (ar .shl .u32 1 (tc k).l)=.ofNat (mk (fun l=>(X k).1 l&&decide (l=(tc k).l.toNat)) ln'):=fun k hk=>by
  rw[hbit k hk,hmS];exact Qgna har o9 _ _
 have hanz:∀k,k<n->decide (ar .and .u32 (.ofNat (mS k)) (ar .shl .u32 1 (tc k).l)=0)= !(X k).1 (tc k).l.toNat:=fun k hk=>by
  have q:=hin2 k hk
  have hq:(tc k).l.toNat<ln':=by omega
  rw[hand k hk]
  cases hz:(X k).1 (tc k).l.toNat
  · refine decide_eq_true ?_
    have:mk (fun l=>(X k).1 l&&decide (l=(tc k).l.toNat)) ln'=0:=by
     refine Eq.trans (Q9s (T:=fun _=>false) fun l hl=>?_) mk_none.symm
     by_cases e:l=(tc k).l.toNat
     · rw[e,hz];rfl
     · simp[e]
    rw[this];rfl
  · refine decide_eq_false fun h=>?_
    have h:mk (fun l=>(X k).1 l&&decide (l=(tc k).l.toNat)) ln'=0:=Int.ofNat.inj h
    have:=Quna h hq
    simp[hz] at this
 have hsx:∀k,k<n->∀l,(X (k+1)).1 l=(((X k).1 l&&!((tc k).un&&decide (l=(tc k).l.toNat)))||((tc k).st&&decide (l=(tc k).l.toNat))):=fun k hk l=>by rw[xs k hk];rfl
 have hU:∀k,k<n->(tc k).un=true->(tc k).st=false->ar .andNot .u32 (.ofNat (mS k)) (ar .shl .u32 1 (tc k).l)=.ofNat (mS (k+1)):=fun k hk g1 g2=>by
  rw[hbit k hk,hmS,Q5x har o9]
  refine congrArg Int.ofNat (Q9s fun l _=>?_)
  rw[hsx k hk,g1,g2];simp
 have hV:∀k,k<n->(tc k).un=false->(tc k).st=true->ar .or .u32 (.ofNat (mS k)) (ar .shl .u32 1 (tc k).l)=.ofNat (mS (k+1)):=fun k hk g1 g2=>by
  rw[hbit k hk,hmS,Q60 har o9]
  refine congrArg Int.ofNat (Q9s fun l _=>?_)
  rw[hsx k hk,g1,g2];simp
 have hW:∀k,k<n->(tc k).un=true->(tc k).st=true->ar .or .u32 (ar .andNot .u32 (.ofNat (mS k)) (ar .shl .u32 1 (tc k).l)) (ar .shl .u32 1 (tc k).l)=.ofNat (mS (k+1)):=fun k hk g1 g2=>by
  rw[hbit k hk,hmS,Q5x har o9,Q60 har o9]
  refine congrArg Int.ofNat (Q9s fun l _=>?_)
  rw[hsx k hk,g1,g2];simp
 have hY:∀k,k<n->(tc k).un=false->(tc k).st=false->mS k=mS (k+1):=fun k hk g1 g2=>by
  rw[hmS]
  refine Q9s fun l _=>?_
  rw[hsx k hk,g1,g2];simp
 have hY:∀k,k<n->(tc k).un=false->(tc k).st=false->Int.ofNat (mS k)=Int.ofNat (mS (k+1)):=fun k hk g1 g2=>congrArg Int.ofNat (hY k hk g1 g2)
 have hbs:∀k,k<n->bd (k+1)=if ((tc k).rd&&!(X k).1 (tc k).l.toNat&&decide (bd k<0))=true then (tc k).l else bd k:=fun k hk=>by rw[hbd];simp only[xs k hk];rfl
 have hB1:∀k,k<n->(tc k).rd=true->decide (ar .and .u32 (.ofNat (mS k)) (ar .shl .u32 1 (tc k).l)=0)=true->cm .lss (bd k) 0=true->(tc k).l=bd (k+1):=fun k hk g1 g2 g3=>by
  rw[hanz k hk] at g2
  rw[hcm] at g3
  have g3:decide (bd k<0)=true:=g3
  rw[hbs k hk,g1,g2,g3];rfl
 have hB2:∀k,k<n->(tc k).rd=false->bd k=bd (k+1):=fun k hk g1=>by
  rw[hbs k hk,g1];simp
 have hB3:∀k,k<n->decide (ar .and .u32 (.ofNat (mS k)) (ar .shl .u32 1 (tc k).l)=0)=false->bd k=bd (k+1):=fun k hk g2=>by
  rw[hanz k hk] at g2
  rw[hbs k hk,g2];simp
 have hB4:∀k,k<n->cm .lss (bd k) 0=false->bd k=bd (k+1):=fun k hk g3=>by
  rw[hcm] at g3
  have g3:decide (bd k<0)=false:=g3
  rw[hbs k hk,g3];simp
 have hsh:∀k,k<n->0<=(tc k).l/\(tc k).l<(tc k).l.toNat+1:=fun k hk=>by have:=hin2 k hk;omega
 clear hbit hand hanz hsx hbs xs hmS hbd
 repeat' (first
  | refine go1 ?_|refine go3 (fun hlt=>?_) (fun hge=>?_)|refine go2 (fun h=>?_) (fun h=>?_)|refine gof ?_
  | ((with_reducible apply Qoa (hf:=Try.call55));(·intro S;cbv;try rfl);(·intro wc S hbc hxc hrc;exact h1 wc hbc);(·rfl))
  | (((with_reducible apply Qxa);(·exact (hsh k y9).1);(·exact (hsh k y9).2)))
  | ((with_reducible refine Qgha (σ:={k:Nat // k<=n}) (zs9 [10,2,17,31]) (fun x=>[zc9 16 x.1,(2,.pt (.one (.int .u32 (.ofNat (mS x.1))))),(8,.pt (.one (.int .i64 (bd x.1))))]) (fun x=>[]) (fun x=>[]) (fun x=>n - x.1) ⟨0,by omega⟩ ?_ ?_);(·exact pfp Qjna);(rintro ⟨k,hk⟩ mm hmm))
  | ((with_reducible refine Qfha (⟨k+1,by omega⟩:{k:Nat // k<=n}) ?_ ?_);(·exact msr o9 y9);(·exact pfp Qjna))
  | fail)
 all_goals (have haN:k=n:=by omega)
 all_goals (subst haN;rfl)
end Go.Proofs.Ytemnfncbgalljab
