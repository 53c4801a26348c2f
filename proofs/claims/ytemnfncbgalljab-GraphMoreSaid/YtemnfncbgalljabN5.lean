/- Lemmas. No condition. -/
import Derived.Test.YtemnfncbgalljabN4
namespace Go.Proofs.Ytemnfncbgalljab
open Go.RowKit
set_option linter.all false
set_option maxRecDepth 100000
set_option maxHeartbeats 64000000
structure KCon where
 fr:Int
 to:Int
 at_:Int
 why:Int
def KCon.zero:KCon:=⟨0,0,0,0⟩
def KCon.sc (k:KCon):List SC:=[.int .i64 k.fr,.int .i64 k.to,.int .i64 k.at_,.int .u8 k.why]
theorem Q6b (sn:N9z):∀n,(Qgb sn n).length=stN sn n
 | 0=>rfl
 | n+1=>by simp only[Qgb,List.length_append,Q6b sn n,Qxf,List.length_map,List.length_range,stN];omega
theorem Qti (sn:N9z):∀n p,p∈Qgb sn n->p.1<n/\p.2<=sn p.1
 | 0,p,h=>by simp[Qgb] at h
 | n+1,p,h=>by
   simp only[Qgb,List.mem_append] at h
   rcases h with h|h
   · have:=Qti sn n p h;exact ⟨by omega,this.2⟩
   · simp only[Qxf,List.mem_map,List.mem_range] at h
     obtain ⟨i,h1,rfl⟩:=h
     exact ⟨by simp,by simp;omega⟩
theorem Qty (F:GFun) (w:World) (hF:F.At w) (hS:F.Sm) (hC:∀w,F.At w->Calls Try.prog 35 #[F.val] w (Ret w (.int .i64 0))):
 Calls Try.prog 26 #[F.val] w (RetR w (Qwa F) (.tup [.one (.rs 0),.one (.int .i64 0)]) [⟨stN F.sn F.bn,2,fun j=>[.int .i64 (.ofNat ((Qgb F.sn F.bn).getD j (0,0)).1),.int .i64 (.ofNat ((Qgb F.sn F.bn).getD j (0,0)).2)]⟩]):=by
 have h1 wc (hk:KB ⟨w,[]⟩ wc):=hC wc (hF.later hk)
 have h2 wc (hk:KB ⟨w,[]⟩ wc):=Q9aa F wc (hF.later hk) hS.s hS.b
 have hR:ptR (Qgb F.sn F.bn)=⟨stN F.sn F.bn,2,fun j=>[.int .i64 (.ofNat ((Qgb F.sn F.bn).getD j (0,0)).1),.int .i64 (.ofNat ((Qgb F.sn F.bn).getD j (0,0)).2)]⟩:=by rw[ptR,Q6b]
 rw[hR] at h2
 clear hR hC hS
 obtain ⟨N,hN⟩:=x9 (stN F.sn F.bn)
 obtain ⟨p1,hp1⟩:=x9 (fun j=>((Qgb F.sn F.bn).getD j (0,0)).1:N9z)
 obtain ⟨p2,hp2⟩:=x9 (fun j=>((Qgb F.sn F.bn).getD j (0,0)).2:N9z)
 have hR:(⟨stN F.sn F.bn,2,fun j=>[.int .i64 (.ofNat ((Qgb F.sn F.bn).getD j (0,0)).1),.int .i64 (.ofNat ((Qgb F.sn F.bn).getD j (0,0)).2)]⟩:ORow)=⟨N,2,fun j=>[.int .i64 (.ofNat (p1 j)),.int .i64 (.ofNat (p2 j))]⟩:=by rw[hN,hp1,hp2]
 rw[hR] at h2⊢
 clear hR hN hp1 hp2
 obtain ⟨_,_,_,_,_,_,_,_,bn,_,_,sn,_,_,_,_,_,_,_,_,_,_,_,_⟩:=F
 obtain ⟨hX,hl,hb,hs,hj⟩:=hF
 simp only at hl hb hs hj
 refine Qaa (args:=[.pt (.agg (GFun.dat _))]) (c:=(Qwa _)) Try.func26 rfl hX rfl rfl ?_
 obtain ⟨_,_,_,hnt,_,har,_,hcm,_,_,_,_,ar01,ar12,_,hzpl,_,_,_,_,_,_,_,_,hT⟩:=Qca
 repeat' (first
  | refine goa ?_|exact go0
  | (refine' Qiha Try.call35 ?_ ?_;rotate_left;(·intro wc hbc hxc;exact h1 wc hbc))
  | ((with_reducible apply Qoa (hf:=Try.call33));(·intro S;cbv;try rfl);(·intro wc S hbc hxc hrc;exact h2 wc hbc);(·rfl))
  | fail)
def pbN (F:GFun) (n:Nat):Nat:=((Qgb F.sn F.bn).getD n (0,0)).1
def piN (F:GFun) (n:Nat):Nat:=((Qgb F.sn F.bn).getD n (0,0)).2
theorem Q6l (sn:N9z):∀bn n,n<stN sn bn->n=stN sn ((Qgb sn bn).getD n (0,0)).1+((Qgb sn bn).getD n (0,0)).2
 | 0,n,h=>by simp[stN] at h
 | bn+1,n,h=>by
   have hl:=Q6b sn bn
   simp only[stN] at h
   by_cases g:n<stN sn bn
   · have:=Q6l sn bn n g
     have e:(Qgb sn (bn+1)).getD n (0,0)=(Qgb sn bn).getD n (0,0):=by
      simp only[Qgb,List.getD]
      rw[List.getElem?_append_left o9]
     rw[e];exact this
   · have e:(Qgb sn (bn+1)).getD n (0,0)=(bn,n - stN sn bn):=by
      simp only[Qgb,List.getD]
      rw[List.getElem?_append_right o9,hl]
      simp only[Qxf,List.getElem?_map]
      rw[List.getElem?_range o9]
      rfl
     rw[e];simp only;omega
theorem Qoc {F:GFun} {n:Nat} (h:n<stN F.sn F.bn):pbN F n<F.bn/\piN F n<=F.sn (pbN F n)/\n=stN F.sn (pbN F n)+piN F n:=by
 have hl:n<(Qgb F.sn F.bn).length:=by rw[Q6b];exact h
 have hm:=Qti F.sn F.bn ((Qgb F.sn F.bn).getD n (0,0)) (by
  simp only[List.getD,List.getElem?_eq_getElem hl,Option.getD_some]
  exact List.getElem_mem hl)
 exact ⟨hm.1,hm.2,Q6l F.sn F.bn n h⟩
def Qge (F:GFun) (n:Nat):Bool:=decide (piN F n<F.sn (pbN F n))
def stAt (F:GFun) (n:Nat):GStmt:=if piN F n<F.sn (pbN F n) then F.s (pbN F n) (piN F n) else .zero
end Go.Proofs.Ytemnfncbgalljab
