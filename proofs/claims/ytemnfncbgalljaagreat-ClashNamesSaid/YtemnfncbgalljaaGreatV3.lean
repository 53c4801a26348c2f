/- Lemmas. No condition. -/
import Derived.Ground.Names2Prog
import Derived.Test.YtemnfncbgalljaaGreatChecked
import Derived.Test.YtemnfncbgalljaaGreatV2
import Derived.Test.YtemnfncbgalljaaGreatPtA
namespace Go.Proofs.YtemnfncbgalljaaGreat
open Go.Shelf
set_option linter.all false
set_option maxHeartbeats 64000000
def lays189_ren:Go.Shelf.Ren:=⟨fun|189=>252|125=>279|257=>278|128=>299|129=>300|294=>291|295=>292|296=>293|297=>294|298=>295|299=>296|216=>262|300=>297|301=>298|328=>304|329=>305|330=>306|331=>307|332=>308|215=>282|343=>309|n=>n,fun|28=>70|3=>3|46=>107|0=>0|51=>104|53=>329|4=>4|183=>322|182=>321|131=>245|5=>5|9=>9|218=>332|222=>336|228=>338|229=>339|n=>n,fun|n=>n⟩
theorem Qe5:Go.Proofs.Lays.n189 Tryz.prog lays189_ren:={
 mixed:=by kernel_rfl
 f125:=Tryz.func279.trans (congrArg some (by kernel_rfl))
 f128:=Tryz.func299.trans (congrArg some (by kernel_rfl))
 f129:=Tryz.func300.trans (congrArg some (by kernel_rfl))
 f189:=Tryz.func252.trans (congrArg some (by kernel_rfl))
 f215:=Tryz.func282.trans (congrArg some (by kernel_rfl))
 f216:=Tryz.func262.trans (congrArg some (by kernel_rfl))
 f257:=Tryz.func278.trans (congrArg some (by kernel_rfl))
 f294:=Tryz.func291.trans (congrArg some (by kernel_rfl))
 f295:=Tryz.func292.trans (congrArg some (by kernel_rfl))
 f296:=Tryz.func293.trans (congrArg some (by kernel_rfl))
 f297:=Tryz.func294.trans (congrArg some (by kernel_rfl))
 f298:=Tryz.func295.trans (congrArg some (by kernel_rfl))
 f299:=Tryz.func296.trans (congrArg some (by kernel_rfl))
 f300:=Tryz.func297.trans (congrArg some (by kernel_rfl))
 f301:=Tryz.func298.trans (congrArg some (by kernel_rfl))
 f328:=Tryz.func304.trans (congrArg some (by kernel_rfl))
 f329:=Tryz.func305.trans (congrArg some (by kernel_rfl))
 f330:=Tryz.func306.trans (congrArg some (by kernel_rfl))
 f331:=Tryz.func307.trans (congrArg some (by kernel_rfl))
 f332:=Tryz.func308.trans (congrArg some (by kernel_rfl))
 f343:=Tryz.func309.trans (congrArg some (by kernel_rfl))
 t0:=Tryz.underlying0
 a0:=Tryz.isAgg0
 z0:=Tryz.sizeOf0
 v0:=Tryz.zeroValue0
 t3:=Tryz.underlying3
 a3:=Tryz.isAgg3
 z3:=Tryz.sizeOf3
 v3:=Tryz.zeroValue3
 t4:=Tryz.underlying4
 a4:=Tryz.isAgg4
 z4:=Tryz.sizeOf4
 v4:=Tryz.zeroValue4
 t5:=Tryz.underlying5
 a5:=Tryz.isAgg5
 z5:=Tryz.sizeOf5
 v5:=Tryz.zeroValue5
 t9:=Tryz.underlying9
 a9:=Tryz.isAgg9
 z9:=Tryz.sizeOf9
 v9:=Tryz.zeroValue9
 t28:=Tryz.underlying70
 a28:=Tryz.isAgg70
 z28:=Tryz.sizeOf70
 v28:=Tryz.zeroValue70
 t46:=Tryz.underlying107
 a46:=Tryz.isAgg107
 z46:=Tryz.sizeOf107
 v46:=Tryz.zeroValue107
 t51:=Tryz.underlying104
 a51:=Tryz.isAgg104
 z51:=Tryz.sizeOf104
 v51:=Tryz.zeroValue104
 t53:=Tryz.underlying329
 a53:=Tryz.isAgg329
 z53:=Tryz.sizeOf329
 v53:=Tryz.zeroValue329
 t131:=Tryz.underlying245
 a131:=Tryz.isAgg245
 z131:=Tryz.sizeOf245
 v131:=Tryz.zeroValue245
 t182:=Tryz.underlying321
 a182:=Tryz.isAgg321
 z182:=Tryz.sizeOf321
 v182:=Tryz.zeroValue321
 t183:=Tryz.underlying322
 a183:=Tryz.isAgg322
 z183:=Tryz.sizeOf322
 v183:=Tryz.zeroValue322
 t218:=Tryz.underlying332
 a218:=Tryz.isAgg332
 z218:=Tryz.sizeOf332
 v218:=Tryz.zeroValue332
 t222:=Tryz.underlying336
 a222:=Tryz.isAgg336
 z222:=Tryz.sizeOf336
 v222:=Tryz.zeroValue336
 t228:=Tryz.underlying338
 a228:=Tryz.isAgg338
 z228:=Tryz.sizeOf338
 v228:=Tryz.zeroValue338
 t229:=Tryz.underlying339
 a229:=Tryz.isAgg339
 z229:=Tryz.sizeOf339
 v229:=Tryz.zeroValue339 }
def laysNm220_ren:Go.Shelf.Ren:=⟨fun|20=>281|n=>n,fun|22=>70|3=>3|4=>4|0=>0|n=>n,fun|n=>n⟩
theorem Qmx:Go.Proofs.Lays2.n20 Tryz.prog laysNm220_ren:={
 mixed:=by kernel_rfl
 f20:=Tryz.func281.trans (congrArg some (by kernel_rfl))
 t0:=Tryz.underlying0
 a0:=Tryz.isAgg0
 z0:=Tryz.sizeOf0
 v0:=Tryz.zeroValue0
 t3:=Tryz.underlying3
 a3:=Tryz.isAgg3
 z3:=Tryz.sizeOf3
 v3:=Tryz.zeroValue3
 t4:=Tryz.underlying4
 a4:=Tryz.isAgg4
 z4:=Tryz.sizeOf4
 v4:=Tryz.zeroValue4
 t22:=Tryz.underlying70
 a22:=Tryz.isAgg70
 z22:=Tryz.sizeOf70
 v22:=Tryz.zeroValue70
 i3:=by kernel_rfl }
def laysNm225_ren:Go.Shelf.Ren:=⟨fun|25=>214|31=>262|32=>263|37=>282|n=>n,fun|22=>70|3=>3|4=>4|40=>107|0=>0|n=>n,fun|n=>n⟩
theorem Qox:Go.Proofs.Lays2.n25 Tryz.prog laysNm225_ren:={
 mixed:=by kernel_rfl
 f25:=Tryz.func214.trans (congrArg some (by kernel_rfl))
 f31:=Tryz.func262.trans (congrArg some (by kernel_rfl))
 f32:=Tryz.func263.trans (congrArg some (by kernel_rfl))
 f37:=Tryz.func282.trans (congrArg some (by kernel_rfl))
 t0:=Tryz.underlying0
 a0:=Tryz.isAgg0
 z0:=Tryz.sizeOf0
 v0:=Tryz.zeroValue0
 t3:=Tryz.underlying3
 a3:=Tryz.isAgg3
 z3:=Tryz.sizeOf3
 v3:=Tryz.zeroValue3
 t4:=Tryz.underlying4
 a4:=Tryz.isAgg4
 z4:=Tryz.sizeOf4
 v4:=Tryz.zeroValue4
 t22:=Tryz.underlying70
 a22:=Tryz.isAgg70
 z22:=Tryz.sizeOf70
 v22:=Tryz.zeroValue70
 t40:=Tryz.underlying107
 a40:=Tryz.isAgg107
 z40:=Tryz.sizeOf107
 v40:=Tryz.zeroValue107 }
def laysNm221_ren:Go.Shelf.Ren:=⟨fun|21=>216|27=>264|28=>265|35=>283|39=>301|n=>n,fun|22=>70|3=>3|4=>4|0=>0|n=>n,fun|n=>n⟩
theorem Qnx:Go.Proofs.Lays2.n21 Tryz.prog laysNm221_ren:={
 mixed:=by kernel_rfl
 f21:=Tryz.func216.trans (congrArg some (by kernel_rfl))
 f27:=Tryz.func264.trans (congrArg some (by kernel_rfl))
 f28:=Tryz.func265.trans (congrArg some (by kernel_rfl))
 f35:=Tryz.func283.trans (congrArg some (by kernel_rfl))
 f39:=Tryz.func301.trans (congrArg some (by kernel_rfl))
 t0:=Tryz.underlying0
 a0:=Tryz.isAgg0
 z0:=Tryz.sizeOf0
 v0:=Tryz.zeroValue0
 t3:=Tryz.underlying3
 a3:=Tryz.isAgg3
 z3:=Tryz.sizeOf3
 v3:=Tryz.zeroValue3
 t4:=Tryz.underlying4
 a4:=Tryz.isAgg4
 z4:=Tryz.sizeOf4
 v4:=Tryz.zeroValue4
 t22:=Tryz.underlying70
 a22:=Tryz.isAgg70
 z22:=Tryz.sizeOf70
 v22:=Tryz.zeroValue70
 i3:=by kernel_rfl }
section
open Go.RowKit Go.Shelf Go.Sort
theorem RowIs.le {c:R9z} {w:World} {R R':ORow} {v:Value} (h:RowIs c w R v) (hle:RowLe R R'):RowIs c w R' v:=by
 obtain ⟨xs,h1,h2,h3⟩:=h
 exact ⟨xs,by rw[<-hle.n,<-hle.es];exact h1,hle.els h2,h3⟩
theorem Q48 {c:R9z} (zs:List Int) (hz:zs.length<1000) (w1:World) (v:Value) (h:RowIs c w1 (inR zs) v):
 Calls Tryz.prog 252 #[v] w1 (fun en w2=>en=.returned (.tuple #[])/\RowTo c w1 v (inR (Qoh zs)) v w2):=Qyaa Qe5 zs hz w1 v h
theorem Q7v {c:R9z} (zs:List Int) (hz:zs.length<1000) (w1:World) (v:Value) (h:RowIs c w1 (inR zs) v):
 Calls Tryz.prog 281 #[v] w1 (fun en w2=>∃sv,en=.returned sv/\RowTo c w1 v (inR (Lib.compact zs)) sv w2):=Qg0 Qmx zs hz w1 v h
theorem Q21 {c:R9z} (zs:List Int) (hz:zs.length<1000) (hs:zs.Pairwise (·<=·)) (x:Int) (w1:World) (v:Value) (h:RowIs c w1 (inR zs) v):
 Calls Tryz.prog 214 #[v,.int .i64 x] w1 (Ret w1 (.tuple #[.int .i64 (.ofNat (zs.countP (·<x))),.bool (zs.contains x)])):=Qb6 Qox zs hz hs x w1 v h
theorem Qw0 {c:R9z} (zs:List Int) (hz:zs.length<1000) (i:Nat) (hi:i<=zs.length) (x:Int) (vb:Nat) (t:TypeId) (w1:World) (v:Value) (h:RowIs c w1 (inR zs) v) (hv:w1.heap[vb]? =some (.cells #[.int .i64 x] t (0,0))) (hne:v.ownBlock≠some vb):
 Calls Tryz.prog 216 #[v,.int .i64 (.ofNat i),.slice (some ⟨vb,0,none⟩) 1 1] w1 (fun en w2=>∃sv,en=.returned sv/\RowTo c w1 v (inR (Q7n zs i x)) sv w2):=Q74 Qnx zs hz i hi x vb t w1 v h hv hne
def plC (p:GPlace):List SC:=[.int .i64 p.l,.bool p.d,.int .u8 p.f]
def Qut (p:Nat->GPlace) (n:Nat):List Int:=(List.range n).map fun j=>(p j).l
theorem Qv5 {p:Nat->GPlace} {n:Nat}:RowLe ⟨n,1,fun j=>[.int .i64 (p j).l]⟩ (inR (Qut p n)):=⟨by simp[inR,Qut],rfl,fun j hj=>by
 have hj:j<n:=hj
 have e:(Qut p n).getD j 0=(p j).l:=by simp[Qut,List.getD,List.getElem?_range hj]
 show Qbc _ [.int .i64 ((Qut p n).getD j 0)]
 rw[e];exact Qpa _⟩
theorem Qfp (zs:List Int):∃m f,inR zs=⟨m,1,f⟩/\m=zs.length:=⟨_,_,rfl,rfl⟩
theorem Q9g {p:Prop} (h:p:=by (first|((try with_reducible refine Q8c ?_ ?_ ?_ ?_);all_goals (cbv;(try simp only[true_and,and_true]);(try ((repeat' apply And.intro)<;>(first|trivial|rfl|exact RowLe.rfl' _|decide|(rw[Qda har _ o9];done)|((refine Q0a rfl (fun j hj=>absurd hj (Nat.not_lt_zero _))))|((exact Q7a hzpl hzjn rfl (fun j _=>Qpa _) (Qpa _)))|fail))));done)|fail)):Pf p:=⟨h⟩
theorem Qir (p:Nat->GPlace) (n:Nat) (hn:n<=100) (c:R9z) (w:World) (v:Value) (hR:RowIs c w ⟨n,3,fun j=>plC (p j)⟩ v):
 Calls Tryz.prog 261 #[v] w (RetR w Qra (.pt (.one (.rs 0))) [inR (Q8s (Qut p n))]):=by
 obtain ⟨a,cap,rfl,hX⟩:=hR.one (fun _ _=>rfl)
 have hl1:(Qut p n).length<1000:=by simp[Qut];omega
 have hl2:(Qoh (Qut p n)).length<1000:=by rw[Qeo];exact hl1
 obtain ⟨m1,f1,e1,_⟩:=Qfp (Qoh (Qut p n))
 obtain ⟨m2,f2,e2,_⟩:=Qfp (Q8s (Qut p n))
 have h1 {c:R9z} (w1:World) (v:Value) (h:RowIs c w1 ⟨n,1,fun j=>[.int .i64 (p j).l]⟩ v):Calls Tryz.prog 252 #[v] w1 (fun en w2=>en=.returned (.tuple #[])/\RowTo c w1 v ⟨m1,1,f1⟩ v w2):=by
  rw[<-e1];exact Q48 _ hl1 w1 v (h.le Qv5)
 have h2 {c:R9z} (w1:World) (v:Value) (h:RowIs c w1 ⟨m1,1,f1⟩ v):Calls Tryz.prog 281 #[v] w1 (fun en w2=>∃sv,en=.returned sv/\RowTo c w1 v ⟨m2,1,f2⟩ sv w2):=by
  rw[<-e2];exact Q7v _ hl2 w1 v (by rw[e1];exact h)
 rw[e2]
 have hp2:Qic [(⟨m2,1,f2⟩:ORow)]:=by rw[<-e2];exact Qbf _
 refine Calls.to (c:=Q5r a n cap 3 fun j=>plC (p j)) hp2 rfl ?_
 clear e1 e2 hl1 hl2 hR hp2
 refine Qaa (args:=[.pt (.one (.xs 0 0))]) (c:=(Q5r a n cap 3 fun j=>plC (p j))) Tryz.func261 rfl hX rfl rfl ?_
 obtain ⟨nd,hnd,nt,hnt,ar,har,cm,hcm,mx,hmx,mn,hmn,ar01,ar12,zpl,hzpl,zjn,hzjn,zup,hzup,zmi,hzmi,zdp,hzdp,hT⟩:=Qca
 repeat' (first
  | refine go1 ?_|refine go3 (fun hlt=>?_) (fun hge=>?_)|refine gof ?_
  | exact gor (ha:=Q9g) (hb:=Q9g)
  | refine gob ?_
  | ((with_reducible refine Q4c ?_ ?_);(·first|((rw[hzpl];exact (show i+1<=1073741824 from by omega)))))
  | ((with_reducible apply Qud 3 1);(·(cbv;try rfl)))
  | ((with_reducible refine Qgha (σ:={i:Nat // i<=n}) (zs9 [5,1,9,9]) (fun x=>[zc9 8 x.1]) (fun x=>[]) (fun x=>[(0,⟨x.1,1,fun j=>[.int .i64 (p j).l]⟩)]) (fun x=>n - x.1) ⟨0,by omega⟩ ?_ ?_);(·exact pfp Q9g);(rintro ⟨i,hi⟩ mm hmm))
  | ((with_reducible refine Qfha (⟨i+1,by omega⟩:{i:Nat // i<=n}) ?_ ?_);(·exact msr o9 y9);(·exact pfp Q9g))
  | (((have hi_:i<=n:=hi);(have e_:i=n:=o9);(subst e_);(with_reducible refine Qlw 0 (f:=252) (R:=⟨m1,1,f1⟩) (vs:=fun S B=>[S 0]) rfl (fun S B=>?_) Tryz.call252 ?_ ?_);(·(cbv;try rfl));(·exact fun w1 S B _ _ hM=>h1 w1 (S 0) (hM.row 0 _ rfl))))
  | (((with_reducible refine Qns 0 (f:=281) (R:=⟨m2,1,f2⟩) (vs:=fun S B=>[S 0]) rfl (fun S B=>?_) Tryz.call281 ?_ ?_);(·(cbv;try rfl));(·exact fun w1 S B _ _ hM _=>h2 w1 (S 0) (hM.row 0 _ rfl))))
  | fail)
end
section
open Go.RowKit Go.Shelf Go.Sort
def opU (o:GOper):List Int:=if o.k=1 then [] else [o.p.l]
def rvU (r:GRv):List Int:=if r.k=1 then opU r.a else if r.k=2\/r.k=3 then opU r.a++opU r.b else [r.p.l]
def p1 (a:GPlace):Nat->GPlace:=fun _=>a
def p2 (a b:GPlace):Nat->GPlace:=fun j=>if j=0 then a else b
section
variable {c:R9z}
theorem loc0 (w:World):Calls Tryz.prog 261 #[.slice none 0 0] w (RetR w c (.pt (.one (.rs 0))) [inR (Q8s [])]):=by
 have h:RowIs c w (⟨0,3,fun j=>plC (p1 .zero j)⟩:ORow) (.slice none 0 0):=⟨[],⟨rfl,by simp,.inl ⟨rfl,rfl⟩⟩,fun j hj=>absurd hj (Nat.not_lt_zero _),fun b hb=>by cases hb⟩
 have:=Qir (p1 .zero) 0 o9 c w _ h
 rw[show Qut (p1 .zero) 0=[] from rfl] at this
 exact Calls.to (Qbf _) rfl this
theorem loc1 (a:GPlace) (w:World) (v:Value) (h:RowIs c w (⟨1,3,fun j=>plC (p1 a j)⟩:ORow) v):Calls Tryz.prog 261 #[v] w (RetR w c (.pt (.one (.rs 0))) [inR (Q8s [a.l])]):=by
 have:=Qir (p1 a) 1 o9 c w _ h
 rw[show Qut (p1 a) 1=[a.l] from rfl] at this
 exact Calls.to (Qbf _) rfl this
theorem loc2 (a b:GPlace) (w:World) (v:Value) (h:RowIs c w (⟨2,3,fun j=>plC (p2 a b j)⟩:ORow) v):Calls Tryz.prog 261 #[v] w (RetR w c (.pt (.one (.rs 0))) [inR (Q8s [a.l,b.l])]):=by
 have:=Qir (p2 a b) 2 o9 c w _ h
 rw[show Qut (p2 a b) 2=[a.l,b.l] from rfl] at this
 exact Calls.to (Qbf _) rfl this
end
theorem Qi1 {a:GPlace} {cs:List SC} (h:Qte cs (0+0 * 3) 3=plC a):RowLe ⟨1,3,fun j=>Qte cs (0+j * 3) 3⟩ ⟨1,3,fun j=>plC (p1 a j)⟩:=⟨rfl,rfl,fun j hj=>by
 have hj:j<1:=hj
 obtain rfl:j=0:=by omega
 show Qbc (Qte cs (0+0 * 3) 3) (plC a)
 rw[h];exact Qpa _⟩
theorem Qr8 {pl:Nat->Nat->Nat} {jn:Nat->(Nat->List SC)->(Nat->List SC)->Nat->List SC} (hpl:pl=fun x y=>x+y) (hjn:jn=rJn) {al bl af bf:Int} {ad bd:Bool}:RowLe ⟨pl 1 1,3,jn 1 (fun j=>Qte [.int .i64 al,.bool ad,.int .u8 af] (0+j * 3) 3) (fun j=>Qte [.int .i64 bl,.bool bd,.int .u8 bf] (0+j * 3) 3)⟩ ⟨2,3,fun j=>plC (p2 ⟨al,ad,af⟩ ⟨bl,bd,bf⟩ j)⟩:=by
 refine Q7a hpl hjn rfl (fun j hj=>?_) (Qpa _)
 obtain rfl:j=0:=by omega
 exact Qpa _
def opK (o:GOper):Prop:=o.k=1\/o.k=2\/o.k=3
def rvK (r:GRv):Prop:=(r.k=1/\opK r.a)\/((r.k=2\/r.k=3)/\opK r.a/\opK r.b)\/r.k=4\/r.k=5
theorem Q65 (r:GRv) (hs:r.ok=true) (hk:rvK r) (w:World):
 Calls Tryz.prog 213 #[r.val] w (RetR w Qra (.tup [.one (.rs 0),.one (.int .i64 0)]) [inR (Q8s (rvU r))]):=by
 have h1 (wc:World):=Q1z r.k r.op r.bo r.a.k r.a.n r.a.p.l r.a.p.f r.b.k r.b.n r.b.p.l r.b.p.f r.p.l r.p.f r.a.p.d r.b.p.d r.p.d wc
 have e1:(GRv.mk r.k r.op r.bo ⟨r.a.k,r.a.n,⟨r.a.p.l,r.a.p.d,r.a.p.f⟩⟩ ⟨r.b.k,r.b.n,⟨r.b.p.l,r.b.p.d,r.b.p.f⟩⟩ ⟨r.p.l,r.p.d,r.p.f⟩).ok=true:=hs
 rw[e1] at h1
 clear e1 hs
 have loc0' (e:rvU r=[]) (wc:World):=loc0 (c:=Qra) wc
 have loc1' (a:GPlace) (e:rvU r=[a.l]) (wc:World) (v:Value) (h:RowIs Qra wc ⟨1,3,fun j=>plC (p1 a j)⟩ v):=loc1 a wc v h
 have loc2' (a b:GPlace) (e:rvU r=[a.l,b.l]) (wc:World) (v:Value) (h:RowIs Qra wc ⟨2,3,fun j=>plC (p2 a b j)⟩ v):=loc2 a b wc v h
 obtain ⟨m,f,e2,_⟩:=Qfp (Q8s (rvU r))
 have loc0' (e:rvU r=[]) (wc:World):Calls Tryz.prog 261 #[.slice none 0 0] wc (RetR wc Qra (.pt (.one (.rs 0))) [⟨m,1,f⟩]):=by rw[<-e2,e];exact loc0' e wc
 have loc1' (a:GPlace) (e:rvU r=[a.l]) (wc:World) (v:Value) (h:RowIs Qra wc ⟨1,3,fun j=>plC (p1 a j)⟩ v):Calls Tryz.prog 261 #[v] wc (RetR wc Qra (.pt (.one (.rs 0))) [⟨m,1,f⟩]):=by rw[<-e2,e];exact loc1' a e wc v h
 have loc2' (a b:GPlace) (e:rvU r=[a.l,b.l]) (wc:World) (v:Value) (h:RowIs Qra wc ⟨2,3,fun j=>plC (p2 a b j)⟩ v):Calls Tryz.prog 261 #[v] wc (RetR wc Qra (.pt (.one (.rs 0))) [⟨m,1,f⟩]):=by rw[<-e2,e];exact loc2' a b e wc v h
 rw[e2]
 clear e2
 unfold rvU opU at loc0' loc1' loc2'
 obtain ⟨rk,ro,rb,⟨ak,an,⟨al,ad,af⟩⟩,⟨ek,en,⟨el,ed,ef⟩⟩,⟨gl,gd,gf⟩⟩:=r
 unfold rvK opK at hk
 simp only at h1 hk loc0' loc1' loc2'
 rcases hk with ⟨rfl,hx⟩|⟨rfl|rfl,hx,hy⟩|rfl|rfl
 · rcases hx with rfl|rfl|rfl
   · replace loc0':=loc0' rfl
     clear loc1' loc2'
     refine Qaa (args:=[.pt (.agg (GRv.sc _))]) (c:=Qra) Tryz.func213 rfl (Qga _) rfl rfl ?_
     obtain ⟨nd,hnd,nt,hnt,ar,har,cm,hcm,mx,hmx,mn,hmn,ar01,ar12,zpl,hzpl,zjn,hzjn,zup,hzup,zmi,hzmi,zdp,hzdp,hT⟩:=Qca
     repeat' (first
      | (refine gov ?_;(try simp only[ar01,ar12]))
      | refine goa ?_|exact go0|refine gof ?_
      | (refine' Qiha Tryz.call167 ?_ ?_;rotate_left;(·intro wc hbc hxc;exact h1 wc))
      | refine Qhha Tryz.func221 Tryz.results221 Tryz.call221 ?_
      | refine Qhha Tryz.func259 Tryz.results259 Tryz.call259 ?_
      | ((with_reducible apply Qoa (hf:=Tryz.call261));(·intro S;cbv;try rfl);(·intro wc S hbc hxc hrc;exact loc0' wc);(·rfl))
      | (with_reducible apply Qqa 4)
      | fail)
   all_goals
    replace loc1':=loc1' ⟨al,ad,af⟩ rfl
    clear loc0' loc2'
    refine Qaa (args:=[.pt (.agg (GRv.sc _))]) (c:=Qra) Tryz.func213 rfl (Qga _) rfl rfl ?_
    obtain ⟨nd,hnd,nt,hnt,ar,har,cm,hcm,mx,hmx,mn,hmn,ar01,ar12,zpl,hzpl,zjn,hzjn,zup,hzup,zmi,hzmi,zdp,hzdp,hT⟩:=Qca
    repeat' (first
     | (refine gov ?_;(try simp only[ar01,ar12]))
     | refine goa ?_|exact go0|refine gof ?_
     | refine gob ?_
     | ((with_reducible refine Q4c ?_ ?_);(·first|((rw[hzpl];exact (show 1+1<=1073741824 from by decide)))))
     | (refine' Qiha Tryz.call167 ?_ ?_;rotate_left;(·intro wc hbc hxc;exact h1 wc))
     | refine Qhha Tryz.func221 Tryz.results221 Tryz.call221 ?_
     | refine Qhha Tryz.func259 Tryz.results259 Tryz.call259 ?_
     | refine Qhha Tryz.func260 Tryz.results260 Tryz.call260 ?_
     | ((with_reducible apply Qoa (hf:=Tryz.call261));(·intro S;cbv;try rfl);(·intro wc S hbc hxc hrc;exact loc1' wc (S 0) ((hrc 0 _ rfl).le (Qi1 rfl)));(·rfl))
     | (with_reducible apply Qqa 4)
     | fail)
 · rcases hx with rfl|rfl|rfl<;>rcases hy with rfl|rfl|rfl
   all_goals
    first|replace loc0':=loc0' rfl|clear loc0'
    first|replace loc1':=loc1' ⟨al,ad,af⟩ rfl|replace loc1':=loc1' ⟨el,ed,ef⟩ rfl|clear loc1'
    first|replace loc2':=loc2' ⟨al,ad,af⟩ ⟨el,ed,ef⟩ rfl|clear loc2'
    refine Qaa (args:=[.pt (.agg (GRv.sc _))]) (c:=Qra) Tryz.func213 rfl (Qga _) rfl rfl ?_
    obtain ⟨nd,hnd,nt,hnt,ar,har,cm,hcm,mx,hmx,mn,hmn,ar01,ar12,zpl,hzpl,zjn,hzjn,zup,hzup,zmi,hzmi,zdp,hzdp,hT⟩:=Qca
    repeat' (first
     | (refine gov ?_;(try simp only[ar01,ar12]))
     | refine goa ?_|exact go0|refine gof ?_
     | refine gob ?_
     | ((with_reducible refine Q4c ?_ ?_);(·first|((rw[hzpl];exact (show 1+1<=1073741824 from by decide)))))
     | (refine' Qiha Tryz.call167 ?_ ?_;rotate_left;(·intro wc hbc hxc;exact h1 wc))
     | refine Qhha Tryz.func221 Tryz.results221 Tryz.call221 ?_
     | refine Qhha Tryz.func259 Tryz.results259 Tryz.call259 ?_
     | refine Qhha Tryz.func260 Tryz.results260 Tryz.call260 ?_
     | ((with_reducible apply Qoa (hf:=Tryz.call261));(·intro S;cbv;try rfl);(·intro wc S hbc hxc hrc;exact loc0' wc);(·rfl))
     | ((with_reducible apply Qoa (hf:=Tryz.call261));(·intro S;cbv;try rfl);(·intro wc S hbc hxc hrc;exact loc1' wc (S 0) ((hrc 0 _ rfl).le (Qi1 rfl)));(·rfl))
     | ((with_reducible apply Qoa (hf:=Tryz.call261));(·intro S;cbv;try rfl);(·intro wc S hbc hxc hrc;exact loc2' wc (S 0) ((hrc 0 _ rfl).le (Qr8 hzpl hzjn)));(·rfl))
     | (with_reducible apply Qqa 4)
     | fail)
 · rcases hx with rfl|rfl|rfl<;>rcases hy with rfl|rfl|rfl
   all_goals
    first|replace loc0':=loc0' rfl|clear loc0'
    first|replace loc1':=loc1' ⟨al,ad,af⟩ rfl|replace loc1':=loc1' ⟨el,ed,ef⟩ rfl|clear loc1'
    first|replace loc2':=loc2' ⟨al,ad,af⟩ ⟨el,ed,ef⟩ rfl|clear loc2'
    refine Qaa (args:=[.pt (.agg (GRv.sc _))]) (c:=Qra) Tryz.func213 rfl (Qga _) rfl rfl ?_
    obtain ⟨nd,hnd,nt,hnt,ar,har,cm,hcm,mx,hmx,mn,hmn,ar01,ar12,zpl,hzpl,zjn,hzjn,zup,hzup,zmi,hzmi,zdp,hzdp,hT⟩:=Qca
    repeat' (first
     | (refine gov ?_;(try simp only[ar01,ar12]))
     | refine goa ?_|exact go0|refine gof ?_
     | refine gob ?_
     | ((with_reducible refine Q4c ?_ ?_);(·first|((rw[hzpl];exact (show 1+1<=1073741824 from by decide)))))
     | (refine' Qiha Tryz.call167 ?_ ?_;rotate_left;(·intro wc hbc hxc;exact h1 wc))
     | refine Qhha Tryz.func221 Tryz.results221 Tryz.call221 ?_
     | refine Qhha Tryz.func259 Tryz.results259 Tryz.call259 ?_
     | refine Qhha Tryz.func260 Tryz.results260 Tryz.call260 ?_
     | ((with_reducible apply Qoa (hf:=Tryz.call261));(·intro S;cbv;try rfl);(·intro wc S hbc hxc hrc;exact loc0' wc);(·rfl))
     | ((with_reducible apply Qoa (hf:=Tryz.call261));(·intro S;cbv;try rfl);(·intro wc S hbc hxc hrc;exact loc1' wc (S 0) ((hrc 0 _ rfl).le (Qi1 rfl)));(·rfl))
     | ((with_reducible apply Qoa (hf:=Tryz.call261));(·intro S;cbv;try rfl);(·intro wc S hbc hxc hrc;exact loc2' wc (S 0) ((hrc 0 _ rfl).le (Qr8 hzpl hzjn)));(·rfl))
     | (with_reducible apply Qqa 4)
     | fail)
 all_goals
  replace loc1':=loc1' ⟨gl,gd,gf⟩ rfl
  clear loc0' loc2'
  refine Qaa (args:=[.pt (.agg (GRv.sc _))]) (c:=Qra) Tryz.func213 rfl (Qga _) rfl rfl ?_
  obtain ⟨nd,hnd,nt,hnt,ar,har,cm,hcm,mx,hmx,mn,hmn,ar01,ar12,zpl,hzpl,zjn,hzjn,zup,hzup,zmi,hzmi,zdp,hzdp,hT⟩:=Qca
  repeat' (first
   | (refine gov ?_;(try simp only[ar01,ar12]))
   | refine goa ?_|exact go0
   | refine gob ?_
   | ((with_reducible refine Q4c ?_ ?_);(·first|((rw[hzpl];exact (show 1+1<=1073741824 from by decide)))))
   | (refine' Qiha Tryz.call167 ?_ ?_;rotate_left;(·intro wc hbc hxc;exact h1 wc))
   | refine Qhha Tryz.func221 Tryz.results221 Tryz.call221 ?_
   | refine Qhha Tryz.func259 Tryz.results259 Tryz.call259 ?_
   | ((with_reducible apply Qoa (hf:=Tryz.call261));(·intro S;cbv;try rfl);(·intro wc S hbc hxc hrc;exact loc1' wc (S 0) ((hrc 0 _ rfl).le (Qi1 rfl)));(·rfl))
   | (with_reducible apply Qqa 4)
   | fail)
end
section
open Go.RowKit Go.Shelf Go.Sort
set_option maxRecDepth 100000
theorem Qoj {o:GOper} (h:o.ok=true):opK o:=by
 simp only[GOper.ok,Bool.or_eq_true,Bool.and_eq_true,beq_iff_eq] at h
 unfold opK;omega
theorem Qkt {r:GRv} (h:r.ok=true):rvK r:=by
 simp only[GRv.ok,Bool.or_eq_true,Bool.and_eq_true,beq_iff_eq] at h
 rcases h with (((h|h)|h)|h)|h
 · exact .inl ⟨h.1.1.1.1.1,Qoj h.1.1.1.1.2⟩
 · exact .inr (.inl ⟨.inl h.1.1.1.1.1.1,Qoj h.1.1.1.1.1.2,Qoj h.1.1.1.1.2⟩)
 · exact .inr (.inl ⟨.inr h.1.1.1.1.1,Qoj h.1.1.1.1.2,Qoj h.1.1.1.2⟩)
 · exact .inr (.inr (.inl o9))
 · exact .inr (.inr (.inr o9))
theorem Qq8 (p:GPlace) (hf:0<=p.f) (w:World):
 Calls Tryz.prog 215 #[.agg #[.int .i64 p.l,.bool p.d,.int .u8 p.f]] w (Ret w (.bool (!wholeP p))):=by
 obtain ⟨z,hz⟩:=x9 ( !wholeP p)
 obtain ⟨l,d,f⟩:=p
 simp only at hf⊢
 rw[<-hz]
 refine Qaa (args:=[.pt (.agg [.int .i64 l,.bool d,.int .u8 f])]) (c:=Qra) Tryz.func215 rfl (Qga _) rfl rfl ?_
 obtain ⟨nd,hnd,nt,hnt,ar,har,cm,hcm,mx,hmx,mn,hmn,ar01,ar12,zpl,hzpl,zjn,hzjn,zup,hzup,zmi,hzmi,zdp,hzdp,hT⟩:=Qca
 repeat' (first
  | refine go1 ?_|refine go2 (fun h=>?_) (fun h=>?_)
  | fail)
 all_goals
  subst hnd hnt hcm
  simp only[wholeP] at hz
  subst hz
  simp_all[rCm]
 all_goals (rw[Bool.eq_iff_iff];simp;omega)
def stR (s:GStmt):GRv:=if s.k=1 then s.r else ⟨1,0,0,s.a,.zero,.zero⟩
def stL (s:GStmt):List Int:=Q8s (rvU (stR s))
def stU (s:GStmt):List Int:=if s.k=3 then [] else if (!wholeP s.p&&!(stL s).contains s.p.l)=true then Q7n (stL s) ((stL s).countP (·<s.p.l)) s.p.l else stL s
def stS (s:GStmt):Int:=if s.k=3 then s.l else if (decide (s.k=1)&&wholeP s.p)=true then s.p.l else -1
theorem Q8y (r:GRv):(rvU r).length<=2:=by
 have h:∀o,(opU o).length<=1:=fun o=>by unfold opU;split<;>simp
 have h1:=h r.a
 have h2:=h r.b
 unfold rvU
 split
 · omega
 · split
   · rw[List.length_append];omega
   · simp
theorem Qh6 (s:GStmt):(stL s).length<=2:=Nat.le_trans (Qyx _) (Q8y _)
theorem Qn6 (s:GStmt) (hs:s.ok=true) (hf:0<=s.p.f) (w:World):
 Calls Tryz.prog 150 #[s.val] w (RetR w Qra (.tup [.one (.rs 0),.one (.int .i64 0)]) [inR (stU s)]):=by
 have h1 (wc:World):=Qxr s wc
 rw[hs] at h1
 have h5 (wc:World):=Qq8 s.p hf wc
 have hk:s.k=1\/s.k=2\/s.k=3\/s.k=4:=by
  simp only[GStmt.ok,Bool.or_eq_true,Bool.and_eq_true,beq_iff_eq] at hs
  omega
 by_cases h3:s.k=3
 · have e:stU s=[]:=by unfold stU;rw[if_pos h3]
   rw[e]
   clear e hk h5
   obtain ⟨k,⟨ql,qd,qf⟩,⟨rk,rop,rbo,⟨ak,an,⟨al,ad,af⟩⟩,⟨bk,bn,⟨bl,bd,bf⟩⟩,⟨pl,pd,pf⟩⟩,⟨ck,cn,⟨cl,cd,cf⟩⟩,l⟩:=s
   simp only at h3 h1
   subst h3
   clear hs
   have hn:NilLe (inR []):=⟨rfl⟩
   refine Qaa (args:=[.pt (.agg (GStmt.sc _))]) (c:=Qra) Tryz.func150 rfl (Qga _) rfl rfl ?_
   obtain ⟨nd,hnd,nt,hnt,ar,har,cm,hcm,mx,hmx,mn,hmn,ar01,ar12,zpl,hzpl,zjn,hzjn,zup,hzup,zmi,hzmi,zdp,hzdp,hT⟩:=Qca
   repeat' (first
    | refine goa ?_|refine go2 (fun h=>?_) (fun h=>?_)|exact go0|refine god ?_|refine gof ?_|refine Qvha ?_ ?_
    | (refine' Qiha Tryz.call107 ?_ ?_;rotate_left;(·intro wc hbc hxc;exact h1 wc))
    | refine Qhha Tryz.func212 Tryz.results212 Tryz.call212 ?_
    | fail)
   all_goals exact absurd h (by rw[hnt];decide)
 have hr:(stR s).ok=true/\(s.k=1\/s.p=.zero):=by
  simp only[GStmt.ok,Bool.or_eq_true,Bool.and_eq_true,beq_iff_eq] at hs
  unfold stR
  rcases hs with (hs|hs)|hs
  · rw[if_pos hs.1.1.1.1];exact ⟨hs.1.1.2,.inl hs.1.1.1.1⟩
  · rw[if_neg o9]
    refine ⟨?_,.inr (GPlace.eqB_iff.1 hs.1.1.1.2)⟩
    have ha:=hs.1.2
    simp only[GRv.ok,ha,GPlace.eqB_self]
    rw[show GOper.zero.eqB .zero=true from by decide];rfl
  · exact absurd hs.1.1.1.1.1 h3
 have h2 (wc:World):=Q65 (stR s) hr.1 (Qkt hr.1) wc
 have hl2:(stL s).length<1000:=by have:=Qh6 s;omega
 have hso:(stL s).Pairwise (·<=·):=Qxu _
 obtain ⟨m,f,e1,_⟩:=Qfp (stL s)
 obtain ⟨i0,hi0⟩:=x9 ((stL s).countP (·<s.p.l))
 obtain ⟨b0,hb0⟩:=x9 ((stL s).contains s.p.l)
 have hi2:i0<=(stL s).length:=by rw[hi0];exact List.countP_le_length
 obtain ⟨m',f',e2,_⟩:=Qfp (Q7n (stL s) i0 s.p.l)
 have e0:inR (Q8s (rvU (stR s)))=⟨m,1,f⟩:=e1
 rw[e0] at h2
 have h3c {c:R9z} (wc:World) (v:Value) (h:RowIs c wc ⟨m,1,f⟩ v):Calls Tryz.prog 214 #[v,.int .i64 s.p.l] wc (Ret wc (.tuple #[.int .i64 (.ofNat i0),.bool b0])):=by
  rw[hi0,hb0];exact Q21 _ hl2 hso _ wc v (by rw[e1];exact h)
 have h4 {c:R9z} (wc:World) (v:Value) (h:RowIs c wc ⟨m,1,f⟩ v) (vb:Nat) (t:TypeId) (hv:wc.heap[vb]? =some (.cells #[.int .i64 s.p.l] t (0,0))) (hne:v.ownBlock≠some vb):Calls Tryz.prog 216 #[v,.int .i64 (.ofNat i0),.slice (some ⟨vb,0,none⟩) 1 1] wc (fun en w2=>∃sv,en=.returned sv/\RowTo c wc v ⟨m',1,f'⟩ sv w2):=by
  rw[<-e2];exact Qw0 _ hl2 i0 hi2 _ vb t wc v (by rw[e1];exact h) hv hne
 have eU:stU s=if (!wholeP s.p&&!b0)=true then Q7n (stL s) i0 s.p.l else stL s:=by
  unfold stU;rw[if_neg h3,hb0,hi0]
 obtain ⟨z,hz⟩:=x9 ( !wholeP s.p)
 rw[<-hz] at h5 eU
 rw[eU]
 have hp2:Qic [(⟨m,1,f⟩:ORow)]:=by rw[<-e1];exact Qbf _
 have hR:inR (if (z&&!b0)=true then Q7n (stL s) i0 s.p.l else stL s)=if (z&&!b0)=true then ⟨m',1,f'⟩ else ⟨m,1,f⟩:=by
  split
  · exact e2
  · exact e1
 rw[hR]
 clear hR eU hz e0 e1 e2 hb0 hi0 hi2 hl2 hso hp2
 unfold stR at h2
 have hk:s.k=1\/(s.k=2\/s.k=4)/\s.p=.zero:=by
  rcases hr.2 with h|h
  · exact .inl h
  · by_cases g:s.k=1
    · exact .inl g
    · exact .inr ⟨by omega,h⟩
 clear hr hs hf
 obtain ⟨k,⟨ql,qd,qf⟩,⟨rk,rop,rbo,⟨ak,an,⟨al,ad,af⟩⟩,⟨bk,bn,⟨bl,bd,bf⟩⟩,⟨pl,pd,pf⟩⟩,⟨ck,cn,⟨cl,cd,cf⟩⟩,l⟩:=s
 simp only[GPlace.zero,GPlace.mk.injEq] at h1 h2 h3c h4 h5 hk
 clear h3
 rcases hk with rfl|⟨rfl|rfl,rfl,rfl,rfl⟩
 all_goals
  simp only[reduceIte,show ¬(2:Int)=1 by decide,show ¬(4:Int)=1 by decide] at h2
  cases z<;>cases b0
 all_goals
  refine Qaa (args:=[.pt (.agg (GStmt.sc _))]) (c:=Qra) Tryz.func150 rfl (Qga _) rfl rfl ?_
  obtain ⟨nd,hnd,nt,hnt,ar,har,cm,hcm,mx,hmx,mn,hmn,ar01,ar12,zpl,hzpl,zjn,hzjn,zup,hzup,zmi,hzmi,zdp,hzdp,hT⟩:=Qca
  repeat' (first
   | refine goa ?_|refine go2 (fun h=>?_) (fun h=>?_)|exact go0|refine god ?_|refine gof ?_|refine Qvha ?_ ?_
   | (refine' Qiha Tryz.call107 ?_ ?_;rotate_left;(·intro wc hbc hxc;exact h1 wc))
   | refine Qhha Tryz.func212 Tryz.results212 Tryz.call212 ?_
   | ((with_reducible apply Qoa (hf:=Tryz.call213));(·intro S;cbv;try rfl);(·intro wc S hbc hxc hrc;exact h2 wc);(·rfl))
   | ((with_reducible apply Qbp (hf:=Tryz.call214));(·intro S;cbv;try rfl);(·intro wc S hbc hxc hrc;exact h3c wc (S 0) (hrc 0 _ rfl)))
   | (refine' Qiha Tryz.call215 ?_ ?_;rotate_left;(·intro wc hbc hxc;exact h5 wc))
   | (((with_reducible refine Qns 0 (f:=216) (R:=⟨m',1,f'⟩) (vs:=fun S B=>[S 0,.int .i64 (.ofNat i0),.slice (some ⟨B 4,0,none⟩) 1 1]) rfl (fun S B=>?_) Tryz.call216 ?_ ?_);(·(cbv;try rfl));(·exact fun w1 S B _ _ hM hB=>(hM.blk 4 _ _ rfl rfl).2.elim fun t ht=>h4 w1 (S 0) (hM.row 0 _ rfl) (B 4) t ht (hB 4 ⟨_,rfl⟩))))
   | fail)
 all_goals first|exact absurd h (by rw[hnt];decide)|trace_state
end
end Go.Proofs.YtemnfncbgalljaaGreat
