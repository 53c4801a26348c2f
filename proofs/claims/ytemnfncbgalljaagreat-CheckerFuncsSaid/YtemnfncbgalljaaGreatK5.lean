/- Lemmas. No condition. -/
import Derived.Test.YtemnfncbgalljaaGreatClR
import Derived.Test.YtemnfncbgalljaaGreatClQ
namespace Go.Proofs.YtemnfncbgalljaaGreat
open Go.RowKit
set_option linter.all false
set_option maxHeartbeats 64000000
section
set_option maxRecDepth 100000
theorem Qjea (L:List GClash):Qic [claR L]:=⟨fun _ _=>rfl,trivial⟩
theorem Qnga (F:GFun) (w:World) (hF:F.At w) (hK:F.Ty8) (hO:F.Ok) (hE:F.Fe):
 Calls Tryz.prog 36 #[F.val] w (RetR w (Qwa F) (.tup [.one (.rs 0),.one (.int .i64 0)]) [claR (claL F)]):=by
 have h1 wc (hk:KB ⟨w,[]⟩ wc):=Q2p F wc (hF.later hk) hK
 rw[Qdj,show fchkV F=0 from hO] at h1
 have h2 wc (hk:KB ⟨w,[]⟩ wc) {c:R9z}:=Calls.to (c':=c) (Qjea _) rfl (Qifa F wc (hF.later hk) hK hO hE)
 have hpl:=Qjea (claL F)
 generalize claR (claL F)=R at h2 hpl⊢
 clear hK hO hE
 cases F
 obtain ⟨hX,hl,hb,hs,hj⟩:=hF
 simp only at hl hb hs hj
 refine Qaa (args:=[.pt (.agg (GFun.dat _))]) (c:=(Qwa _)) Tryz.func36 rfl hX rfl rfl ?_
 obtain ⟨_,_,_,hnt,_,har,_,hcm,_,_,_,_,ar01,ar12,_,hzpl,_,_,_,_,_,_,_,_,hT⟩:=Qca
 repeat' (first
  | refine goa ?_|refine go3 (fun hlt=>?_) (fun hge=>?_)|refine go2 (fun h=>?_) (fun h=>?_)|exact go0|refine Qz9 ?_|refine gof ?_|refine gob ?_|refine Qvha ?_ ?_
  | (refine' Qiha Tryz.call35 ?_ ?_;rotate_left;(·intro wc hbc hxc;exact h1 wc hbc))
  | ((with_reducible apply Qoa (hf:=Tryz.call76));(·intro S;cbv;try rfl);(·intro wc S hbc hxc hrc;exact h2 wc hbc);(·rfl))
  | fail)
theorem Q8ea (F:GFun) (w:World) (hF:F.At w) (hK:F.Ty8) (hz:rchkV F≠0):
 Calls Tryz.prog 36 #[F.val] w (Ret w (.tuple #[.slice none 0 0,.int .i64 (rchkV F)])):=by
 have h1 wc (hk:KB ⟨w,[]⟩ wc):=Q2p F wc (hF.later hk) hK
 generalize rchkV F=z at h1 hz⊢
 have hq:decide (z=0)=false:=decide_eq_false hz
 clear hz hK
 cases F
 obtain ⟨hX,hl,hb,hs,hj⟩:=hF
 simp only at hl hb hs hj
 refine Qaa (args:=[.pt (.agg (GFun.dat _))]) (c:=(Qwa _)) Tryz.func36 rfl hX rfl rfl ?_
 obtain ⟨_,_,_,hnt,_,har,_,hcm,_,_,_,_,ar01,ar12,_,hzpl,_,_,_,_,_,_,_,_,hT⟩:=Qca
 repeat' (first
  | refine goa ?_|refine go3 (fun hlt=>?_) (fun hge=>?_)|refine go2 (fun h=>?_) (fun h=>?_)|exact go0|refine goz ?_|refine Qvha ?_ ?_
  | (refine' Qiha Tryz.call35 ?_ ?_;rotate_left;(·intro wc hbc hxc;exact h1 wc hbc))
  | fail)
 all_goals rfl
end
section
set_option maxRecDepth 100000
theorem Qoga (L:List GClash) (hn:L.length<=1073741824) (c:R9z) (w:World) (v v':Value) (hR:RowIs c w (claR L) v) (hR':RowIs c w (claR L) v'):
 Calls Tryz.prog 37 #[v,v'] w (Ret w (.bool true)):=by
 obtain ⟨a,cap,a',cap',rfl,rfl,hX⟩:=hR.twoS hR' (fun j _=>rfl) (fun j _=>rfl)
 clear hR hR'
 simp only[claR] at hX⊢
 obtain ⟨g,hg⟩:=x9 (fun j=>L.getD j .zero:Nat->GClash)
 obtain ⟨n,hn'⟩:=x9 (L.length)
 have hX:XOk ⟨[],Qxga a n cap 7 (fun j=>(g j).sc) a' n cap' 7 (fun j=>(g j).sc),[]⟩ ⟨w,[]⟩:=by rw[hg,hn'];exact hX
 rw[<-hn'] at hn⊢
 clear hg hn'
 refine Qaa (args:=[.pt (.one (.xs 0 0)),.pt (.one (.xs 1 0))]) (c:=(Qxga a n cap 7 (fun j=>(g j).sc) a' n cap' 7 (fun j=>(g j).sc))) Tryz.func37 rfl hX rfl rfl ?_
 obtain ⟨_,hnd,_,hnt,_,har,_,hcm,_,_,_,_,ar01,ar12,_,hzpl,_,_,_,_,_,_,_,_,hT⟩:=Qca
 repeat' (first
  | refine goa ?_|refine go3 (fun hlt=>?_) (fun hge=>?_)|refine go2 (fun h=>?_) (fun h=>?_)|exact go0|refine goz ?_|refine Qvha ?_ ?_
  | ((with_reducible refine Qgha (σ:={i:Nat // i<=n}) (zs9 [4,1,11,15]) (fun x=>[zc9 5 x.1]) (fun x=>[]) (fun x=>[]) (fun x=>n - x.1) ⟨0,by omega⟩ ?_ ?_);(·exact pfp Qdb);(rintro ⟨i,hi⟩ mm hmm))
  | ((with_reducible refine Qfha ⟨i+1,by omega⟩ ?_ ?_);(·exact msr o9 y9);(·exact pfp Qdb))
  | fail)
 all_goals (try rfl)
 all_goals (exfalso;subst hnd hnt;simp_all)
theorem Qkfa (w:World):
 Calls Tryz.prog 37 #[.slice none 0 0,.slice none 0 0] w (Ret w (.bool true)):=by
 refine Qaa (args:=[.pt (.one (.val (.slice none 0 0))),.pt (.one (.val (.slice none 0 0)))]) (c:=Qra) Tryz.func37 rfl (Qga _) rfl rfl ?_
 obtain ⟨_,_,_,hnt,_,har,_,hcm,_,_,_,_,ar01,ar12,_,hzpl,_,_,_,_,_,_,_,_,hT⟩:=Qca
 repeat' (first
  | (refine gov ?_;(try simp only[ar01,ar12]))
  | refine goa ?_|refine go3 (fun hlt=>?_) (fun hge=>?_)|refine go2 (fun h=>?_) (fun h=>?_)|exact go0|refine goz ?_|refine Qvha ?_ ?_
  | (with_reducible apply Qqa 1)
  | fail)
 all_goals rfl
theorem Qofa (F:GFun) (w:World) (hF:F.At w) (hK:F.Ty8) (hE:F.Fe):
 Calls Tryz.prog 10 #[F.val] w (Ret w (.bool true)):=by
 have h1 wc (hk:KB ⟨w,[]⟩ wc):=Qv7 F wc (hF.later hk)
 have h2 wc (hk:KB ⟨w,[]⟩ wc):=gfC F wc (hF.later hk)
 generalize greatB F=q1 at h1
 generalize gfB F=q2 at h2
 by_cases hO:fchkV F=0
 case neg=>
  have h3 wc (hk:KB ⟨w,[]⟩ wc):=Qqfa F wc (hF.later hk) hO
  have h4 wc (hk:KB ⟨w,[]⟩ wc):=Q8ea F wc (hF.later hk) hK (by rw[Qdj];exact hO)
  rw[Qdj] at h4
  generalize fchkV F=z at h3 h4
  clear hK hO hE
  obtain ⟨pa,un,lA,ln,lc,lk,lt,bA,bn,bc,sA,sn,sc,s,jA,jn,jc,ja,jk,jo,jf,jx,je,jd⟩:=F
  obtain ⟨hX,hl,hb,hs,hj⟩:=hF
  simp only at hl hb hs hj
  refine Qaa (args:=[.pt (.agg (GFun.dat _))]) (c:=(Qwa _)) Tryz.func10 rfl hX rfl rfl ?_
  obtain ⟨_,_,_,hnt,_,har,_,hcm,_,_,_,_,ar01,ar12,_,hzpl,_,_,_,_,_,_,_,_,hT⟩:=Qca
  repeat' (first
   | refine goa ?_|refine go3 (fun hlt=>?_) (fun hge=>?_)|refine go2 (fun h=>?_) (fun h=>?_)|exact go0|refine goz ?_|refine Qvha ?_ ?_
   | ((with_reducible apply Qua (hf:=Tryz.call25));(·(cbv;try rfl));(·intro wc hbc hxc;exact h1 wc hbc);intro z hz)
   | ((with_reducible apply Qeb (hf:=Tryz.call25));(·(cbv;try rfl));(·intro wc hbc hxc;exact h1 wc hbc);intro z hz)
   | ((with_reducible apply Qua (hf:=Tryz.call26));(·(cbv;try rfl));(·intro wc hbc hxc;exact h2 wc hbc);intro z hz)
   | ((with_reducible apply Qeb (hf:=Tryz.call26));(·(cbv;try rfl));(·intro wc hbc hxc;exact h2 wc hbc);intro z hz)
   | (refine' Qiha Tryz.call20 ?_ ?_;rotate_left;(·intro wc hbc hxc;exact h3 wc hbc))
   | (refine' Qiha Tryz.call36 ?_ ?_;rotate_left;(·intro wc hbc hxc;exact h4 wc hbc))
   | (refine' Qiha Tryz.call37 ?_ ?_;rotate_left;(·intro wc hbc hxc;exact Qkfa wc))
   | fail)
  all_goals (refine Qtb ?_;simp_all)
 have hO:F.Ok:=hO
 have h3 wc (hk:KB ⟨w,[]⟩ wc) {c:R9z}:=Calls.to (c':=c) (Qsea _) rfl (Qzga F wc (hF.later hk) hO hE)
 have h4 wc (hk:KB ⟨w,[]⟩ wc) {c:R9z}:=Calls.to (c':=c) (Qsea _) rfl (Qnga F wc (hF.later hk) hK hO hE)
 have hlen:=Qlha hO
 have h8 (wc:World) (c:R9z) (v v':Value):=Qoga (claL F) hlen c wc v v'
 have hpl:=Qsea (claL F)
 obtain ⟨R,hR⟩:=x9 (claR (claL F))
 rw[<-hR] at h3 h4 h8 hpl
 clear hR hO hK hE hlen
 obtain ⟨pa,un,lA,ln,lc,lk,lt,bA,bn,bc,sA,sn,sc,s,jA,jn,jc,ja,jk,jo,jf,jx,je,jd⟩:=F
 obtain ⟨hX,hl,hb,hs,hj⟩:=hF
 simp only at hl hb hs hj
 try simp only at h1 h2 h3 h4
 refine Qaa (args:=[.pt (.agg (GFun.dat _))]) (c:=(Qwa _)) Tryz.func10 rfl hX rfl rfl ?_
 obtain ⟨_,_,_,hnt,_,har,_,hcm,_,_,_,_,ar01,ar12,_,hzpl,_,_,_,_,_,_,_,_,hT⟩:=Qca
 repeat' (first
  | refine goa ?_|refine go3 (fun hlt=>?_) (fun hge=>?_)|refine go2 (fun h=>?_) (fun h=>?_)|exact go0|refine goz ?_|refine Qvha ?_ ?_
  | ((with_reducible apply Qua (hf:=Tryz.call25));(·(cbv;try rfl));(·intro wc hbc hxc;exact h1 wc hbc);intro z hz)
  | ((with_reducible apply Qeb (hf:=Tryz.call25));(·(cbv;try rfl));(·intro wc hbc hxc;exact h1 wc hbc);intro z hz)
  | ((with_reducible apply Qua (hf:=Tryz.call26));(·(cbv;try rfl));(·intro wc hbc hxc;exact h2 wc hbc);intro z hz)
  | ((with_reducible apply Qeb (hf:=Tryz.call26));(·(cbv;try rfl));(·intro wc hbc hxc;exact h2 wc hbc);intro z hz)
  | ((with_reducible apply Qoa (hf:=Tryz.call20));(·intro S;cbv;try rfl);(·intro wc S hbc hxc hrc;exact h3 wc hbc);(·rfl))
  | ((with_reducible apply Qoa (hf:=Tryz.call36));(·intro S;cbv;try rfl);(·intro wc S hbc hxc hrc;exact h4 wc hbc);(·rfl))
  | ((with_reducible apply Qbp (hf:=Tryz.call37));(·intro S;cbv;try rfl);(·intro wc S hbc hxc hrc;exact h8 wc _ _ _ (hrc _ _ rfl) (hrc _ _ rfl)))
  | ((with_reducible apply Qpu (hf:=Tryz.call37));(·intro S;cbv;try rfl);(·intro wc S hbc hxc hrc;exact h8 wc _ _ _ (hrc _ _ rfl) (hrc _ _ rfl)))
  | fail)
 all_goals (refine Qtb ?_;simp_all)
end
section
set_option maxRecDepth 100000
def ckC (g:GClash):Value:=.agg #[.int .i64 (.ofNat g.at_),.int .i64 (.ofNat g.loan),.int .i64 g.t.p.l,.bool g.t.p.d,.int .u8 g.t.p.f,.bool g.t.w,.bool g.t.d]
def ckV (L:List GClash):Value:=.tuple #[ckC (L.getD 0 .zero),.int .i64 (if L.length=0 then 0 else 48)]
def ckZ (e:Int):Value:=.tuple #[ckC .zero,.int .i64 e]
theorem Qoha (F:GFun) (w:World) (hF:F.At w) (hO:F.Ok) (hE:F.Fe):
 Calls Tryz.prog 21 #[F.val] w (Ret w (ckV (claL F))):=by
 have h1 wc (hk:KB ⟨w,[]⟩ wc) {c:R9z}:=Calls.to (c':=c) (Qsea _) rfl (Qzga F wc (hF.later hk) hO hE)
 have hlen:(claL F).length<=1073741824:=Qlha hO
 generalize claL F=L at h1 hlen⊢
 clear hO hE
 cases L with
 | nil=>
   obtain ⟨pa,un,lA,ln,lc,lk,lt,bA,bn,bc,sA,sn,sc,s,jA,jn,jc,ja,jk,jo,jf,jx,je,jd⟩:=F
   obtain ⟨hX,hl,hb,hs,hj⟩:=hF
   simp only at hl hb hs hj
   refine Qaa (args:=[.pt (.agg (GFun.dat _))]) (c:=(Qwa _)) Tryz.func21 rfl hX rfl rfl ?_
   obtain ⟨_,_,_,hnt,_,har,_,hcm,_,_,_,_,ar01,ar12,_,hzpl,_,_,_,_,_,_,_,_,hT⟩:=Qca
   repeat' (first
    | refine goa ?_|refine go3 (fun hlt=>?_) (fun hge=>?_)|refine go2 (fun h=>?_) (fun h=>?_)|exact go0|refine goz ?_|refine Qvha ?_ ?_
    | ((with_reducible apply Qoa (hf:=Tryz.call20));(·intro S;cbv;try rfl);(·intro wc S hbc hxc hrc;exact h1 wc hbc);(·rfl))
    | fail)
   all_goals rfl
 | cons g L=>
   obtain ⟨⟨n,m,⟨⟨pl,pd,pf⟩,tw,td⟩⟩,hg⟩:∃g',g'=g:=⟨_,rfl⟩
   obtain ⟨R,hR⟩:=x9 (claR (g::L))
   obtain ⟨k,hk⟩:=x9 (L.length)
   obtain ⟨el,hel⟩:=x9 (fun j=>((g::L).getD (j+1) .zero).sc:Nat->List SC)
   have hR2:claR (g::L)=⟨k+1,7,fun j=>match j with|0=>g.sc|j+1=>el j⟩:=by
    unfold claR;rw[hk,hel]
    congr 1
    funext j;cases j<;>rfl
   have hV:ckV (g::L)=.tuple #[ckC g,.int .i64 48]:=rfl
   rw[hV]
   rw[hR2,<-hg] at h1
   rw[<-hg]
   clear hR2 hV hR hg hel hk
   obtain ⟨pa,un,lA,ln,lc,lk,lt,bA,bn,bc,sA,sn,sc,s,jA,jn,jc,ja,jk,jo,jf,jx,je,jd⟩:=F
   obtain ⟨hX,hl,hb,hs,hj⟩:=hF
   simp only at hl hb hs hj
   refine Qaa (args:=[.pt (.agg (GFun.dat _))]) (c:=(Qwa _)) Tryz.func21 rfl hX rfl rfl ?_
   obtain ⟨_,_,_,hnt,_,har,_,hcm,_,_,_,_,ar01,ar12,_,hzpl,_,_,_,_,_,_,_,_,hT⟩:=Qca
   repeat' (first
    | refine goa ?_|refine go3 (fun hlt=>?_) (fun hge=>?_)|refine go2 (fun h=>?_) (fun h=>?_)|exact go0|refine goz ?_|refine Qvha ?_ ?_
    | ((with_reducible apply Qoa (hf:=Tryz.call20));(·intro S;cbv;try rfl);(·intro wc S hbc hxc hrc;exact h1 wc hbc);(·rfl))
    | fail)
   all_goals (first|rfl|(exfalso;subst hcm;first|(simp[rCm] at h;done)|(simp[rCm] at h;omega))|trace_state)
theorem Qkha (F:GFun) (w:World) (hF:F.At w) (hz:fchkV F≠0):
 Calls Tryz.prog 21 #[F.val] w (Ret w (ckZ (fchkV F))):=by
 have h1 wc (hk:KB ⟨w,[]⟩ wc):=Qqfa F wc (hF.later hk) hz
 generalize fchkV F=z at h1 hz⊢
 have hq:decide (z=0)=false:=decide_eq_false hz
 clear hz
 cases F
 obtain ⟨hX,hl,hb,hs,hj⟩:=hF
 simp only at hl hb hs hj
 refine Qaa (args:=[.pt (.agg (GFun.dat _))]) (c:=(Qwa _)) Tryz.func21 rfl hX rfl rfl ?_
 obtain ⟨_,_,_,hnt,_,har,_,hcm,_,_,_,_,ar01,ar12,_,hzpl,_,_,_,_,_,_,_,_,hT⟩:=Qca
 repeat' (first
  | refine goa ?_|refine go3 (fun hlt=>?_) (fun hge=>?_)|refine go2 (fun h=>?_) (fun h=>?_)|exact go0|refine goz ?_|refine Qvha ?_ ?_
  | (refine' Qiha Tryz.call20 ?_ ?_;rotate_left;(·intro wc hbc hxc;exact h1 wc hbc))
  | fail)
 all_goals rfl
end
section
set_option maxRecDepth 100000
theorem Qnha (F:GFun) (w:World) (hF:F.At w) (hK:F.Ty8) (hO:F.Ok) (hE:F.Fe):
 Calls Tryz.prog 27 #[F.val] w (Ret w (ckV (claL F))):=by
 have h0 wc (hk:KB ⟨w,[]⟩ wc):=Q2p F wc (hF.later hk) hK
 rw[Qdj,show fchkV F=0 from hO] at h0
 have h1 wc (hk:KB ⟨w,[]⟩ wc) {c:R9z}:=Calls.to (c':=c) (Qsea _) rfl (Qifa F wc (hF.later hk) hK hO hE)
 generalize claL F=L at h1⊢
 clear hO hE hK
 cases L with
 | nil=>
   obtain ⟨pa,un,lA,ln,lc,lk,lt,bA,bn,bc,sA,sn,sc,s,jA,jn,jc,ja,jk,jo,jf,jx,je,jd⟩:=F
   obtain ⟨hX,hl,hb,hs,hj⟩:=hF
   simp only at hl hb hs hj
   refine Qaa (args:=[.pt (.agg (GFun.dat _))]) (c:=(Qwa _)) Tryz.func27 rfl hX rfl rfl ?_
   obtain ⟨_,_,_,hnt,_,har,_,hcm,_,_,_,_,ar01,ar12,_,hzpl,_,_,_,_,_,_,_,_,hT⟩:=Qca
   repeat' (first
    | refine goa ?_|refine go3 (fun hlt=>?_) (fun hge=>?_)|refine go2 (fun h=>?_) (fun h=>?_)|exact go0|refine Qz9 ?_|refine gof ?_|refine gob ?_|refine Qvha ?_ ?_
    | (refine' Qiha Tryz.call35 ?_ ?_;rotate_left;(·intro wc hbc hxc;exact h0 wc hbc))
    | ((with_reducible apply Qoa (hf:=Tryz.call76));(·intro S;cbv;try rfl);(·intro wc S hbc hxc hrc;exact h1 wc hbc);(·rfl))
    | fail)
   all_goals rfl
 | cons g L=>
   obtain ⟨⟨n,m,⟨⟨pl,pd,pf⟩,tw,td⟩⟩,hg⟩:∃g',g'=g:=⟨_,rfl⟩
   obtain ⟨k,hk⟩:=x9 (L.length)
   obtain ⟨el,hel⟩:=x9 (fun j=>((g::L).getD (j+1) .zero).sc:Nat->List SC)
   have hR2:claR (g::L)=⟨k+1,7,fun j=>match j with|0=>g.sc|j+1=>el j⟩:=by
    unfold claR;rw[hk,hel]
    congr 1
    funext j;cases j<;>rfl
   have hV:ckV (g::L)=.tuple #[ckC g,.int .i64 48]:=rfl
   rw[hV]
   rw[hR2,<-hg] at h1
   rw[<-hg]
   clear hR2 hV hg hel hk
   obtain ⟨pa,un,lA,ln,lc,lk,lt,bA,bn,bc,sA,sn,sc,s,jA,jn,jc,ja,jk,jo,jf,jx,je,jd⟩:=F
   obtain ⟨hX,hl,hb,hs,hj⟩:=hF
   simp only at hl hb hs hj
   refine Qaa (args:=[.pt (.agg (GFun.dat _))]) (c:=(Qwa _)) Tryz.func27 rfl hX rfl rfl ?_
   obtain ⟨_,_,_,hnt,_,har,_,hcm,_,_,_,_,ar01,ar12,_,hzpl,_,_,_,_,_,_,_,_,hT⟩:=Qca
   repeat' (first
    | refine goa ?_|refine go3 (fun hlt=>?_) (fun hge=>?_)|refine go2 (fun h=>?_) (fun h=>?_)|exact go0|refine Qz9 ?_|refine gof ?_|refine gob ?_|refine Qvha ?_ ?_
    | (refine' Qiha Tryz.call35 ?_ ?_;rotate_left;(·intro wc hbc hxc;exact h0 wc hbc))
    | ((with_reducible apply Qoa (hf:=Tryz.call76));(·intro S;cbv;try rfl);(·intro wc S hbc hxc hrc;exact h1 wc hbc);(·rfl))
    | fail)
   all_goals (first|rfl|(exfalso;subst hcm;first|(simp[rCm] at h;done)|(simp[rCm] at h;omega))|trace_state)
theorem Qjha (F:GFun) (w:World) (hF:F.At w) (hK:F.Ty8) (hz:rchkV F≠0):
 Calls Tryz.prog 27 #[F.val] w (Ret w (ckZ (rchkV F))):=by
 have h1 wc (hk:KB ⟨w,[]⟩ wc):=Q2p F wc (hF.later hk) hK
 generalize rchkV F=z at h1 hz⊢
 have hq:decide (z=0)=false:=decide_eq_false hz
 clear hz hK
 cases F
 obtain ⟨hX,hl,hb,hs,hj⟩:=hF
 simp only at hl hb hs hj
 refine Qaa (args:=[.pt (.agg (GFun.dat _))]) (c:=(Qwa _)) Tryz.func27 rfl hX rfl rfl ?_
 obtain ⟨_,_,_,hnt,_,har,_,hcm,_,_,_,_,ar01,ar12,_,hzpl,_,_,_,_,_,_,_,_,hT⟩:=Qca
 repeat' (first
  | refine goa ?_|refine go3 (fun hlt=>?_) (fun hge=>?_)|refine go2 (fun h=>?_) (fun h=>?_)|exact go0|refine goz ?_|refine Qvha ?_ ?_
  | (refine' Qiha Tryz.call35 ?_ ?_;rotate_left;(·intro wc hbc hxc;exact h1 wc hbc))
  | fail)
 all_goals rfl
theorem Qmha (F:GFun) (w:World) (hF:F.At w) (hK:F.Ty8) (hE:F.Fe):
 Calls Tryz.prog 5 #[F.val] w (Ret w (.bool true)):=by
 have h1 wc (hk:KB ⟨w,[]⟩ wc):=Qv7 F wc (hF.later hk)
 have h2 wc (hk:KB ⟨w,[]⟩ wc):=gfC F wc (hF.later hk)
 generalize greatB F=q1 at h1
 generalize gfB F=q2 at h2
 have h34:∃g:GClash,∃e:Int,∀wc,KB ⟨w,[]⟩ wc->Calls Tryz.prog 21 #[F.val] wc (Ret wc (.tuple #[ckC g,.int .i64 e]))/\Calls Tryz.prog 27 #[F.val] wc (Ret wc (.tuple #[ckC g,.int .i64 e])):=by
  by_cases hO:fchkV F=0
  · exact ⟨_,_,fun wc hk=>⟨Qoha F wc (hF.later hk) hO hE,Qnha F wc (hF.later hk) hK hO hE⟩⟩
  · exact ⟨.zero,fchkV F,fun wc hk=>⟨Qkha F wc (hF.later hk) hO,by rw[<-Qdj];exact Qjha F wc (hF.later hk) hK (by rw[Qdj];exact hO)⟩⟩
 obtain ⟨⟨n,m,⟨⟨pl,pd,pf⟩,tw,td⟩⟩,e,h34⟩:=h34
 have h3 wc (hk:KB ⟨w,[]⟩ wc):=(h34 wc hk).1
 have h4 wc (hk:KB ⟨w,[]⟩ wc):=(h34 wc hk).2
 simp only[ckC] at h3 h4
 clear hK hE h34
 cases F
 obtain ⟨hX,hl,hb,hs,hj⟩:=hF
 simp only at hl hb hs hj
 refine Qaa (args:=[.pt (.agg (GFun.dat _))]) (c:=(Qwa _)) Tryz.func5 rfl hX rfl rfl ?_
 obtain ⟨_,_,_,hnt,_,har,_,hcm,_,_,_,_,ar01,ar12,_,hzpl,_,_,_,_,_,_,_,_,hT⟩:=Qca
 repeat' (first
  | refine goa ?_|refine go3 (fun hlt=>?_) (fun hge=>?_)|refine go2 (fun h=>?_) (fun h=>?_)|exact go0|refine goz ?_|refine Qvha ?_ ?_
  | ((with_reducible apply Qua (hf:=Tryz.call25));(·(cbv;try rfl));(·intro wc hbc hxc;exact h1 wc hbc);intro z hz)
  | ((with_reducible apply Qeb (hf:=Tryz.call25));(·(cbv;try rfl));(·intro wc hbc hxc;exact h1 wc hbc);intro z hz)
  | ((with_reducible apply Qua (hf:=Tryz.call26));(·(cbv;try rfl));(·intro wc hbc hxc;exact h2 wc hbc);intro z hz)
  | ((with_reducible apply Qeb (hf:=Tryz.call26));(·(cbv;try rfl));(·intro wc hbc hxc;exact h2 wc hbc);intro z hz)
  | (refine' Qiha Tryz.call21 ?_ ?_;rotate_left;(·intro wc hbc hxc;exact h3 wc hbc))
  | (refine' Qiha Tryz.call27 ?_ ?_;rotate_left;(·intro wc hbc hxc;exact h4 wc hbc))
  | fail)
 all_goals (refine Qtb ?_;simp_all)
end
end Go.Proofs.YtemnfncbgalljaaGreat
