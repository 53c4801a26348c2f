/- Lemmas. No condition. -/
import Derived.Test.YtemnfncbgalljabSvIb
import Derived.Test.YtemnfncbgalljabGrS
namespace Go.Proofs.Ytemnfncbgalljab
open Go.RowKit
set_option linter.all false
theorem GFun.at_rows {c:R9z} {w:World} {F:GFun} {v vl:Value} {R:ORow} (hx:XOk ⟨[],c,[]⟩ ⟨w,[]⟩) (hL:RowIs c w ⟨F.ln,2,fun i=>[.int .u8 (F.lk i),.int .u8 (F.lt i)]⟩ vl) (hR:RowIs c w R v) (hn:R.n=F.bn) (hes:R.es=14)
 (hcell:∀b,b<F.bn->∀vs,isL ⟨[],c,[]⟩ (R.el b) vs->isL ⟨[],Qwa F,[]⟩ (F.blkC b) vs)
 (hs:∀b,∃q i,c q i=Qwa F 2 b) (hj:∀b,∃q i,c q i=Qwa F 3 b)
 (h1:F.ln<=9223372036854775807) (h2:F.bn<=9223372036854775807) (h3:∀b,F.sn b<=9223372036854775807) (h4:∀b,F.jn b<=9223372036854775807):
 ∃la lc a cap,vl=.slice la F.ln lc/\v=.slice a F.bn cap/\({ F with lA:=la,lc:=lc,bA:=a,bc:=cap }:GFun).At w:=by
 obtain ⟨la,lc,rfl⟩:=hL.form
 obtain ⟨a,cap,rfl⟩:=hR.form
 refine ⟨la,lc,a,cap,rfl,by rw[hn],⟨fun q i j hlt=>?_,h1,h2,h3,h4⟩⟩
 match q,hlt with
 | 0,hlt=>
   have hlt:j<F.ln:=hlt
   obtain ⟨b,p,f1,f2,vs,f4,f5⟩:=hL.row (c':=Qwa { F with lA:=la,lc:=lc,bA:=a,bc:=cap }) (fun _ _=>rfl) hlt
   exact ⟨b,p,f1,f2,by simp,vs,f4,f5⟩
 | 1,hlt=>
   have hlt:j<F.bn:=hlt
   obtain ⟨b,p,f1,f2,vs,f4,f5⟩:=hR.rowG (j:=j) o9
   rw[hes] at f5
   refine ⟨b,p,f1,f2,by simp,vs,Qcja (l:=F.blkC j) (fun x hx v hv=>?_) (hcell j hlt vs f4),f5⟩
   simp only[GFun.blkC,List.mem_cons,List.not_mem_nil,or_false] at hx
   rcases hx with rfl|rfl|rfl|rfl|rfl|rfl|rfl|rfl|rfl|rfl|rfl|rfl|rfl|rfl<;>exact hv
 | 2,hlt=>
   have hlt:j<(Qwa F 2 i).n:=hlt
   obtain ⟨q',i',e⟩:=hs i
   have:=hx q' i' j (by simp only[e];exact hlt)
   simp only[e] at this
   obtain ⟨b,p,f1,f2,f3,vs,f4,f5⟩:=this
   exact ⟨b,p,f1,f2,f3,vs,Q2b rfl f4,f5⟩
 | q+3,hlt=>
   have hlt:j<(Qwa F 3 i).n:=hlt
   obtain ⟨q',i',e⟩:=hj i
   have:=hx q' i' j (by simp only[e];exact hlt)
   simp only[e] at this
   obtain ⟨b,p,f1,f2,f3,vs,f4,f5⟩:=this
   exact ⟨b,p,f1,f2,f3,vs,Q2b rfl f4,f5⟩
theorem Qila {F:GFun} {lA lc bA bc sA sc jA jc} (b:Nat):Q5ja (F.moved lA lc bA bc sA sc jA jc) b=Q5ja F b:=by
 have h:Reach (F.moved lA lc bA bc sA sc jA jc) b↔Reach F b:=by
  constructor
  · intro h
    induction h with
    | zero=>exact .zero
    | step _ hn ih=>exact .step ih hn
  · intro h
    induction h with
    | zero=>exact .zero
    | step _ hn ih=>exact .step ih hn
 have h1:=Q6ja (F:=F.moved lA lc bA bc sA sc jA jc) (b:=b)
 have h2:=Q6ja (F:=F) (b:=b)
 rw[h] at h1
 cases hs:Q5ja (F.moved lA lc bA bc sA sc jA jc) b<;>cases hr:Q5ja F b<;>simp_all
def twH (F:GFun) (b0:Nat) (y:Option Addr×Nat):Nat->Nat->Row:=fun p i=>if p=0/\i=0 then ⟨y.1,F.sn b0+1,y.2,26,fun i=>((Qgka F b0).s b0 i).sc⟩ else ⟨none,0,0,0,fun _=>[]⟩
def twY (F:GFun) (j:Nat):List SC:=[.xs 4 j,.int .u8 (F.jk j),.int .u8 (F.jo j).k,.int .i64 (F.jo j).n,.int .i64 (F.jo j).p.l,.bool (F.jo j).p.d,.int .u8 (F.jo j).p.f,.int .i64 (F.jf j),.int .i64 (F.jx j),.int .i64 (F.je j),.xs 5 j,.int .i64 (F.jd j).l,.bool (F.jd j).d,.int .u8 (F.jd j).f]
def nnB (F:GFun) (j:Nat):Nat:=if j<F.bn then F.sn j else 0
def mmB (F:GFun) (j:Nat):Nat:=if j<F.bn then F.jn j else 0
def tqG (nn mm:N9z) (s:Nat->Nat->GStmt) (ja:Nat->Nat->GOper) (A B:TwA):Nat->Nat->Row
 | 0,j=>⟨(A j).1,nn j,(A j).2,26,fun k=>(s j k).sc⟩
 | 1,j=>⟨(B j).1,mm j,(B j).2,5,fun k=>(ja j k).sc⟩
 | _,_=>⟨none,0,0,0,fun _=>[]⟩
def tqF (F:GFun):TwA->TwA->Nat->Nat->Row:=tqG (nnB F) (mmB F) F.s F.ja
theorem Qroa {F:GFun} {A B:TwA} {b:Nat} (hb:b<F.bn):tqF F A B 0 b=⟨(A b).1,F.sn b,(A b).2,26,fun k=>(F.s b k).sc⟩:=by simp[tqF,tqG,nnB,hb]
theorem Q1na {F:GFun} {A B:TwA} {b:Nat} (hb:b<F.bn):tqF F A B 1 b=⟨(B b).1,F.jn b,(B b).2,5,fun k=>(F.ja b k).sc⟩:=by simp[tqF,tqG,mmB,hb]
theorem Qdpa {nn mm s ja} {A B:TwA} (p j k:Nat):Qob ((tqG nn mm s ja A B p j).el k)=true:=
 match p with
 | 0=>rfl
 | 1=>rfl
 | _+2=>rfl
theorem RetX.famsTo {α:Type} {w w':World} {x:α->SV} {r:α->List ORow} {G G2:α->Nat->Nat->Row} {en:Ending} (h:∀A q i,0<(G2 A q i).n->G2 A q i=G A q i) (hr:RetX w x r G en w'):RetX w x r G2 en w':=by
 obtain ⟨A,v,g,h1,h2,h3,h4,h5⟩:=hr
 refine ⟨A,v,g,h1,h2,h3,h4,⟨fun q i j hj=>?_⟩⟩
 have e:=h A q i o9
 rw[e] at hj⊢
 exact h5.ok q i j hj
theorem Qnpa (F:GFun) (w:World) (hF:F.At w) (hS:F.Sm):
 Calls Try.prog 8 #[F.val] w (RetX w (fun _:TwA×TwA=>.pt (.agg [.int .i64 F.pa,.bool F.un,.rs 0,.rs 1])) (TwR F) (fun x=>tqF F x.1 x.2)):=
 (Qmpa F w hF hS).mono fun en w' h=>RetX.famsTo (fun A q i h0=>by
   match q,h0 with
   | 0,h0=>
     by_cases g:i<F.bn
     · rw[Qroa g];simp[twG,g]
     · have h0:0<nnB F i:=h0
       unfold nnB at h0;rw[if_neg g] at h0;omega
   | 1,h0=>
     by_cases g:i<F.bn
     · rw[Q1na g];simp[twG,g]
     · have h0:0<mmB F i:=h0
       unfold mmB at h0;rw[if_neg g] at h0;omega
   | q+2,h0=>exact absurd h0 (Nat.lt_irrefl 0)) h
theorem Q6oa {F:GFun} {A B:TwA} {c:R9z} (hc4:∀b,c 4 b=tqF F A B 0 b) (hc5:∀b,c 5 b=tqF F A B 1 b):∀j,j<F.bn->∀vs,isL ⟨[],c,[]⟩ (twB F A B j) vs->isL ⟨[],c,[]⟩ (twY F j) vs:=fun j hj vs h=>by
 simp only[twB] at h
 match vs,h with
 | [v0,v1,v2,v3,v4,v5,v6,v7,v8,v9,v10,v11,v12,v13],⟨h0,h1,h2,h3,h4,h5,h6,h7,h8,h9,h10,h11,h12,h13,_⟩=>
   refine ⟨?_,h1,h2,h3,h4,h5,h6,h7,h8,h9,?_,h11,h12,h13,trivial⟩
   · show v0=.slice (c 4 j).a (c 4 j).n (c 4 j).c
     rw[hc4,Qroa hj];exact h0
   · show v10=.slice (c 5 j).a (c 5 j).n (c 5 j).c
     rw[hc5,Q1na hj];exact h10
def twQ (F:GFun) (b0:Nat) (y:Option Addr×Nat):Nat->List SC:=rUp (twY F) b0 0 [.val (.slice y.1 (F.sn b0+1) y.2)]
def twC (F:GFun) (b0:Nat) (A B:TwA) (y:Option Addr×Nat):Nat->Nat->Row:=Q3a (Q3a (Qwa F) 4 (tqF F A B)) 6 (twH F b0 y)
def twM (F:GFun) (b0:Nat) (A B:TwA) (y:Option Addr×Nat) (la:Option Addr) (lc:Nat) (a:Option Addr) (cap:Nat):GFun:=(Qgka F b0).moved la lc a cap (fun b=>if b=b0 then y.1 else if b<F.bn then (A b).1 else F.sA b) (fun b=>if b=b0 then y.2 else if b<F.bn then (A b).2 else F.sc b) (fun b=>if b<F.bn then (B b).1 else F.jA b) (fun b=>if b<F.bn then (B b).2 else F.jc b)
theorem Qtoa {F:GFun} {b0:Nat} {A B:TwA} {y:Option Addr×Nat} {wc:World} {vl v:Value} (hF:F.At wc) (hs0:F.sn b0<=23) (hx:XOk ⟨[],twC F b0 A B y,[]⟩ ⟨wc,[]⟩) (hL:RowIs (twC F b0 A B y) wc ⟨F.ln,2,fun i=>[.int .u8 (F.lk i),.int .u8 (F.lt i)]⟩ vl) (hR:RowIs (twC F b0 A B y) wc ⟨F.bn,14,twQ F b0 y⟩ v):
 ∃la lc a cap,vl=.slice la F.ln lc/\v=.slice a F.bn cap/\(twM F b0 A B y la lc a cap).At wc:=by
 refine GFun.at_rows (F:=twM F b0 A B y none 0 none 0) hx hL hR rfl rfl (fun b hb vs h=>?_) (fun b=>?_) (fun b=>?_) hF.l hF.b (fun b=>?_) hF.j
 · have hb:b<F.bn:=hb
   simp only[twQ,rUp] at h
   by_cases hbb:b=b0
   · rw[if_pos hbb] at h
     match vs,h with
     | [v0,v1,v2,v3,v4,v5,v6,v7,v8,v9,v10,v11,v12,v13],⟨h0,h1,h2,h3,h4,h5,h6,h7,h8,h9,h10,h11,h12,h13,_⟩=>
       refine ⟨?_,h1,h2,h3,h4,h5,h6,h7,h8,h9,?_,h11,h12,h13,trivial⟩
       · have h0:v0=.slice y.1 (F.sn b0+1) y.2:=h0
         show v0=.slice (if b=b0 then y.1 else if b<F.bn then (A b).1 else F.sA b) (if b=b0 then F.sn b+1 else F.sn b) (if b=b0 then y.2 else if b<F.bn then (A b).2 else F.sc b)
         rw[h0,if_pos hbb,if_pos hbb,if_pos hbb,hbb]
       · have h10:v10=.slice (twC F b0 A B y 5 b).a (twC F b0 A B y 5 b).n (twC F b0 A B y 5 b).c:=h10
         rw[twC,Q4a o9,Q2a o9,show 5 - 4=1 from rfl,Q1na hb] at h10
         show v10=.slice (if b<F.bn then (B b).1 else F.jA b) (F.jn b) (if b<F.bn then (B b).2 else F.jc b)
         rw[h10,if_pos hb,if_pos hb]
   · rw[if_neg hbb] at h
     match vs,h with
     | [v0,v1,v2,v3,v4,v5,v6,v7,v8,v9,v10,v11,v12,v13],⟨h0,h1,h2,h3,h4,h5,h6,h7,h8,h9,h10,h11,h12,h13,_⟩=>
       refine ⟨?_,h1,h2,h3,h4,h5,h6,h7,h8,h9,?_,h11,h12,h13,trivial⟩
       · have h0:v0=.slice (twC F b0 A B y 4 b).a (twC F b0 A B y 4 b).n (twC F b0 A B y 4 b).c:=h0
         rw[twC,Q4a o9,Q2a (Nat.le_refl _),show 4 - 4=0 from rfl,Qroa hb] at h0
         show v0=.slice (if b=b0 then y.1 else if b<F.bn then (A b).1 else F.sA b) (if b=b0 then F.sn b+1 else F.sn b) (if b=b0 then y.2 else if b<F.bn then (A b).2 else F.sc b)
         rw[h0,if_neg hbb,if_neg hbb,if_neg hbb,if_pos hb,if_pos hb]
       · have h10:v10=.slice (twC F b0 A B y 5 b).a (twC F b0 A B y 5 b).n (twC F b0 A B y 5 b).c:=h10
         rw[twC,Q4a o9,Q2a o9,show 5 - 4=1 from rfl,Q1na hb] at h10
         show v10=.slice (if b<F.bn then (B b).1 else F.jA b) (F.jn b) (if b<F.bn then (B b).2 else F.jc b)
         rw[h10,if_pos hb,if_pos hb]
 · by_cases hbb:b=b0
   · refine ⟨6,0,?_⟩
     rw[twC,Q2a (Nat.le_refl _)]
     show twH F b0 y 0 0=(⟨if b=b0 then y.1 else if b<F.bn then (A b).1 else F.sA b,if b=b0 then F.sn b+1 else F.sn b,if b=b0 then y.2 else if b<F.bn then (A b).2 else F.sc b,26,fun i=>((Qgka F b0).s b i).sc⟩:Row)
     rw[if_pos hbb,if_pos hbb,if_pos hbb,hbb]
     simp only[twH,and_self,if_true]
   · by_cases hb:b<F.bn
     · refine ⟨4,b,?_⟩
       rw[twC,Q4a o9,Q2a (Nat.le_refl _)]
       rw[show 4 - 4=0 from rfl,Qroa hb]
       show (⟨(A b).1,F.sn b,(A b).2,26,fun k=>(F.s b k).sc⟩:Row)=(⟨if b=b0 then y.1 else if b<F.bn then (A b).1 else F.sA b,if b=b0 then F.sn b+1 else F.sn b,if b=b0 then y.2 else if b<F.bn then (A b).2 else F.sc b,26,fun i=>((Qgka F b0).s b i).sc⟩:Row)
       rw[if_neg hbb,if_neg hbb,if_neg hbb,if_pos hb,if_pos hb,Qwka hbb]
     · refine ⟨2,b,?_⟩
       rw[twC,Q4a o9,Q4a o9]
       show (⟨F.sA b,F.sn b,F.sc b,26,fun i=>(F.s b i).sc⟩:Row)=(⟨if b=b0 then y.1 else if b<F.bn then (A b).1 else F.sA b,if b=b0 then F.sn b+1 else F.sn b,if b=b0 then y.2 else if b<F.bn then (A b).2 else F.sc b,26,fun i=>((Qgka F b0).s b i).sc⟩:Row)
       rw[if_neg hbb,if_neg hbb,if_neg hbb,if_neg hb,if_neg hb,Qwka hbb]
 · by_cases hb:b<F.bn
   · refine ⟨5,b,?_⟩
     rw[twC,Q4a o9,Q2a o9]
     rw[show 5 - 4=1 from rfl,Q1na hb]
     show (⟨(B b).1,F.jn b,(B b).2,5,fun k=>(F.ja b k).sc⟩:Row)=(⟨if b<F.bn then (B b).1 else F.jA b,F.jn b,if b<F.bn then (B b).2 else F.jc b,5,fun i=>(F.ja b i).sc⟩:Row)
     rw[if_pos hb,if_pos hb]
   · refine ⟨3,b,?_⟩
     rw[twC,Q4a o9,Q4a o9]
     show (⟨F.jA b,F.jn b,F.jc b,5,fun i=>(F.ja b i).sc⟩:Row)=(⟨if b<F.bn then (B b).1 else F.jA b,F.jn b,if b<F.bn then (B b).2 else F.jc b,5,fun i=>(F.ja b i).sc⟩:Row)
     rw[if_neg hb,if_neg hb]
 · show (if b=b0 then F.sn b+1 else F.sn b)<=_
   split
   · rename_i e;rw[e];omega
   · exact hF.s b
theorem Quoa {F:GFun} {b0:Nat} {A B:TwA} {y:Option Addr×Nat} {la lc a cap} (hO:F.Ok) (hs0:F.sn b0<=23):(twM F b0 A B y la lc a cap).Ok:=(Q8ia ..).trans (Qsna hO hs0)
theorem Qcpa {F:GFun} {b0:Nat} {A B:TwA} {y:Option Addr×Nat} {wc:World} {vl v:Value} (hF:F.At wc) (hO:F.Ok) (hb0:b0<F.bn) (hs0:F.sn b0<=23) (hx:XOk ⟨[],twC F b0 A B y,[]⟩ ⟨wc,[]⟩) (hL:RowIs (twC F b0 A B y) wc ⟨F.ln,2,fun i=>[.int .u8 (F.lk i),.int .u8 (F.lt i)]⟩ vl) (hR:RowIs (twC F b0 A B y) wc ⟨F.bn,14,twQ F b0 y⟩ v):
 Calls Try.prog 9 #[.agg #[.int .i64 F.pa,.bool F.un,vl,v],.agg #[.int .i64 (.ofNat b0),.int .i64 0]] wc (Ret wc (.tuple #[.int .i64 (.ofNat (stN F.sn b0)),.int .i64 0])):=by
 obtain ⟨la,lc,a,cap,rfl,rfl,hA⟩:=Qtoa hF hs0 hx hL hR
 have h:=Qcy _ wc hA (Quoa hO hs0) b0 0 hb0 (Nat.zero_le _)
 rw[show stN (twM F b0 A B y la lc a cap).sn b0=stN F.sn b0 from Qrna] at h
 exact h
noncomputable def twR (F:GFun) (b0:Nat):Nat->Bool:=fun j=>if j<=stN F.sn b0 then Q5ja F (pbN F j) else Q5ja F (pbN F (j - 1))
theorem RetR.le1b {w w':World} {c:R9z} {x:SV} {R R':ORow} {en:Ending} (hle:RowLe R R') (h:RetR w c x [R] en w'):RetR w c x [R'] en w':=by
 obtain ⟨v,g,h1,h2,h3,h4⟩:=h
 refine ⟨v,g,h1,h2,⟨h3.len,fun i R2 hi=>?_,h3.nd⟩,h4⟩
 cases i with
 | zero=>
   simp at hi
   subst hi
   obtain ⟨u,xs,a1,a2,a3,a4⟩:=h3.row 0 R rfl
   exact ⟨u,xs,a1,by rw[<-hle.n,<-hle.es];exact a2,hle.els a3,a4⟩
 | succ i=>simp at hi
theorem Qzoa {F:GFun} {b0:Nat} {A B:TwA} {y:Option Addr×Nat} {wc:World} {vl v:Value} (hF:F.At wc) (hO:F.Ok) (hb0:b0<F.bn) (hs0:F.sn b0<=23) (hx:XOk ⟨[],twC F b0 A B y,[]⟩ ⟨wc,[]⟩) (hL:RowIs (twC F b0 A B y) wc ⟨F.ln,2,fun i=>[.int .u8 (F.lk i),.int .u8 (F.lt i)]⟩ vl) (hR:RowIs (twC F b0 A B y) wc ⟨F.bn,14,twQ F b0 y⟩ v) {c':R9z}:
 Calls Try.prog 10 #[.agg #[.int .i64 F.pa,.bool F.un,vl,v]] wc (RetR wc c' (.tup [.one (.rs 0),.one (.int .i64 0)]) [⟨stN F.sn F.bn+1,1,fun j=>[.bool (twR F b0 j)]⟩]):=by
 obtain ⟨la,lc,a,cap,rfl,rfl,hA⟩:=Qtoa hF hs0 hx hL hR
 have h:=Q2la _ wc hA (Quoa hO hs0)
 refine Calls.to ⟨fun _ _=>rfl,trivial⟩ rfl (h.mono fun en w' hr=>RetR.le1b ?_ hr)
 have e:stN (twM F b0 A B y la lc a cap).sn (twM F b0 A B y la lc a cap).bn=stN F.sn F.bn+1:=Qcoa hb0
 refine ⟨e,rfl,fun j hj=>?_⟩
 have hj:j<stN F.sn F.bn+1:=Nat.lt_of_lt_of_eq hj e
 show Qbc [.bool (Q5ja (twM F b0 A B y la lc a cap) (pbN (twM F b0 A B y la lc a cap) j))] [.bool (twR F b0 j)]
 have e2:Q5ja (twM F b0 A B y la lc a cap) (pbN (twM F b0 A B y la lc a cap) j)=twR F b0 j:=by
  rw[twM,Qila,Qrla]
  show Q5ja F (pbN (Qgka F b0) j)=_
  rw[Qtna hb0 o9]
  unfold twR
  split<;>rfl
 rw[e2];exact Qpa _
end Go.Proofs.Ytemnfncbgalljab
