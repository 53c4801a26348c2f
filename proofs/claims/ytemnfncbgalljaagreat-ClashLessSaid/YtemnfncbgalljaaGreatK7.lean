/- Lemmas. No condition. -/
import Derived.Test.YtemnfncbgalljaaGreatClQ
namespace Go.Proofs.YtemnfncbgalljaaGreat
open Go.RowKit
set_option linter.all false
theorem Qcja {e e':Env}:∀{l:List SC} {vs:List Value},(∀c∈l,∀v,c.is e v->c.is e' v)->isL e l vs->isL e' l vs
 | [],[],_,_=>trivial
 | c::l,v::vs,hm,h=>⟨hm c List.mem_cons_self v h.1,Qcja (fun x hx=>hm x (List.mem_cons_of_mem _ hx)) h.2⟩
 | [],_::_,_,h=>h.elim
 | _::_,[],_,h=>h.elim
def GFun.withB (F:GFun) (a:Option Addr) (c:Nat):GFun:={ F with bA:=a,bc:=c }
theorem GFun.at_row {c:R9z} {w:World} {F:GFun} {v:Value} {R:ORow} (hx:XOk ⟨[],c,[]⟩ ⟨w,[]⟩) (hR:RowIs c w R v) (hn:R.n=F.bn) (hes:R.es=14)
 (hcell:∀b,b<F.bn->∀vs,isL ⟨[],c,[]⟩ (R.el b) vs->isL ⟨[],Qwa F,[]⟩ (F.blkC b) vs)
 (hl:c 0 0=Qwa F 0 0) (hs:∀b,∃q i,c q i=Qwa F 2 b) (hj:∀b,∃q i,c q i=Qwa F 3 b)
 (h1:F.ln<=9223372036854775807) (h2:F.bn<=9223372036854775807) (h3:∀b,F.sn b<=9223372036854775807) (h4:∀b,F.jn b<=9223372036854775807):
 ∃a cap,v=.slice a F.bn cap/\(F.withB a cap).At w:=by
 obtain ⟨a,cap,rfl⟩:=hR.form
 refine ⟨a,cap,by rw[hn],⟨fun q i j hlt=>?_,h1,h2,h3,h4⟩⟩
 match q,hlt with
 | 0,hlt=>
   have hlt:j<(Qwa F 0 0).n:=hlt
   have:=hx 0 0 j (by simp only[hl];exact hlt)
   simp only[hl] at this
   obtain ⟨b,p,f1,f2,f3,vs,f4,f5⟩:=this
   exact ⟨b,p,f1,f2,f3,vs,Q2b rfl f4,f5⟩
 | 1,hlt=>
   have hlt:j<F.bn:=hlt
   obtain ⟨b,p,f1,f2,vs,f4,f5⟩:=hR.rowG (j:=j) o9
   rw[hes] at f5
   refine ⟨b,p,f1,f2,by simp,vs,Qcja (l:=F.blkC j) (fun x hx v hv=>?_) (hcell j hlt vs f4),f5⟩
   simp only[GFun.blkC,List.mem_cons,List.not_mem_nil,or_false] at hx
   rcases hx with rfl|rfl|rfl|rfl|rfl|rfl|rfl|rfl|rfl|rfl|rfl|rfl|rfl|rfl<;>exact hv
 | 2,hlt=>
   have hlt:j<(Qwa F 2 i).n:=hlt
   obtain ⟨q',i',e⟩:=hs i
   have:=hx q' i' j (by simp only[e];exact hlt)
   simp only[e] at this
   obtain ⟨b,p,f1,f2,f3,vs,f4,f5⟩:=this
   exact ⟨b,p,f1,f2,f3,vs,Q2b rfl f4,f5⟩
 | q+3,hlt=>
   have hlt:j<(Qwa F 3 i).n:=hlt
   obtain ⟨q',i',e⟩:=hj i
   have:=hx q' i' j (by simp only[e];exact hlt)
   simp only[e] at this
   obtain ⟨b,p,f1,f2,f3,vs,f4,f5⟩:=this
   exact ⟨b,p,f1,f2,f3,vs,Q2b rfl f4,f5⟩
def GFun.moved (F:GFun) (lA:Option Addr) (lc:Nat) (bA:Option Addr) (bc:Nat) (sA:Nat->Option Addr) (sc:N9z) (jA:Nat->Option Addr) (jc:N9z):GFun:={ F with lA:=lA,lc:=lc,bA:=bA,bc:=bc,sA:=sA,sc:=sc,jA:=jA,jc:=jc }
section
variable (F:GFun) (lA:Option Addr) (lc:Nat) (bA:Option Addr) (bc:Nat) (sA:Nat->Option Addr) (sc:N9z) (jA:Nat->Option Addr) (jc:N9z)
theorem Q6ia:∀n,Qrm (F.moved lA lc bA bc sA sc jA jc) n=Qrm F n
 | 0=>rfl
 | n+1=>by simp only[Qrm,Q6ia n];rfl
theorem Q5ia:∀n,Qke (F.moved lA lc bA bc sA sc jA jc) n=Qke F n
 | 0=>rfl
 | n+1=>by simp only[Qke,Q5ia n];rfl
theorem Q8ia:fchkV (F.moved lA lc bA bc sA sc jA jc)=fchkV F:=by
 have h1:Q0c (F.moved lA lc bA bc sA sc jA jc)=Q0c F:=rfl
 have h2:Qrf (F.moved lA lc bA bc sA sc jA jc)=Qrf F:=by
  unfold Qrf
  rw[Q6ia];rfl
 have h3:Qmo (F.moved lA lc bA bc sA sc jA jc)=Qmo F:=by
  unfold Qmo
  rw[Q5ia];rfl
 unfold fchkV
 rw[h1,h2,h3]
theorem Q9ia:rchkV (F.moved lA lc bA bc sA sc jA jc)=rchkV F:=by rw[Qdj,Qdj,Q8ia]
end
section
variable {F:GFun} {b0:Nat}
end
abbrev TwA:=Nat->Option Addr×Nat
def twU (A:TwA) (i:Nat) (y:Option Addr×Nat):TwA:=fun j=>if j=i then y else A j
section
namespace ClaG
variable (G:ClaG)
theorem ag_mem {n:Nat} {t:GTouch} {b:Int} {c:GClash}:∀{k},c∈G.ag n t b k->c.at_=n/\c.loan<k/\G.sI c.loan n=true/\c.t=t
 | 0,h=>by simp[ag] at h
 | k+1,h=>by
   rcases List.mem_append.1 h with h|h
   · obtain ⟨h1,h2,h3,h4⟩:=ag_mem h
     exact ⟨h1,by omega,h3,h4⟩
   · split at h
     · rename_i g
       simp only[Bool.and_eq_true] at g
       obtain rfl:=List.mem_singleton.1 h
       exact ⟨rfl,Nat.lt_succ_self _,g.2.1,rfl⟩
     · simp at h
theorem tl_mem {n:Nat} {c:GClash}:∀{i},c∈G.tl n i->c.at_=n/\c.loan<G.P/\G.sI c.loan n=true
 | 0,h=>by simp[tl] at h
 | i+1,h=>by
   rcases List.mem_append.1 h with h|h
   · exact tl_mem h
   · obtain ⟨h1,h2,h3,_⟩:=G.ag_mem h
     exact ⟨h1,h2,h3⟩
theorem ac_mem {n:Nat} {c:GClash}:∀{k},c∈G.ac n k->c.at_=n/\c.loan<G.P/\G.sI c.loan n=true
 | 0,h=>by simp[ac] at h
 | k+1,h=>by
   rcases List.mem_append.1 h with h|h
   · exact ac_mem h
   · split at h
     · obtain ⟨h1,h2,h3,_⟩:=G.ag_mem h
       exact ⟨h1,h2,h3⟩
     · simp at h
theorem pt_mem {n:Nat} {c:GClash} (h:c∈G.pt n):c.at_=n/\c.loan<G.P/\G.sI c.loan n=true:=
 (List.mem_append.1 h).elim G.tl_mem G.ac_mem
theorem al_mem {c:GClash}:∀{n},c∈G.al n->c.at_<n/\c.loan<G.P/\G.sI c.loan c.at_=true
 | 0,h=>by simp[al] at h
 | n+1,h=>by
   rcases List.mem_append.1 h with h|h
   · obtain ⟨h1,h2,h3⟩:=al_mem h
     exact ⟨by omega,h2,h3⟩
   · obtain ⟨h1,h2,h3⟩:=G.pt_mem h
     exact ⟨by omega,h2,by rw[h1];exact h3⟩
theorem al_sorted:∀n,(G.al n).Pairwise (fun a b=>a.at_<=b.at_)
 | 0=>.nil
 | n+1=>by
   refine List.pairwise_append.2 ⟨al_sorted n,?_,fun a ha b hb=>?_⟩
   · refine List.Pairwise.imp_of_mem (R:=fun _ _=>True) (fun {a b} ha hb _=>?_) (List.pairwise_of_forall (fun _ _=>trivial))
     rw[(G.pt_mem ha).1,(G.pt_mem hb).1];exact Nat.le_refl _
   · have h1:=(G.al_mem ha).1
     rw[(G.pt_mem hb).1];omega
theorem al_none (h:G.P=0):∀n,G.al n=[]
 | 0=>rfl
 | n+1=>by
   have ht:∀i,G.tl n i=[]:=fun i=>by
    induction i with
    | zero=>rfl
    | succ i ih=>simp only[tl,ih,h,ag,List.nil_append]
   simp only[al,al_none h n,pt,ht,h,ac,List.nil_append]
end ClaG
end
def Qaja (s:GStmt):GStmt:=if s.k=1/\s.r.k=4 then ⟨s.k,s.p,⟨1,0,0,⟨1,0,.zero⟩,.zero,.zero⟩,s.a,s.l⟩ else s
def Qgja (F:GFun):GFun:={ F with s:=fun b i=>if b<F.bn then Qaja (F.s b i) else F.s b i }
def Qrja (F:GFun) (i:Nat) (A:TwA):Nat->Nat->Row:=fun p j=>
 if p=0/\j<i then ⟨(A j).1,F.sn j,(A j).2,26,fun k=>(Qaja (F.s j k)).sc⟩ else ⟨none,0,0,0,fun _=>[]⟩
def Qpja (F:GFun) (A:TwA) (j:Nat):List SC:=[.val (.slice (A j).1 (F.sn j) (A j).2),.int .u8 (F.jk j),.int .u8 (F.jo j).k,.int .i64 (F.jo j).n,.int .i64 (F.jo j).p.l,.bool (F.jo j).p.d,.int .u8 (F.jo j).p.f,.int .i64 (F.jf j),.int .i64 (F.jx j),.int .i64 (F.je j),.xs 3 j,.int .i64 (F.jd j).l,.bool (F.jd j).d,.int .u8 (F.jd j).f]
def Qija (F:GFun) (A:TwA) (a:Option Addr) (cap:Nat):GFun:=(Qgja F).moved F.lA F.lc a cap (fun b=>if b<F.bn then (A b).1 else F.sA b) (fun b=>if b<F.bn then (A b).2 else F.sc b) F.jA F.jc
theorem Qkja (s:GStmt):¬((Qaja s).k=1/\(Qaja s).r.k=4):=by
 unfold Qaja
 split
 · simp
 · assumption
theorem Qbja {F:GFun} {A:TwA} {c:R9z} {K:Nat} {wc:World} {v:Value} (hF:F.At wc) (hc:∀q i,q<4->c q i=Qwa F q i) (hg:∀b,b<F.bn->c K b=⟨(A b).1,F.sn b,(A b).2,26,fun k=>(Qaja (F.s b k)).sc⟩) (hx:XOk ⟨[],c,[]⟩ ⟨wc,[]⟩) (hR:RowIs c wc ⟨F.bn,14,Qpja F A⟩ v):
 ∃a cap,v=.slice a F.bn cap/\(Qija F A a cap).At wc:=by
 refine GFun.at_row (F:=Qija F A none 0) hx hR rfl rfl (fun b hb vs h=>?_) (hc 0 0 o9) (fun b=>?_) (fun b=>⟨3,b,hc 3 b o9⟩) hF.l hF.b hF.s hF.j
 · have hb:b<F.bn:=hb
   simp only[Qpja] at h
   match vs,h with
   | [v0,v1,v2,v3,v4,v5,v6,v7,v8,v9,v10,v11,v12,v13],⟨h0,h1,h2,h3,h4,h5,h6,h7,h8,h9,h10,h11,h12,h13,_⟩=>
     refine ⟨?_,h1,h2,h3,h4,h5,h6,h7,h8,h9,?_,h11,h12,h13,trivial⟩
     · have h0:v0=.slice (A b).1 (F.sn b) (A b).2:=h0
       show v0=.slice (if b<F.bn then (A b).1 else F.sA b) (F.sn b) (if b<F.bn then (A b).2 else F.sc b)
       rw[h0,if_pos hb,if_pos hb]
     · have h10:v10=.slice (c 3 b).a (c 3 b).n (c 3 b).c:=h10
       rw[hc 3 b o9] at h10
       exact h10
 · by_cases hb:b<F.bn
   · refine ⟨K,b,?_⟩
     rw[hg b hb]
     show (⟨(A b).1,F.sn b,(A b).2,26,fun k=>(Qaja (F.s b k)).sc⟩:Row)=⟨if b<F.bn then (A b).1 else F.sA b,F.sn b,if b<F.bn then (A b).2 else F.sc b,26,fun i=>(if b<F.bn then Qaja (F.s b i) else F.s b i).sc⟩
     simp only[if_pos hb]
   · refine ⟨2,b,?_⟩
     rw[hc 2 b o9]
     show (⟨F.sA b,F.sn b,F.sc b,26,fun i=>(F.s b i).sc⟩:Row)=⟨if b<F.bn then (A b).1 else F.sA b,F.sn b,if b<F.bn then (A b).2 else F.sc b,26,fun i=>(if b<F.bn then Qaja (F.s b i) else F.s b i).sc⟩
     simp only[if_neg hb]
theorem Qdja {F:GFun} {A:TwA} {c:R9z} {K:Nat} {wc:World} {v:Value} (hF:F.At wc) (hK:F.Ty8) (hc:∀q i,q<4->c q i=Qwa F q i) (hg:∀b,b<F.bn->c K b=⟨(A b).1,F.sn b,(A b).2,26,fun k=>(Qaja (F.s b k)).sc⟩) (hx:XOk ⟨[],c,[]⟩ ⟨wc,[]⟩) (hR:RowIs c wc ⟨F.bn,14,Qpja F A⟩ v):
 Calls Tryz.prog 35 #[.agg #[.int .i64 F.pa,.bool F.un,.slice F.lA F.ln F.lc,v]] wc (Ret wc (.int .i64 (rchkV (Qgja F)))):=by
 obtain ⟨a,cap,rfl,hA⟩:=Qbja hF hc hg hx hR
 have:=Q2p _ wc hA hK
 rw[Qija,Q9ia] at this
 exact this
theorem Qfja {G:GFun} (hs:∀b i,b<G.bn->¬((G.s b i).k=1/\(G.s b i).r.k=4)):∀n,n<=stN G.sn G.bn->Qia G n=[]
 | 0,_=>rfl
 | n+1,hn=>by
   simp only[Qia,Qfja hs n o9,List.nil_append]
   rw[if_neg]
   rintro ⟨h,h1,h2⟩
   have hb:=(Qoc (F:=G) (show n<stN G.sn G.bn by omega)).1
   obtain ⟨_,e⟩:=Qfo h
   rw[e] at h1 h2
   exact hs _ _ hb ⟨h1,h2⟩
theorem Qoja (F:GFun) (b i:Nat) (hb:b<F.bn):¬(((Qgja F).s b i).k=1/\((Qgja F).s b i).r.k=4):=by
 rw[show (Qgja F).s b i=Qaja (F.s b i) from if_pos hb]
 exact Qkja _
theorem Qnja {F:GFun} (h:F.Fe):(Qgja F).Fe:=fun b hb=>by
 obtain ⟨h1,h2⟩:=h b hb
 refine ⟨fun i hi=>?_,h2⟩
 have h1:=h1 i hi
 have hb:b<F.bn:=hb
 simp only[Qgja,if_pos hb,Qaja]
 split
 · exact ⟨h1.1,Int.le_refl _,Int.le_refl _,Int.le_refl _,h1.2.2.2.2⟩
 · exact h1
theorem Qlja {F:GFun} {A:TwA} {c:R9z} {K:Nat} {wc:World} {v:Value} (hF:F.At wc) (hE:F.Fe) (hO:fchkV (Qgja F)=0) (hc:∀q i,q<4->c q i=Qwa F q i) (hg:∀b,b<F.bn->c K b=⟨(A b).1,F.sn b,(A b).2,26,fun k=>(Qaja (F.s b k)).sc⟩) (hx:XOk ⟨[],c,[]⟩ ⟨wc,[]⟩) (hR:RowIs c wc ⟨F.bn,14,Qpja F A⟩ v) {c':R9z}:
 Calls Tryz.prog 20 #[.agg #[.int .i64 F.pa,.bool F.un,.slice F.lA F.ln F.lc,v]] wc (RetR wc c' (.tup [.one (.rs 0),.one (.int .i64 0)]) [⟨0,7,fun j=>(([]:List GClash).getD j .zero).sc⟩]):=by
 obtain ⟨a,cap,rfl,hA⟩:=Qbja hF hc hg hx hR
 have hO':(Qija F A a cap).Ok:=(Q8ia ..).trans hO
 have hE':(Qija F A a cap).Fe:=Qnja hE
 have h:=Qzga _ wc hA hO' hE'
 have e:claL (Qija F A a cap)=[]:=(clG _).al_none (by
  show lnC (Qija F A a cap)=0
  unfold lnC
  rw[Qfja (G:=Qija F A a cap) (fun b i hb=>Qoja F b i hb) _ (Nat.le_refl _)];rfl) _
 rw[e] at h
 exact Calls.to (c':=c') (Qsea []) rfl h
end Go.Proofs.YtemnfncbgalljaaGreat
