/- Lemmas. No condition. -/
import Derived.Test.YtemnfncbgalljaaGreatK1
import Derived.Test.YtemnfncbgalljaaGreatC3
import Derived.Test.YtemnfncbgalljaaGreatO1
namespace Go.Proofs.YtemnfncbgalljaaGreat
open Go.RowKit
set_option linter.all false
section
structure GClash where
 at_:Nat
 loan:Nat
 t:GTouch
def GClash.zero:GClash:=⟨0,0,.zero⟩
def GClash.sc (c:GClash):List SC:=[.int .i64 (.ofNat c.at_),.int .i64 (.ofNat c.loan),.int .i64 c.t.p.l,.bool c.t.p.d,.int .u8 c.t.p.f,.bool c.t.w,.bool c.t.d]
def claR (L:List GClash):ORow:=⟨L.length,7,fun j=>(L.getD j .zero).sc⟩
theorem Qsea (L:List GClash):Qic [claR L]:=⟨fun _ _=>rfl,trivial⟩
theorem Qwea {pl:Nat->Nat->Nat} {jn:Nat->(Nat->List SC)->(Nat->List SC)->Nat->List SC} (hpl:pl=fun x y=>x+y) (hjn:jn=rJn) {L M:List GClash} {t:GClash} {cs:List SC} (e:M=L++[t]) (hc:Qbc (Qte cs (0+0 * 7) 7) t.sc):RowLe ⟨pl L.length 1,7,jn L.length (fun j=>(L.getD j .zero).sc) (fun j=>Qte cs (0+j * 7) 7)⟩ (claR M):=by
 subst e
 refine Q7a hpl hjn (by rw[List.length_append];rfl) (fun j hj=>?_) ?_
 · rw[show (L++[t]).getD j .zero=L.getD j .zero by simp[List.getD,List.getElem?_append_left hj]]
   exact Qpa _
 · rw[show (L++[t]).getD L.length .zero=t by simp[List.getD]]
   exact hc
structure ClaG where
 N:Nat
 P:Nat
 ln:Nat->GLoan
 sI:Nat->Nat->Bool
 sU:Nat->Nat->Bool
 tw:Nat->Nat->Bool
 tt:Nat->List GTouch
namespace ClaG
variable (G:ClaG)
def ag (n:Nat) (t:GTouch) (b:Int):Nat->List GClash
 | 0=>[]
 | k+1=>ag n t b k++if (!decide (Int.ofNat k=b)&&(G.sI k n&&conB t (G.ln k) (G.sU k n)))=true then [⟨n,k,t⟩] else []
def tl (n:Nat):Nat->List GClash
 | 0=>[]
 | i+1=>tl n i++G.ag n ((G.tt n).getD i .zero) (-1) G.P
def ac (n:Nat):Nat->List GClash
 | 0=>[]
 | k+1=>ac n k++if (decide ((G.ln k).bo=3)&&(G.sI k n&&G.tw k n))=true then G.ag n ⟨(G.ln k).p,true,true⟩ (.ofNat k) G.P else []
def pt (n:Nat):List GClash:=G.tl n (G.tt n).length++G.ac n G.P
def al:Nat->List GClash
 | 0=>[]
 | n+1=>al n++G.pt n
theorem ag_len (n:Nat) (t:GTouch) (b:Int):∀k,(G.ag n t b k).length<=k
 | 0=>Nat.le_refl _
 | k+1=>by
   have:=ag_len n t b k
   simp only[ag,List.length_append]
   split
   · simp only[List.length_singleton];omega
   · simp only[List.length_nil];omega
theorem tl_len (n:Nat):∀i,(G.tl n i).length<=i * G.P
 | 0=>Nat.zero_le _
 | i+1=>by
   have h1:=tl_len n i
   have h2:=G.ag_len n ((G.tt n).getD i .zero) (-1) G.P
   simp only[tl,List.length_append,Nat.add_mul,Nat.one_mul];omega
theorem ac_len (n:Nat):∀k,(G.ac n k).length<=k * G.P
 | 0=>Nat.zero_le _
 | k+1=>by
   have h1:=ac_len n k
   have h2:=G.ag_len n ⟨(G.ln k).p,true,true⟩ (.ofNat k) G.P
   simp only[ac,List.length_append,Nat.add_mul,Nat.one_mul]
   split
   · omega
   · simp only[List.length_nil];omega
end ClaG
end
def GFun.Fe (F:GFun):Prop:=∀b,b<F.bn->(∀i,i<F.sn b->0<=(F.s b i).p.f/\0<=(F.s b i).r.a.p.f/\0<=(F.s b i).r.b.p.f/\0<=(F.s b i).r.p.f/\0<=(F.s b i).a.p.f)/\0<=(F.jd b).f/\0<=(F.jo b).p.f/\∀j,j<F.jn b->0<=(F.ja b j).p.f
theorem GFun.Fe.fd {F:GFun} (h:F.Fe):F.Fd:=fun b hb=>⟨fun i hi=>((h b hb).1 i hi).1,(h b hb).2.1⟩
def GTouch.Ok (t:GTouch):Prop:=t.p.ok=true/\0<=t.p.f
theorem Qkea {F:GFun} {o:GOper} (h:o.ok=true) (h0:0<=o.p.f):∀t∈opT F o,t.Ok:=fun t ht=>by
 simp only[GOper.ok,Bool.or_eq_true,Bool.and_eq_true,beq_iff_eq] at h
 unfold opT at ht
 split at ht
 · rename_i g
   obtain rfl:=List.mem_singleton.1 ht
   rcases h with h|h
   · rw[h.1] at g;cases g
   · exact ⟨h.2,h0⟩
 · split at ht
   · rename_i g
     obtain rfl:=List.mem_singleton.1 ht
     rcases h with h|h
     · rw[h.1] at g;cases g
     · exact ⟨h.2,h0⟩
   · simp at ht
theorem Q4ga {F:GFun} {r:GRv} (h:r.ok=true) (h1:0<=r.a.p.f) (h2:0<=r.b.p.f) (h3:0<=r.p.f):∀t∈rvT F r,t.Ok:=fun t ht=>by
 simp only[GRv.ok,Bool.or_eq_true,Bool.and_eq_true,beq_iff_eq,decide_eq_true_eq] at h
 unfold rvT at ht
 split at ht
 · rename_i g
   have ha:r.a.ok=true:=by
    rcases h with (((h|h)|h)|h)|h
    · exact h.1.1.1.1.2
    · exact h.1.1.1.1.1.2
    · exact h.1.1.1.1.2
    · rw[h.1.1.1.1.1.1] at g;cases g
    · rw[h.1.1.1.1.1] at g;cases g
   exact Qkea ha h1 t ht
 · split at ht
   · rename_i g0 g
     have hab:r.a.ok=true/\r.b.ok=true:=by
      rcases h with (((h|h)|h)|h)|h
      · exact absurd h.1.1.1.1.1 g0
      · exact ⟨h.1.1.1.1.1.2,h.1.1.1.1.2⟩
      · exact ⟨h.1.1.1.1.2,h.1.1.1.2⟩
      · rcases g with g|g<;>(rw[h.1.1.1.1.1.1] at g;cases g)
      · rcases g with g|g<;>(rw[h.1.1.1.1.1] at g;cases g)
     rcases List.mem_append.1 ht with ht|ht
     · exact Qkea hab.1 h1 t ht
     · exact Qkea hab.2 h2 t ht
   · rename_i g0 g
     obtain rfl:=List.mem_singleton.1 ht
     refine ⟨?_,h3⟩
     rcases h with (((h|h)|h)|h)|h
     · exact absurd h.1.1.1.1.1 g0
     · exact absurd (.inl h.1.1.1.1.1.1) g
     · exact absurd (.inr h.1.1.1.1.1) g
     · exact h.1.1.1.2
     · exact h.1.1.2
theorem Q5ga {F:GFun} {s:GStmt} (h:s.ok=true) (hf:0<=s.p.f/\0<=s.r.a.p.f/\0<=s.r.b.p.f/\0<=s.r.p.f/\0<=s.a.p.f):∀t∈stT F s,t.Ok:=fun t ht=>by
 simp only[GStmt.ok,Bool.or_eq_true,Bool.and_eq_true,beq_iff_eq,decide_eq_true_eq] at h
 unfold stT at ht
 split at ht
 · rename_i g
   obtain rfl:=List.mem_singleton.1 ht
   rcases h with (h|h)|h
   · rw[h.1.1.1.1] at g;cases g
   · rcases h.1.1.1.1 with e|e<;>(rw[e] at g;cases g)
   · refine ⟨?_,Int.le_refl _⟩
     simp only[GPlace.ok,Bool.and_eq_true,decide_eq_true_eq]
     exact ⟨⟨h.1.2,h.2⟩,by decide⟩
 · split at ht
   · rename_i g0 g
     have hh:s.p.ok=true/\s.r.ok=true:=by
      rcases h with (h|h)|h
      · exact ⟨h.1.1.1.2,h.1.1.2⟩
      · rcases h.1.1.1.1 with e|e<;>(rw[e] at g;cases g)
      · exact absurd h.1.1.1.1.1 g0
     rcases List.mem_append.1 ht with ht|ht
     · exact Q4ga hh.2 hf.2.1 hf.2.2.1 hf.2.2.2.1 t ht
     · obtain rfl:=List.mem_singleton.1 ht
       exact ⟨hh.1,hf.1⟩
   · rename_i g0 g
     have ha:s.a.ok=true:=by
      rcases h with (h|h)|h
      · exact absurd h.1.1.1.1 g
      · exact h.1.2
      · exact absurd h.1.1.1.1.1 g0
     exact Qkea ha hf.2.2.2.2 t ht
theorem Q1ea {F:GFun} {g:Nat->GOper} {t:GTouch}:∀{n},t∈Q6da F g n->∃i,i<n/\t∈opT F (g i)
 | 0,h=>by simp[Q6da] at h
 | n+1,h=>by
   rcases List.mem_append.1 h with h|h
   · obtain ⟨i,hi,g⟩:=Q1ea h
     exact ⟨i,by omega,g⟩
   · exact ⟨n,Nat.lt_succ_self _,h⟩
theorem Q0ga {F:GFun} (hO:F.Ok) (hE:F.Fe) {b:Nat} (hb:b<F.bn):∀t∈jmT F b,t.Ok:=fun t ht=>by
 have h:=hO.okJ hb
 obtain ⟨_,h1,h2,h3⟩:=hE b hb
 simp only[GJump.ok,Bool.or_eq_true,Bool.and_eq_true,beq_iff_eq,decide_eq_true_eq,GFun.jump] at h
 unfold jmT at ht
 split at ht
 · rename_i g
   have ho:(F.jo b).ok=true:=by
    rcases h with ((h|h)|h)|h
    · rw[h.1.1.1.1] at g;cases g
    · exact h.1.1.2
    · rcases h.1.1.1.1 with e|e<;>(rw[e] at g;cases g)
    · rw[h.1.1.1.1.1.1.1.1] at g;cases g
   exact Qkea ho h2 t ht
 · split at ht
   · obtain rfl:=List.mem_singleton.1 ht
     exact ⟨rfl,Int.le_refl _⟩
   · split at ht
     · rename_i g0 g1 g
       have hh:(F.jd b).ok=true/\(Q8j (F.jn b) (F.ja b)).all GOper.ok=true:=by
        rcases h with ((h|h)|h)|h
        · rw[h.1.1.1.1] at g;cases g
        · exact absurd h.1.1.1.1 g0
        · rcases h.1.1.1.1 with e|e<;>(rw[e] at g;cases g)
        · exact ⟨h.1.1.1.2,h.2⟩
       rcases List.mem_append.1 ht with ht|ht
       · obtain ⟨i,hi,hm⟩:=Q1ea ht
         exact Qkea (List.all_eq_true.1 hh.2 _ (List.mem_map.2 ⟨i,List.mem_range.2 hi,rfl⟩)) (h3 i hi) t hm
       · obtain rfl:=List.mem_singleton.1 ht
         exact ⟨hh.1,h1⟩
     · simp at ht
theorem Q0fa {F:GFun} (hO:F.Ok) (hE:F.Fe) {b i:Nat} (hb:b<F.bn):∀t∈ptT F b i,t.Ok:=fun t ht=>by
 unfold ptT at ht
 split at ht
 · rename_i g
   exact Q5ga (hO.okS hb g) ((hE b hb).1 i g) t ht
 · exact Q0ga hO hE hb t ht
theorem Qcea {F:GFun} (hO:F.Ok) {b i:Nat} (hb:b<F.bn):(ptT F b i).length<=9:=by
 have h:∀o,(opT F o).length<=1:=fun o=>by
  unfold opT;split
  · simp
  · split<;>simp
 unfold ptT
 split
 · unfold stT
   split
   · simp
   · split
     · have:(rvT F (F.s b i).r).length<=2:=by
        have h1:=h (F.s b i).r.a
        have h2:=h (F.s b i).r.b
        unfold rvT
        split
        · omega
        · split
          · simp only[List.length_append];omega
          · simp
       simp only[List.length_append,List.length_singleton];omega
     · have:=h (F.s b i).a;omega
 · unfold jmT
   have h1:=h (F.jo b)
   have h2:=Q7da F (F.ja b) (F.jn b)
   have h3:=hO.jn8 hb
   repeat' split
   all_goals try simp only[List.length_append,List.length_singleton,List.length_nil]
   all_goals omega
def lnG (F:GFun) (k:Nat):GLoan:=⟨.ofNat (lpN F k),(stAt F (lpN F k)).r.p,(stAt F (lpN F k)).r.bo,lnL F (lpN F k)⟩
theorem Qzfa {F:GFun} (hO:F.Ok) (hE:F.Fe) {k:Nat} (hk:k<lnC F):(lnG F k).p.ok=true/\0<=(lnG F k).p.f/\1<=(lnG F k).bo/\(lnG F k).bo<=3:=by
 obtain ⟨h1,h2,h3,h4⟩:=Qhm hk
 obtain ⟨h5,h6⟩:=Qfo h2
 have hb:=(Qoc h1).1
 have hs:=hO.okS hb h5
 have hf:=((hE _ hb).1 _ h5).2.2.2.1
 unfold lnG
 rw[<-h6] at hs hf
 have hr:(stAt F (lpN F k)).r.ok=true:=by
  simp only[GStmt.ok,Bool.or_eq_true,Bool.and_eq_true,beq_iff_eq,decide_eq_true_eq] at hs
  rcases hs with (h|h)|h
  · exact h.1.1.2
  · rcases h.1.1.1.1 with e|e<;>(rw[e] at h3;cases h3)
  · rw[h.1.1.1.1.1] at h3;cases h3
 simp only[GRv.ok,Bool.or_eq_true,Bool.and_eq_true,beq_iff_eq,decide_eq_true_eq] at hr
 rcases hr with (((h|h)|h)|h)|h
 · rw[h.1.1.1.1.1] at h4;cases h4
 · rw[h.1.1.1.1.1.1] at h4;cases h4
 · rw[h.1.1.1.1.1] at h4;cases h4
 · exact ⟨h.1.1.1.2,hf,h.1.2,h.2⟩
 · rw[h.1.1.1.1.1] at h4;cases h4
noncomputable def clG (F:GFun):ClaG:=⟨stN F.sn F.bn,lnC F,lnG F,scI F,scU F,fun k n=>(wyF F k).tw n,fun n=>ptT F (pbN F n) (piN F n)⟩
noncomputable def claL (F:GFun):List GClash:=(clG F).al (stN F.sn F.bn)
theorem Qzea {F:GFun} (hO:F.Ok) {n:Nat} (hn:n<=stN F.sn F.bn):((clG F).al n).length<=n * ((9+lnC F) * lnC F):=by
 have key:∀m,m<=stN F.sn F.bn->((clG F).al m).length<=m * ((9+lnC F) * lnC F):=fun m=>by
  induction m with
  | zero=>intro _;exact Nat.zero_le _
  | succ m ih=>
    intro hm
    have h1:=ih o9
    have h2:=(clG F).tl_len m ((clG F).tt m).length
    have h3:=(clG F).ac_len m (clG F).P
    have h4:((clG F).tt m).length<=9:=Qcea hO (Qoc (show m<stN F.sn F.bn by omega)).1
    have h5:=Nat.mul_le_mul_right (clG F).P h4
    have eP:(clG F).P=lnC F:=rfl
    rw[eP] at h2 h3 h5
    have e1:(9+lnC F) * lnC F=9 * lnC F+lnC F * lnC F:=Nat.add_mul _ _ _
    have e2:(m+1) * ((9+lnC F) * lnC F)=m * ((9+lnC F) * lnC F)+(9+lnC F) * lnC F:=Nat.succ_mul _ _
    rw[e2]
    simp only[ClaG.al,ClaG.pt,List.length_append]
    rw[eP]
    rw[e1] at h1⊢
    generalize m * (9 * lnC F+lnC F * lnC F)=x1 at h1⊢
    generalize lnC F * lnC F=x2 at h3⊢
    omega
 exact key n hn
theorem Quha {F:GFun} (hO:F.Ok):(claL F).length+1<=1073741824:=by
 have h:=Qzea hO (Nat.le_refl _)
 have hN:=hO.pts
 have hP:lnC F<=600:=Nat.le_trans (Qxb F _) hO.pts
 have h2:(9+lnC F) * lnC F<=(9+600) * 600:=Nat.mul_le_mul o9 hP
 have h3:stN F.sn F.bn * ((9+lnC F) * lnC F)<=600 * ((9+600) * 600):=Nat.mul_le_mul hN h2
 have h4:(claL F).length<=_:=h
 omega
theorem Qlha {F:GFun} (hO:F.Ok):(claL F).length<=1073741824:=Nat.le_of_succ_le (Quha hO)
theorem Qiia {c:R9z} {K:Nat} {G:R9z} (hc:∀q i j,q<K->j<(c q i).n->qbL K ((c q i).el j)=true) (hG:∀p i j,j<(G p i).n->qbL (K+1) ((G p i).el j)=true):∀q i j,q<K+1->j<(Q3a c K G q i).n->qbL (K+1) ((Q3a c K G q i).el j)=true:=fun q i j hq hj=>by
 by_cases g:q<K
 · rw[Q4a g] at hj⊢
   exact Qvc _ (hc q i j g hj)
 · rw[Q2a o9] at hj⊢
   exact hG _ _ _ hj
theorem Q8da {c c':R9z} {K j:Nat} {a:Option Addr} {n cap:Nat} (h:(c' K j).a=a/\(c' K j).n=n/\(c' K j).c=cap) (vs:List Value) (hv:isL ⟨[],c,[]⟩ [.val (.slice a n cap)] vs):isL ⟨[],c',[]⟩ [.xs K j] vs:=by
 match vs,hv with
 | [v],⟨g,_⟩=>
   refine ⟨?_,trivial⟩
   have g:v=.slice a n cap:=g
   show v=.slice (c' K j).a (c' K j).n (c' K j).c
   rw[h.1,h.2.1,h.2.2];exact g
section
variable {P:Program} {Q:E9z} {c:R9z} {w0:Base} {k:List Item} {st:St}
end
def Qpfa (L:List GClash):Nat->List SC:=fun j=>(L.getD j .zero).sc
theorem Q1da {L M:List GClash} (h:L=M):L.length=M.length/\Qpfa L=Qpfa M:=by subst h;exact ⟨rfl,rfl⟩
structure ClaS (N P:Nat) (eb:I9z) (sI tw:B9y) (cf cg:Nat->Nat->Nat->Bool) (tn:N9z) (xl:Nat->Nat->Int) (xd:B9y) (xf:Nat->Nat->Int) (xw xz:B9y) (el:I9z) (ed:B9z) (ef:I9z) (R:ORow) where
 l0:Nat->Nat
 e0:Nat->Nat->List SC
 l1:Bool->Nat->Nat->Nat
 e1:Bool->Nat->Nat->Nat->List SC
 l2:Bool->Nat->Nat->Nat->Nat
 e2:Bool->Nat->Nat->Nat->Nat->List SC
 l3:Bool->Nat->Nat->Nat
 e3:Bool->Nat->Nat->Nat->List SC
 l4:Bool->Nat->Nat->Nat->Nat
 e4:Bool->Nat->Nat->Nat->Nat->List SC
 b0:l0 0=0
 b10:∀n,l0 n=l1 true n 0/\e0 n=e1 true n 0
 b1z:∀n,l1 false n 0=0
 b20:∀o n i,l1 o n i=l2 o n i 0/\e1 o n i=e2 o n i 0
 b2P:∀o n i k,P<=k->k<=P->l2 o n i k=l1 o n (i+1)/\e2 o n i k=e1 o n (i+1)
 b1T:∀o n i,tn n<=i->i<=tn n->l1 o n i=l3 o n 0/\e1 o n i=e3 o n 0
 b40:∀o n m,l3 o n m=l4 o n m 0/\e3 o n m=e4 o n m 0
 b4P:∀o n m j,P<=j->j<=P->eb m=3->sI m n=true->tw m n=true->l4 o n m j=l3 o n (m+1)/\e4 o n m j=e3 o n (m+1)
 b3s:∀o n m,(decide (eb m=3)&&(sI m n&&tw m n))=false->l3 o n m=l3 o n (m+1)/\e3 o n m=e3 o n (m+1)
 b3P:∀n m,P<=m->m<=P->l3 true n m=l0 (n+1)/\e3 true n m=e0 (n+1)
 b2f:∀o n i k,sI k n=false\/cf n i k=false->l2 o n i k=l2 o n i (k+1)/\e2 o n i k=e2 o n i (k+1)
 b4f:∀o n m j,decide (Int.ofNat j=Int.ofNat m)=true\/sI j n=false\/cg n m j=false->l4 o n m j=l4 o n m (j+1)/\e4 o n m j=e4 o n m (j+1)
 s2:∀(zp:Nat->Nat->Nat) (zj:Nat->(Nat->List SC)->(Nat->List SC)->Nat->List SC),zp=(fun x y=>x+y)->zj=rJn->∀o n i k,sI k n=true->cf n i k=true->RowLe ⟨zp (l2 o n i k) 1,7,zj (l2 o n i k) (e2 o n i k) (fun j=>Qte [.int .i64 (.ofNat n),.int .i64 (.ofNat k),.int .i64 (xl n i),.bool (xd n i),.int .u8 (xf n i),.bool (xw n i),.bool (xz n i)] (0+j * 7) 7)⟩ ⟨l2 o n i (k+1),7,e2 o n i (k+1)⟩
 s4:∀(zp:Nat->Nat->Nat) (zj:Nat->(Nat->List SC)->(Nat->List SC)->Nat->List SC),zp=(fun x y=>x+y)->zj=rJn->∀o n m j,decide (Int.ofNat j=Int.ofNat m)=false->sI j n=true->cg n m j=true->RowLe ⟨zp (l4 o n m j) 1,7,zj (l4 o n m j) (e4 o n m j) (fun x=>Qte [.int .i64 (.ofNat n),.int .i64 (.ofNat j),.int .i64 (el m),.bool (ed m),.int .u8 (ef m),.lit true,.lit true] (0+x * 7) 7)⟩ ⟨l4 o n m (j+1),7,e4 o n m (j+1)⟩
 s0:∀(zp:Nat->Nat->Nat) (zj:Nat->(Nat->List SC)->(Nat->List SC)->Nat->List SC),zp=(fun x y=>x+y)->zj=rJn->∀n m,P<=m->m<=P->RowLe ⟨zp (l0 n) (l3 false n m),7,zj (l0 n) (e0 n) (e3 false n m)⟩ ⟨l0 (n+1),7,e0 (n+1)⟩
 hb2:∀o n i k,n<N->i<tn n->k<P->l2 o n i k+1<=1073741824
 hb4:∀o n m j,n<N->m<P->j<P->l4 o n m j+1<=1073741824
 hb0:∀n m,n<N->P<=m->m<=P->l0 n+l3 false n m<=1073741824
 eR:R=⟨l0 N,7,e0 N⟩
 hp0:∀n j,Qob (e0 n j)=true
 hp3:∀o n m j,Qob (e3 o n m j)=true
theorem Qdha (F:GFun) (hO:F.Ok) {N P:Nat} {el ef eb:I9z} {ed:B9z} {sI tw:B9y} {cf cg:Nat->Nat->Nat->Bool} {tq:Nat->Nat->GTouch} {tn:N9z} {xl xf:Nat->Nat->Int} {xd xw xz:B9y}
 (hN:N=stN F.sn F.bn) (hP:P=lnC F) (hel:el=fun j=>(stAt F (lpN F j)).r.p.l) (hed:ed=fun j=>(stAt F (lpN F j)).r.p.d) (hef:ef=fun j=>(stAt F (lpN F j)).r.p.f) (heb:eb=fun j=>(stAt F (lpN F j)).r.bo) (hsI:sI=scI F) (htw:tw=fun k n=>(wyF F k).tw n)
 (htq:tq=fun n i=>(ptT F (pbN F n) (piN F n)).getD i .zero) (htn:tn=fun n=>(ptT F (pbN F n) (piN F n)).length) (hxl:xl=fun n i=>(tq n i).p.l) (hxd:xd=fun n i=>(tq n i).p.d) (hxf:xf=fun n i=>(tq n i).p.f) (hxw:xw=fun n i=>(tq n i).w) (hxz:xz=fun n i=>(tq n i).d)
 (hcf:cf=fun n i k=>conB (tq n i) (lnG F k) (scU F k n)) (hcg:cg=fun n m j=>conB ⟨(lnG F m).p,true,true⟩ (lnG F j) (scU F j n)):∃S:ClaS N P eb sI tw cf cg tn xl xd xf xw xz el ed ef (claR (claL F)),True:=by
 have hP9:lnC F<=600:=Nat.le_trans (Qxb F _) hO.pts
 have hN9:=hO.pts
 have hT90:∀n,n<stN F.sn F.bn->(ptT F (pbN F n) (piN F n)).length<=9:=fun n hn=>Qcea hO (Qoc hn).1
 have hal0:∀n,n<=stN F.sn F.bn->((clG F).al n).length<=n * ((9+lnC F) * lnC F):=fun n hn=>Qzea hO hn
 obtain ⟨G,hG⟩:=x9 (clG F)
 have eN:G.N=stN F.sn F.bn:=by rw[hG];rfl
 have eP:G.P=lnC F:=by rw[hG];rfl
 have eL:G.ln=lnG F:=by rw[hG];rfl
 have eI:G.sI=scI F:=by rw[hG];rfl
 have eU:G.sU=scU F:=by rw[hG];rfl
 have eW:G.tw=fun k n=>(wyF F k).tw n:=by rw[hG];rfl
 have eT:G.tt=fun n=>ptT F (pbN F n) (piN F n):=by rw[hG];rfl
 have eC:claL F=G.al (stN F.sn F.bn):=by rw[hG];rfl
 rw[<-hG] at hal0
 obtain ⟨L0,hL0⟩:=x9 (fun n=>G.al n:Nat->List GClash)
 obtain ⟨Z,hZ⟩:=x9 (fun o n=>if o=true then G.al n else []:Bool->Nat->List GClash)
 obtain ⟨L1,hL1⟩:=x9 (fun o n i=>Z o n++G.tl n i:Bool->Nat->Nat->List GClash)
 obtain ⟨L2,hL2⟩:=x9 (fun o n i k=>Z o n++G.tl n i++G.ag n ((G.tt n).getD i .zero) (-1) k:Bool->Nat->Nat->Nat->List GClash)
 obtain ⟨L3,hL3⟩:=x9 (fun o n m=>Z o n++G.tl n (G.tt n).length++G.ac n m:Bool->Nat->Nat->List GClash)
 obtain ⟨L4,hL4⟩:=x9 (fun o n m j=>Z o n++G.tl n (G.tt n).length++G.ac n m++G.ag n ⟨(G.ln m).p,true,true⟩ (.ofNat m) j:Bool->Nat->Nat->Nat->List GClash)
 have zt:∀n,Z true n=L0 n:=fun n=>by rw[hZ,hL0];rfl
 have zf:∀n,Z false n=[]:=fun n=>by rw[hZ];rfl
 have q20:∀o n i,L1 o n i=L2 o n i 0:=fun o n i=>by rw[hL1,hL2];simp[ClaG.ag]
 have q2P:∀o n i k,P<=k->k<=P->L2 o n i k=L1 o n (i+1):=fun o n i k g1 g2=>by
  have e:k=G.P:=by omega
  rw[hL1,hL2,e];simp only[ClaG.tl,List.append_assoc]
 have q1T:∀o n i,tn n<=i->i<=tn n->L1 o n i=L3 o n 0:=fun o n i g1 g2=>by
  have e:i=(G.tt n).length:=by rw[eT];rw[htn] at g1 g2;exact Nat.le_antisymm g2 g1
  rw[hL1,hL3,e];simp[ClaG.ac]
 have q40:∀o n m,L3 o n m=L4 o n m 0:=fun o n m=>by rw[hL3,hL4];simp[ClaG.ag]
 have ebo:∀m,(G.ln m).bo=eb m:=fun m=>by rw[eL,heb];rfl
 have q4P:∀o n m j,P<=j->j<=P->eb m=3->sI m n=true->tw m n=true->L4 o n m j=L3 o n (m+1):=fun o n m j g1 g2 a1 a2 a3=>by
  have e:j=G.P:=by omega
  rw[hsI,<-eI] at a2;rw[htw,<-eW] at a3
  rw[hL4,hL3,e];simp only[ClaG.ac,ebo,a1,a2,a3,decide_true,Bool.and_self,if_true,List.append_assoc]
 have q3s:∀o n m,(decide (eb m=3)&&(sI m n&&tw m n))=false->L3 o n m=L3 o n (m+1):=fun o n m a=>by
  rw[hsI,htw,<-eI,<-eW] at a
  rw[hL3];simp only[ClaG.ac,ebo,a,Bool.false_eq_true,if_false,List.append_nil]
 have q3P:∀n m,P<=m->m<=P->L0 n++L3 false n m=L0 (n+1):=fun n m g1 g2=>by
  have e:m=G.P:=by omega
  rw[hL3];simp only[zf,List.nil_append]
  rw[hL0,e];simp only[ClaG.al,ClaG.pt]
 have q3T:∀n m,P<=m->m<=P->L3 true n m=L0 (n+1):=fun n m g1 g2=>by
  rw[<-q3P n m g1 g2,hL3];simp only[zt,zf,List.nil_append,List.append_assoc]
 have etq:∀n i,(G.tt n).getD i .zero=tq n i:=fun n i=>by rw[eT,htq]
 have q2t:∀o n i k,sI k n=true->cf n i k=true->L2 o n i (k+1)=L2 o n i k++[⟨n,k,tq n i⟩]:=fun o n i k a b=>by
  rw[hsI,<-eI] at a;rw[hcf,<-eL,<-eU] at b
  have e:decide (Int.ofNat k= -1)=false:=decide_eq_false (fun g=>by have:=Int.natCast_nonneg k;simp only[Int.ofNat_eq_natCast] at g;omega)
  rw[hL2];simp only[ClaG.ag,etq,e,a,b,Bool.not_false,Bool.and_self,if_true,List.append_assoc]
 have q2f:∀o n i k,sI k n=false\/cf n i k=false->L2 o n i k=L2 o n i (k+1):=fun o n i k a=>by
  rw[hsI,<-eI,hcf,<-eL,<-eU] at a
  rw[hL2]
  simp only[ClaG.ag,etq]
  rcases a with a|a<;>simp[a]
 have q4t:∀o n m j,decide (Int.ofNat j=Int.ofNat m)=false->sI j n=true->cg n m j=true->L4 o n m (j+1)=L4 o n m j++[⟨n,j,⟨(lnG F m).p,true,true⟩⟩]:=fun o n m j e a b=>by
  rw[hsI,<-eI] at a;rw[hcg,<-eL,<-eU] at b
  rw[hL4,<-eL];simp only[ClaG.ag,e,a,b,Bool.not_false,Bool.and_self,if_true,List.append_assoc]
 have q4f:∀o n m j,decide (Int.ofNat j=Int.ofNat m)=true\/sI j n=false\/cg n m j=false->L4 o n m j=L4 o n m (j+1):=fun o n m j a=>by
  rw[hsI,<-eI,hcg,<-eL,<-eU] at a
  rw[hL4]
  simp only[ClaG.ag]
  rcases a with a|a|a
  · simp only[a,Bool.not_true,Bool.false_and,Bool.false_eq_true,if_false,List.append_nil]
  · simp[a]
  · simp[a]
 have hal:∀n,n<N->(L0 n).length<=600 * ((9+600) * 600):=fun n hn=>by
  rw[hL0]
  have h1:=hal0 n o9
  have h2:(9+lnC F) * lnC F<=(9+600) * 600:=Nat.mul_le_mul o9 hP9
  exact Nat.le_trans h1 (Nat.mul_le_mul o9 h2)
 have hz:∀o n,n<N->(Z o n).length<=600 * ((9+600) * 600):=fun o n hn=>by
  cases o
  · rw[zf];exact Nat.zero_le _
  · rw[zt];exact hal n hn
 have hT:∀n,n<N->(G.tt n).length<=9:=fun n hn=>by rw[eT];exact hT90 n (hN▸hn)
 have hac:∀n m,m<=P->(G.ac n m).length<=600 * 600:=fun n m hm=>Nat.le_trans (G.ac_len n m) (Nat.mul_le_mul o9 (by rw[eP];exact hP9))
 have htl:∀n i,n<N->i<=(G.tt n).length->(G.tl n i).length<=9 * 600:=fun n i hn hi=>Nat.le_trans (G.tl_len n i) (Nat.mul_le_mul (Nat.le_trans hi (hT n hn)) (by rw[eP];exact hP9))
 refine ⟨{ l0:=fun n=>(L0 n).length,e0:=fun n=>Qpfa (L0 n),l1:=fun o n i=>(L1 o n i).length,e1:=fun o n i=>Qpfa (L1 o n i),l2:=fun o n i k=>(L2 o n i k).length,e2:=fun o n i k=>Qpfa (L2 o n i k),l3:=fun o n m=>(L3 o n m).length,e3:=fun o n m=>Qpfa (L3 o n m),l4:=fun o n m j=>(L4 o n m j).length,e4:=fun o n m j=>Qpfa (L4 o n m j),b0:=?_,b10:=fun n=>Q1da ?_,b1z:=fun n=>?_,b20:=fun o n i=>Q1da (q20 o n i),b2P:=fun o n i k g1 g2=>Q1da (q2P o n i k g1 g2),b1T:=fun o n i g1 g2=>Q1da (q1T o n i g1 g2),b40:=fun o n m=>Q1da (q40 o n m),b4P:=fun o n m j g1 g2 a1 a2 a3=>Q1da (q4P o n m j g1 g2 a1 a2 a3),b3s:=fun o n m a=>Q1da (q3s o n m a),b3P:=fun n m g1 g2=>Q1da (q3T n m g1 g2),b2f:=fun o n i k a=>Q1da (q2f o n i k a),b4f:=fun o n m j a=>Q1da (q4f o n m j a),s2:=fun zp zj g1 g2 o n i k a b=>?_,s4:=fun zp zj g1 g2 o n m j e a b=>?_,s0:=fun zp zj g1 g2 n m a b=>?_,hb2:=fun o n i k hn hi hk=>?_,hb4:=fun o n m j hn hm hj=>?_,hb0:=fun n m hn g1 g2=>?_,eR:=?_,hp0:=fun n j=>rfl,hp3:=fun o n m j=>rfl },trivial⟩
 · rw[hL0];rfl
 · rw[hL1];simp[ClaG.tl,zt]
 · rw[hL1];simp[ClaG.tl,zf]
 · rw[hxl,hxd,hxf,hxw,hxz]
   exact Qwea g1 g2 (q2t o n i k a b) (Qpa _)
 · rw[hel,hed,hef]
   exact Qwea g1 g2 (q4t o n m j e a b) ⟨⟨rfl,rfl⟩,⟨rfl,rfl⟩,⟨rfl,rfl⟩,rfl,⟨rfl,rfl⟩,rfl,rfl,trivial⟩
 · rw[<-q3P n m a b]
   exact Qav g1 g2 (by simp) (fun j hj=>by simp only[Qpfa];rw[show (L0 n++L3 false n m).getD j .zero=(L0 n).getD j .zero by simp[List.getD,List.getElem?_append_left hj]];exact Qpa _) (fun j hj=>by simp only[Qpfa];rw[show (L0 n++L3 false n m).getD ((L0 n).length+j) .zero=(L3 false n m).getD j .zero by simp[List.getD,List.getElem?_append_right]];exact Qpa _)
 · have h1:=hz o n hn
   have h2:=htl n i hn (by rw[eT];rw[htn] at hi;exact Nat.le_of_lt hi)
   have h3:=G.ag_len n ((G.tt n).getD i .zero) (-1) k
   rw[hL2];simp only[List.length_append];omega
 · have h1:=hz o n hn
   have h2:=htl n _ hn (Nat.le_refl _)
   have h3:=hac n m o9
   have h4:=G.ag_len n ⟨(G.ln m).p,true,true⟩ (.ofNat m) j
   rw[hL4];simp only[List.length_append];omega
 · have h1:=hal n hn
   have h2:=htl n _ hn (Nat.le_refl _)
   have h3:=hac n m g2
   rw[hL3];simp only[List.length_append,zf,List.length_nil];omega
 · rw[hL0,hN,eC];rfl
section
open Go.ChangeShapes Go.WideShapes Go.Deep
set_option maxRecDepth 100000
section
variable {H:Type} {enc:TypeId×Value->H} {w:World} {base:Nat} {spare:B9z} {held:Bool}
theorem Qtfa {s:GStmt} (h:kIs enc Tryz.prog w base spare held Q3s s.cells):0<=s.p.f/\0<=s.r.a.p.f/\0<=s.r.b.p.f/\0<=s.r.p.f/\0<=s.a.p.f:=by
 have g3:0<=s.p.f:=by
  obtain ⟨n,e,hw⟩:=h.2.2.2.1
  cases e
  exact (bounds_u8 hw).1
 have g11:0<=s.r.a.p.f:=by
  obtain ⟨n,e,hw⟩:=h.2.2.2.2.2.2.2.2.2.2.2.1
  cases e
  exact (bounds_u8 hw).1
 have g16:0<=s.r.b.p.f:=by
  obtain ⟨n,e,hw⟩:=h.2.2.2.2.2.2.2.2.2.2.2.2.2.2.2.2.1
  cases e
  exact (bounds_u8 hw).1
 have g19:0<=s.r.p.f:=by
  obtain ⟨n,e,hw⟩:=h.2.2.2.2.2.2.2.2.2.2.2.2.2.2.2.2.2.2.2.1
  cases e
  exact (bounds_u8 hw).1
 have g24:0<=s.a.p.f:=by
  obtain ⟨n,e,hw⟩:=h.2.2.2.2.2.2.2.2.2.2.2.2.2.2.2.2.2.2.2.2.2.2.2.2.1
  cases e
  exact (bounds_u8 hw).1
 exact ⟨g3,g11,g16,g19,g24⟩
theorem Qsfa {o:GOper} (h:kIs enc Tryz.prog w base spare held Qv2 o.cells):0<=o.p.f:=by
 obtain ⟨n,e,hw⟩:=h.2.2.2.2.1
 cases e
 exact (bounds_u8 hw).1
theorem Qdfa {vs:List Value} (h:kIs enc Tryz.prog w base (fun _=>true) held Qhr vs):∃B:BlkD,vs=B.cells/\(B.sn<=maxLen/\B.jn<=maxLen/\Q2j w B.sA B.sn 26 (fun i=>(B.s i).cells)/\Q2j w B.jA B.jn 5 (fun i=>(B.ja i).cells)/\(∀i,i<B.sn->0<=(B.s i).p.f/\0<=(B.s i).r.a.p.f/\0<=(B.s i).r.b.p.f/\0<=(B.s i).r.p.f/\0<=(B.s i).a.p.f)/\0<=B.jd.f/\0<=B.jo.p.f/\∀j,j<B.jn->0<=(B.ja j).p.f):=by
 obtain ⟨B,rfl,b1,b2,b3,b4⟩:=Q00 h
 refine ⟨B,rfl,b1,b2,b3,b4,?_,?_,?_,?_⟩
 · obtain ⟨fuel,x,hx⟩:=h.1
   obtain ⟨sA,sn,sc,e,hs1,hs2⟩:=Qag Tryz.underlying48 (n:=5) (ks:=Q3s) (by kernel_rfl) (by decide) ⟨fuel,x,hx⟩
   cases e
   exact fun i hi=>Qtfa (Q35 hs2 b3 (fun _ _=>rfl) i hi)
 · obtain ⟨n,e,hw⟩:=h.2.2.2.2.2.2.2.2.2.2.2.2.2.1
   cases e
   exact (bounds_u8 hw).1
 · obtain ⟨n,e,hw⟩:=h.2.2.2.2.2.2.1
   cases e
   exact (bounds_u8 hw).1
 · obtain ⟨fuel,x,hx⟩:=h.2.2.2.2.2.2.2.2.2.2.1
   obtain ⟨sA,sn,sc,e,hs1,hs2⟩:=Qag Tryz.underlying51 (n:=5) (ks:=Qv2) (by kernel_rfl) (by decide) ⟨fuel,x,hx⟩
   cases e
   exact fun i hi=>Qsfa (Q35 hs2 b4 (fun _ _=>rfl) i hi)
theorem Q7ea {W:World} {base b0:Nat} {r:Go.Reach} {v:Value} {d:DataW H} {p:List MemPlace} {held:Bool}
 (h:DataW.Trod enc Tryz.prog W base (fun _=>true) held 44 v d p) (hv:Value.okWide Tryz.prog W r b0 44 v):
 ∃F:GFun,v=F.val/\F.At W/\F.Ty8/\F.Fe:=by
 obtain ⟨c0,c1,c2,c3,y0,y1,y2,y3,m,rfl,rfl,rfl,hy0,hy1,hy2,hy3⟩:=Go.Joins.open_agg4 Tryz.underlying44 (by kernel_rfl) (by kernel_rfl) hv h
 obtain ⟨pa,e0,_,_⟩:=DataW.trod_int Tryz.underlying3 hy0
 obtain ⟨un,e1,_⟩:=DataW.trod_bool Tryz.underlying4 hy1
 simp at e0 e1
 subst e0 e1
 obtain ⟨lA,ln,lc,rfl,hl1,hl2⟩:=Qag Tryz.underlying41 (n:=5) (ks:=Qw2) (by kernel_rfl) (by decide) ⟨_,_,hy2⟩
 obtain ⟨bA,bn,bc,rfl,hb1,hb2⟩:=Qag Tryz.underlying42 (n:=5) (ks:=Qhr) (by kernel_rfl) (by decide) ⟨_,_,hy3⟩
 obtain ⟨lt,hl3,hl4⟩:=hl2.at ((0,0):Int×Int) (fun x=>[.int .u8 x.1,.int .u8 x.2]) (fun x=>0<=x.1/\x.1<=255/\0<=x.2/\x.2<=255) (fun vs h=>by
  obtain ⟨k,t,e,b⟩:=Qd5 h
  exact ⟨(k,t),e,b⟩)
 have zB:∃Z:BlkD,Z.sn=0/\Z.jn=0:=⟨⟨none,0,0,fun _=>.mk 0 .zero .zero .zero 0,none,0,0,fun _=>.zero,0,.zero,0,0,0,.zero⟩,rfl,rfl⟩
 obtain ⟨Z,z1,z2⟩:=zB
 obtain ⟨B,hB1,hB2⟩:=hb2.at Z BlkD.cells (fun B=>B.sn<=maxLen/\B.jn<=maxLen/\Q2j W B.sA B.sn 26 (fun i=>(B.s i).cells)/\Q2j W B.jA B.jn 5 (fun i=>(B.ja i).cells)/\(∀i,i<B.sn->0<=(B.s i).p.f/\0<=(B.s i).r.a.p.f/\0<=(B.s i).r.b.p.f/\0<=(B.s i).r.p.f/\0<=(B.s i).a.p.f)/\0<=B.jd.f/\0<=B.jo.p.f/\∀j,j<B.jn->0<=(B.ja j).p.f) (fun vs h=>Qdfa h)
 refine ⟨GFun.of pa un lA ln lc lt bA bn bc (fun i=>if i<bn then B i else Z),rfl,GFun.of_at hl3 (fun i hi=>?_) hl1 hb1 (fun i=>?_),fun i hi=>hl4 i hi,fun i hi=>?_⟩
 · have:=hB1 i hi
   simp only[if_pos hi]
   exact this
 · by_cases hi:i<bn
   · simp only[if_pos hi];have:=hB2 i hi;exact ⟨this.1,this.2.1,this.2.2.1,this.2.2.2.1⟩
   · simp only[if_neg hi,z1,z2]
     exact ⟨Nat.zero_le _,Nat.zero_le _,fun j hj=>absurd hj (Nat.not_lt_zero _),fun j hj=>absurd hj (Nat.not_lt_zero _)⟩
 · have hi:i<bn:=hi
   simp only[GFun.of,if_pos hi]
   exact (hB2 i hi).2.2.2.2
end
end
end Go.Proofs.YtemnfncbgalljaaGreat
