/- Lemmas. No condition. -/
import Derived.Test.YtemnfncbgalljabIdA
import Derived.Test.YtemnfncbgalljabI1
namespace Go.Proofs.Ytemnfncbgalljab
open Go.RowKit
set_option linter.all false
def Q9ja (x:(Nat->Bool)×Int) (d:GDeed):(Nat->Bool)×Int:=
 (fun l=>(x.1 l&&!(d.un&&decide (l=d.l.toNat)))||(d.st&&decide (l=d.l.toNat)),if (d.rd&&!x.1 d.l.toNat&&decide (x.2<0))=true then d.l else x.2)
def Qcna (L:List GDeed) (S:B9z):Nat->Bool:=(L.foldl Q9ja (S,-1)).1
def Qcma (L:List GDeed) (S:B9z):Int:=(L.foldl Q9ja (S,-1)).2
def gsL (L:List GDeed) (l:Nat):Bool:=L.any fun d=>d.st&&decide (l=d.l.toNat)
def usL (L:List GDeed) (l:Nat):Bool:=L.any fun d=>d.un&&decide (l=d.l.toNat)
theorem Qpla (A B:List GDeed) (l:Nat):gsL (A++B) l=(gsL A l||gsL B l):=by simp[gsL]
theorem Qcla (A B:List GDeed) (l:Nat):usL (A++B) l=(usL A l||usL B l):=by simp[usL]
theorem Qena (l:Nat):∀(A:List GDeed) (x:(Nat->Bool)×Int),(∀d∈A,d.st=false)->(A.foldl Q9ja x).1 l=(x.1 l&&!usL A l)
 | [],x,_=>by simp[usL]
 | d::A,x,h=>by
   rw[List.foldl_cons,Qena l A _ (fun e he=>h e (List.mem_cons_of_mem _ he))]
   simp only[Q9ja,h d List.mem_cons_self,usL,List.any_cons,Bool.false_and,Bool.or_false,Bool.not_or,Bool.and_assoc]
theorem Qdna (l:Nat):∀(A:List GDeed) (x:(Nat->Bool)×Int),(∀d∈A,d.un=false)->(A.foldl Q9ja x).1 l=(x.1 l||gsL A l)
 | [],x,_=>by simp[gsL]
 | d::A,x,h=>by
   rw[List.foldl_cons,Qdna l A _ (fun e he=>h e (List.mem_cons_of_mem _ he))]
   simp only[Q9ja,h d List.mem_cons_self,gsL,List.any_cons,Bool.false_and,Bool.not_false,Bool.and_true,Bool.or_assoc]
def Q7ka (L:List GDeed):Prop:=∃A B,L=A++B/\(∀d∈A,d.st=false)/\(∀d∈B,d.un=false)
theorem Q5na {L:List GDeed} (h:Q7ka L) (S:B9z) (l:Nat):Qcna L S l=(gsL L l||(S l&&!usL L l)):=by
 obtain ⟨A,B,rfl,hA,hB⟩:=h
 unfold Qcna
 rw[List.foldl_append,Qdna l B _ hB,Qena l A _ hA,Qpla,Qcla]
 have h1:gsL A l=false:=by
  rw[<-Bool.not_eq_true];intro h
  obtain ⟨d,hd,h⟩:=List.any_eq_true.1 h
  rw[hA d hd] at h;cases h
 have h2:usL B l=false:=by
  rw[<-Bool.not_eq_true];intro h
  obtain ⟨d,hd,h⟩:=List.any_eq_true.1 h
  rw[hB d hd] at h;cases h
 rw[h1,h2,Bool.false_or,Bool.or_false,Bool.or_comm]
theorem Qgla {o:GOper}:∀d∈opD o,d.st=false:=fun d hd=>by
 unfold opD at hd
 split at hd
 · simp at hd
 · rw[List.mem_singleton.1 hd]
theorem Qvla {g:Nat->GOper}:∀n,∀d∈Qkka g n,d.st=false
 | 0,d,hd=>by simp[Qkka] at hd
 | n+1,d,hd=>by
   rcases List.mem_append.1 (show d∈Qkka g n++opD (g n) from hd) with h|h
   · exact Qvla n d h
   · exact Qgla d h
theorem Qmoa {r:GRv}:∀d∈rvD r,d.st=false:=fun d hd=>by
 unfold rvD at hd
 split at hd
 · exact Qgla d hd
 · split at hd
   · rcases List.mem_append.1 hd with h|h<;>exact Qgla d h
   · rw[List.mem_singleton.1 hd]
theorem Qeka {L:List GDeed} (h:∀d∈L,d.st=false):Q7ka L:=⟨L,[],by simp,h,by simp⟩
theorem Q5ka {L:List GDeed} (h:∀d∈L,d.st=false) (p:GPlace):Q7ka (L++[wrD p]):=⟨L,[wrD p],rfl,h,fun d hd=>by rw[List.mem_singleton.1 hd];rfl⟩
theorem Q5ma (F:GFun) (b i:Nat):Q7ka (ptD F b i):=by
 unfold ptD
 split
 · unfold stD
   split
   · exact Qeka fun d hd=>by rw[List.mem_singleton.1 hd]
   · split
     · exact Q5ka Qmoa _
     · exact Qeka Qgla
 · unfold jmD
   split
   · exact Qeka Qgla
   · split
     · exact Qeka fun d hd=>by rw[List.mem_singleton.1 hd]
     · split
       · exact Q5ka (Qvla _) _
       · exact Qeka (by simp)
theorem Q3ka {n:Nat} {o:GOper} (h:Qraa n o):∀d∈opD o,0<=d.l/\d.l<n:=fun d hd=>by
 unfold opD at hd
 split at hd
 · simp at hd
 · rw[List.mem_singleton.1 hd]
   rcases h with h|h
   · contradiction
   · exact h.2
theorem Qoma {n:Nat} {g:Nat->GOper}:∀m,(∀i,i<m->Qraa n (g i))->∀d∈Qkka g m,0<=d.l/\d.l<n
 | 0,_,d,hd=>by simp[Qkka] at hd
 | m+1,h,d,hd=>by
   rcases List.mem_append.1 (show d∈Qkka g m++opD (g m) from hd) with h'|h'
   · exact Qoma m (fun i hi=>h i o9) d h'
   · exact Q3ka (h m o9) d h'
theorem Qpoa {F:GFun} (h:F.Ok) {b i:Nat} (hb:b<F.bn) (hi:i<F.sn b):∀d∈stD (F.s b i),0<=d.l/\d.l<F.ln:=fun d hd=>by
 have hs:=Q6ga h hb hi
 have hp:=h.stIn hb hi
 generalize F.s b i=s at hs hp hd
 unfold stD at hd
 have mem:∀q∈Q3e s,0<=q.1.l/\q.1.l<(F.ln:Int):=hp
 split at hd
 · rename_i hk
   rw[List.mem_singleton.1 hd]
   refine mem (⟨s.l,false,0⟩,false) ?_
   unfold Q3e;rw[if_pos hk];exact List.mem_singleton.2 rfl
 · rename_i hk3
   split at hd
   · rename_i hk
     have m2:∀q,q∈Q3e s↔q∈(if s.r.k=4\/s.r.k=5 then [(s.p,false),(s.r.p,false)] else if s.r.k=1 then (s.p,false)::Qaj true s.r.a else (s.p,false)::(Qaj false s.r.a++Qaj false s.r.b)):=fun q=>by
      unfold Q3e
      rw[if_neg o9,if_neg o9,if_pos hk]
     rcases List.mem_append.1 hd with hd|hd
     · unfold rvD at hd
       rcases hs.r hk with ⟨h1,h2⟩|⟨h1,h2,h3⟩|h1
       · rw[if_pos h1] at hd;exact Q3ka h2 d hd
       · rw[if_neg o9,if_pos h1] at hd
         rcases List.mem_append.1 hd with hd|hd
         · exact Q3ka h2 d hd
         · exact Q3ka h3 d hd
       · rw[if_neg o9,if_neg o9] at hd
         rw[List.mem_singleton.1 hd]
         refine mem (s.r.p,false) ((m2 _).2 ?_)
         rw[if_pos h1];simp
     · rw[List.mem_singleton.1 hd]
       refine mem (s.p,false) ((m2 _).2 ?_)
       split
       · simp
       · split<;>simp
   · rename_i hk1
     refine Q3ka (hs.a ?_) d hd
     have:=hs.k
     omega
theorem Qfoa {F:GFun} (h:F.Ok) {b:Nat} (hb:b<F.bn):∀d∈jmD F b,0<=d.l/\d.l<F.ln:=fun d hd=>by
 have hp:=h.jmIn hb
 unfold jmD at hd
 split at hd
 · rename_i hk;exact Q3ka (Qyfa h hb hk) d hd
 · split at hd
   · rw[List.mem_singleton.1 hd]
     have:=h.lpos
     exact ⟨Int.le_refl _,by show (0:Int)<F.ln;omega⟩
   · split at hd
     · rename_i hk
       rcases List.mem_append.1 hd with hd|hd
       · exact Qoma _ (fun i hi=>Q89 h hb hk hi) d hd
       · rw[List.mem_singleton.1 hd]
         refine hp (F.jd b,false) ?_
         unfold Qlp Qpi
         rw[if_neg o9,if_pos hk];simp
     · simp at hd
theorem Q1la {F:GFun} (h:F.Ok) {b i:Nat} (hb:b<F.bn):∀d∈ptD F b i,0<=d.l/\d.l<F.ln:=by
 unfold ptD
 split
 · rename_i hi;exact Qpoa h hb hi
 · exact Qfoa h hb
theorem Qzna (r:GRv):(rvD r).length<=2:=by
 unfold rvD
 have h1:=Qyka r.a
 have h2:=Qyka r.b
 split
 · omega
 · split
   · rw[List.length_append];omega
   · simp
theorem Qwna {F:GFun} (h:F.Ok) {b i:Nat} (hb:b<F.bn):(ptD F b i).length<=9:=by
 have hj:=h.jn8 hb
 unfold ptD
 split
 · unfold stD
   split
   · simp
   · split
     · have:=Qzna (F.s b i).r
       rw[List.length_append];simp only[List.length_cons,List.length_nil];omega
     · have:=Qyka (F.s b i).a;omega
 · unfold jmD
   split
   · have:=Qyka (F.jo b);omega
   · split
     · simp
     · split
       · have:=Quka (F.ja b) (F.jn b)
         rw[List.length_append];simp only[List.length_cons,List.length_nil];omega
       · simp
theorem Q4oa {F:GFun} (h:F.Ok):0<=F.pa/\F.pa<=8/\F.pa<F.ln:=by
 have:=h.head
 simp only[Qin,Bool.and_eq_true,decide_eq_true_eq] at this
 exact ⟨this.1.1.1.1.2,this.1.1.1.2,this.1.1.2⟩
def Qjka (F:GFun):FlowG:=⟨F.ln,stN F.sn F.bn,Q0g F,fun m l=>gsL (ptD F (pbN F m) (piN F m)) l,fun m l=>usL (ptD F (pbN F m) (piN F m)) l,fun l=>decide (1<=l)&&decide (Int.ofNat l<=F.pa)⟩
noncomputable def Qdma (F:GFun) (n l:Nat):Bool:= !(Qjka F).unB l n
theorem behF (F:GFun) (m:Nat) (S:B9z):Qcna (ptD F (pbN F m) (piN F m)) S=(Qjka F).be m S:=funext fun l=>Q5na (Q5ma F _ _) S l
end Go.Proofs.Ytemnfncbgalljab
