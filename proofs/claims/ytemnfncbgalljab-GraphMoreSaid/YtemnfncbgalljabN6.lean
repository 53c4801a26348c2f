/- Lemmas. No condition. -/
import Derived.Test.YtemnfncbgalljabN3
import Derived.Test.YtemnfncbgalljabN5
namespace Go.Proofs.Ytemnfncbgalljab
open Go.RowKit
set_option linter.all false
section
def GFun.Ok (F:GFun):Prop:=fchkV F=0
namespace GFun.Ok
variable {F:GFun}
theorem large (h:F.Ok):Q0c F=false:=by
 unfold GFun.Ok fchkV at h
 split at h
 · omega
 · rename_i g;simpa using g
theorem made (h:F.Ok):Qrf F=true:=by
 have hl:=h.large
 unfold GFun.Ok fchkV at h
 rw[hl] at h
 cases hm:Qrf F with
 | true=>rfl
 | false=>rw[hm] at h;simp at h
theorem twos (h:F.Ok):Qmo F=true:=by
 have hl:=h.large
 have hm:=h.made
 unfold GFun.Ok fchkV at h
 rw[hl,hm] at h
 cases ht:Qmo F with
 | true=>rfl
 | false=>rw[ht] at h;simp at h
theorem valid (h:F.Ok):Qed F.bn (Qjc F)=true:=by
 have:=h.made
 simp only[Qrf,Bool.and_eq_true] at this
 exact this.1
theorem okS (h:F.Ok) {b i:Nat} (hb:b<F.bn) (hi:i<F.sn b):(F.s b i).ok=true:=by
 have:=Qla.1 h.valid b hb
 simp only[Qjc,Bool.and_eq_true] at this
 exact Qla.1 this.1 i hi
theorem okJ (h:F.Ok) {b:Nat} (hb:b<F.bn):(F.jump b).ok=true:=by
 have:=Qla.1 h.valid b hb
 simp only[Qjc,Bool.and_eq_true] at this
 exact this.2
theorem head (h:F.Ok):Qin F=true:=by
 have:=h.made
 rw[Qrf,Qbg] at this
 simp only[Bool.and_eq_true] at this
 exact this.2.1.1
theorem bpos (h:F.Ok):0<F.bn:=by
 have:=h.made
 rw[Qrf,Qbg] at this
 simp only[Bool.and_eq_true,decide_eq_true_eq] at this
 exact this.2.1.2
theorem near (h:F.Ok) {b:Nat} (hb:b<F.bn):Qsp F b=true:=by
 have:=h.made
 rw[Qrf,Qbg] at this
 simp only[Bool.and_eq_true] at this
 exact Qla.1 this.2.2 b hb
theorem ln16 (h:F.Ok):F.ln<=16:=Q4s h.large
theorem lpos (h:F.Ok):0<F.ln:=by
 have:=h.head
 simp only[Qin,Bool.and_eq_true,Bool.not_eq_true',beq_eq_false_iff_ne] at this
 omega
theorem bn24 (h:F.Ok):F.bn<=24:=by
 have:=h.large
 simp only[Q0c,Bool.or_eq_false_iff,decide_eq_false_iff_not] at this
 omega
theorem sn24 (h:F.Ok) {b:Nat} (hb:b<F.bn):F.sn b<=24:=by
 have:=h.large
 simp only[Q0c,Bool.or_eq_false_iff,decide_eq_false_iff_not,Bool.not_eq_false'] at this
 exact of_decide_eq_true (Qla.1 this.2 b hb)
theorem jn8 (h:F.Ok) {b:Nat} (hb:b<F.bn):F.jn b<=8:=Qy0 (h.okJ hb)
theorem small (h:F.Ok):F.Sm:=⟨fun b hb=>by have:=h.sn24 hb;omega,by have:=h.bn24;omega,by have:=h.ln16;omega,fun b hb=>by have:=h.jn8 hb;omega⟩
theorem ins (h:F.Ok):F.In:=Qno F h.valid
theorem stIn (h:F.Ok) {b i:Nat} (hb:b<F.bn) (hi:i<F.sn b):∀q∈Q3e (F.s b i),0<=q.1.l/\q.1.l<F.ln:=fun q hq=>by
 have h1:=h.near hb
 simp only[Qsp,Bool.and_eq_true] at h1
 have h2:=Qla.1 h1.1.1 i hi
 simp only[Qvt,List.all_eq_true,decide_eq_true_eq] at h2
 exact ⟨(Qjz (h.ins.1 b i hb hi) q hq).1,h2 q hq⟩
theorem jmIn (h:F.Ok) {b:Nat} (hb:b<F.bn):∀q∈Qlp F b,0<=q.1.l/\q.1.l<F.ln:=fun q hq=>by
 have h1:=h.near hb
 simp only[Qsp,Bool.and_eq_true] at h1
 have h2:=h1.1.2
 simp only[Qvt,List.all_eq_true,decide_eq_true_eq] at h2
 exact ⟨(Qex (h.ins.2 b hb) q hq).1,h2 q hq⟩
theorem lead (h:F.Ok) {b:Nat} (hb:b<F.bn):∀n∈(F.jump b).leads,0<=n/\n<F.bn:=fun n hn=>by
 have h1:=h.near hb
 simp only[Qsp,Bool.and_eq_true,List.all_eq_true,decide_eq_true_eq] at h1
 refine ⟨?_,h1.2 n hn⟩
 have hj:=h.okJ hb
 simp only[GJump.ok,blk,Bool.or_eq_true,Bool.and_eq_true,beq_iff_eq,decide_eq_true_eq] at hj
 unfold GJump.leads at hn
 split at hn
 · simp at hn
 · split at hn
   · simp only[List.mem_cons,List.not_mem_nil,or_false] at hn
     rename_i g1 g2
     simp only[Bool.or_eq_true,beq_iff_eq,Bool.and_eq_true] at g1 g2
     grind
   · simp only[List.mem_cons,List.not_mem_nil,or_false] at hn
     rename_i g1 g2
     simp only[Bool.or_eq_true,beq_iff_eq] at g1
     grind
theorem chk (h:F.Ok) (w:World) (hF:F.At w):Calls Try.prog 35 #[F.val] w (Ret w (.int .i64 0)):=by
 have:=Qn7 F w hF
 rw[show fchkV F=0 from h] at this
 exact this
end GFun.Ok
end
def gfB (F:GFun):Bool:=decide (30<F.ln)||decide (30<F.bn)||!(Qed F.bn fun b=>decide (F.sn b<=30)&&decide (F.jn b<=12))
theorem Qfpa {F:GFun} (h:gfB F=false):F.Sm:=by
 simp only[gfB,Bool.or_eq_false_iff,decide_eq_false_iff_not,Bool.not_eq_false'] at h
 have h1:=Qla.1 h.2
 simp only[Bool.and_eq_true,decide_eq_true_eq] at h1
 exact ⟨fun b hb=>(h1 b hb).1,by omega,by omega,fun b hb=>(h1 b hb).2⟩
theorem Qw7 {cm:BinOp->Int->Int->Bool} (hcm:cm=rCm) {x m:Nat} (h:cm .gtr (.ofNat x) (@OfNat.ofNat Int m _)=false):decide (x<=m)=true:=Q3i (hcm▸h)
theorem Qx7 {cm:BinOp->Int->Int->Bool} (hcm:cm=rCm) {x m:Nat} (h:cm .gtr (.ofNat x) (@OfNat.ofNat Int m _)=true):decide (x<=m)=false:=Q3i (hcm▸h)
theorem Qfg {sn:N9z} {a b:Nat} (h:a<=b):stN sn a<=stN sn b:=by
 rcases Nat.lt_or_eq_of_le h with h|rfl
 · exact Nat.le_of_lt (Qgo sn h)
 · exact Nat.le_refl _
theorem Qi6 {sn:N9z} {a b i j:Nat} (hi:i<=sn a) (hj:j<=sn b) (h:stN sn a+i=stN sn b+j):a=b/\i=j:=by
 have e:a=b:=by
  rcases Nat.lt_trichotomy a b with g|g|g
  · have:=Qfg (sn:=sn) (show a+1<=b from g);simp only[stN] at this;omega
  · exact g
  · have:=Qfg (sn:=sn) (show b+1<=a from g);simp only[stN] at this;omega
 subst e
 exact ⟨rfl,by omega⟩
theorem Q9t {sn:N9z} {b bn i:Nat} (hb:b<bn) (hi:i<=sn b):stN sn b+i<stN sn bn:=by
 have:=Qfg (sn:=sn) (show b+1<=bn from hb)
 simp only[stN] at this;omega
theorem Q7l {F:GFun} {b i:Nat} (hb:b<F.bn) (hi:i<=F.sn b):pbN F (stN F.sn b+i)=b/\piN F (stN F.sn b+i)=i:=by
 obtain ⟨h1,h2,h3⟩:=Qoc (Q9t hb hi)
 obtain ⟨e1,e2⟩:=Qi6 h2 hi h3.symm
 exact ⟨e1,e2⟩
theorem Q8t {sn:N9z} {n:Nat} (hs:∀b,b<n->sn b<=24):∀b,b<=n->stN sn b<=b * 25
 | 0,_=>Nat.le_refl _
 | b+1,h=>by have:=Q8t hs b o9;have:=hs b o9;simp only[stN];omega
theorem GFun.Ok.pts {F:GFun} (h:F.Ok):stN F.sn F.bn<=600:=by
 have:=Q8t (sn:=F.sn) (fun b hb=>h.sn24 hb) F.bn (Nat.le_refl _)
 have:=h.bn24;omega
def GFun.ins (F:GFun) (b0 i0:Nat) (t:GStmt):GFun:={ F with
 sn:=fun b=>if b=b0 then F.sn b+1 else F.sn b
 s:=fun b i=>if b=b0 then (if i<i0 then F.s b i else if i=i0 then t else F.s b (i - 1)) else F.s b i }
section
variable {F:GFun} {b0 i0:Nat} {t:GStmt}
theorem Q0la:∀b,stN (F.ins b0 i0 t).sn b=stN F.sn b+if b0<b then 1 else 0
 | 0=>by simp[stN]
 | b+1=>by
   simp only[stN,Q0la b]
   simp only[GFun.ins]
   by_cases h:b=b0
   · subst h;simp;omega
   · rw[if_neg h]
     by_cases h':b0<b
     · rw[if_pos h',if_pos o9];omega
     · rw[if_neg h',if_neg o9];omega
theorem Qdoa:(F.ins b0 i0 t).bn=F.bn:=rfl
theorem Q2oa (hb0:b0<F.bn):stN (F.ins b0 i0 t).sn (F.ins b0 i0 t).bn=stN F.sn F.bn+1:=by
 rw[Q0la,Qdoa,if_pos hb0]
end
theorem RowIs.rowG {c:R9z} {w:World} {R:ORow} {a:Option Addr} {cap:Nat} (h:RowIs c w R (.slice a R.n cap)) {j:Nat} (hj:j<R.n):
 ∃b p,a=some ⟨b,p,none⟩/\b<w.heap.size/\∃vs,isL ⟨[],c,[]⟩ (R.el j) vs/\∀(t:Nat) (v:Value),vs[t]? =some v->w.cell? ⟨b,p+(j * R.es+t),none⟩=some v:=by
 obtain ⟨xs,hO,hE,hb⟩:=h
 rcases hO.2.2 with ⟨_,h0⟩|⟨g,o,cap',cur,ty,hv,hg,rest⟩
 · omega
 · cases hv
   refine ⟨g,o,rfl,hb g rfl,_,hE j hj,fun t v ht=>?_⟩
   simp only[List.getElem?_take,List.getElem?_drop] at ht
   split at ht
   · exact hO.cell ht
   · cases ht
end Go.Proofs.Ytemnfncbgalljab
