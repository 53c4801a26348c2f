/- Texts joined: OpenG OpenI. No condition. -/
import Derived.Test.YtemnfncbgalljaaGreatV4
import Derived.Test.YtemnfncbgalljaaGreatN7
namespace Go.Proofs.YtemnfncbgalljaaGreat
open Go.ChangeShapes Go.WideShapes Go.Deep
set_option linter.all false
section
set_option maxRecDepth 100000
section
variable {H:Type} {enc:TypeId×Value->H} {w:World} {base:Nat} {spare:Nat->Bool} {held:Bool}
theorem Q35 {ks:List KT} {a:Option Addr} {len:Nat} {el:Nat->List Value} (h:RowK enc Tryz.prog w base spare held ks a len) (h2:Q2j w a len ks.length el) (hl:∀i,i<len->(el i).length=ks.length):∀i,i<len->kIs enc Tryz.prog w base spare held ks (el i):=fun i hi=>by
 obtain ⟨b,o,h1,_,vs,h3,h4⟩:=h i hi
 obtain ⟨b',o',h5,_,h6⟩:=h2 i hi
 rw[h1] at h5
 simp only[Option.some.injEq,Addr.mk.injEq] at h5
 obtain ⟨rfl,rfl,_⟩:=h5
 have hv:=Qxn h3
 have:el i=vs:=List.ext_getElem? fun t=>by
  by_cases ht:t<ks.length
  · have e1:=List.getElem?_eq_getElem (l:=el i) (i:=t) (by rw[hl i hi];exact ht)
    have e2:=List.getElem?_eq_getElem (l:=vs) (i:=t) (by rw[hv];exact ht)
    have c1:=h6 t _ e1
    have c2:=h4 t _ e2
    rw[c1] at c2
    rw[e1,e2];exact c2
  · rw[List.getElem?_eq_none (by rw[hl i hi];omega),List.getElem?_eq_none (by omega)]
 rw[this];exact h3
theorem Q10 {s:GStmt} (h:kIs enc Tryz.prog w base spare held Q3s s.cells):0<=s.p.f:=by
 obtain ⟨n,e,hw⟩:=h.2.2.2.1
 cases e
 exact (bounds_u8 hw).1
theorem Qlx {vs:List Value} (h:kIs enc Tryz.prog w base (fun _=>true) held Qhr vs):∃B:BlkD,vs=B.cells/\(B.sn<=maxLen/\B.jn<=maxLen/\Q2j w B.sA B.sn 26 (fun i=>(B.s i).cells)/\Q2j w B.jA B.jn 5 (fun i=>(B.ja i).cells)/\(∀i,i<B.sn->0<=(B.s i).p.f)/\0<=B.jd.f):=by
 obtain ⟨B,rfl,b1,b2,b3,b4⟩:=Q00 h
 refine ⟨B,rfl,b1,b2,b3,b4,?_,?_⟩
 · obtain ⟨fuel,x,hx⟩:=h.1
   obtain ⟨sA,sn,sc,e,hs1,hs2⟩:=Qag Tryz.underlying48 (n:=5) (ks:=Q3s) (by kernel_rfl) (by decide) ⟨fuel,x,hx⟩
   cases e
   exact fun i hi=>Q10 (Q35 hs2 b3 (fun _ _=>rfl) i hi)
 · obtain ⟨n,e,hw⟩:=h.2.2.2.2.2.2.2.2.2.2.2.2.2.1
   cases e
   exact (bounds_u8 hw).1
theorem Q1u {W:World} {base b0:Nat} {r:Go.Reach} {v:Value} {d:DataW H} {p:List MemPlace} {held:Bool}
 (h:DataW.Trod enc Tryz.prog W base (fun _=>true) held 44 v d p) (hv:Value.okWide Tryz.prog W r b0 44 v):
 ∃F:GFun,v=F.val/\F.At W/\F.Ty8/\F.Fd:=by
 obtain ⟨c0,c1,c2,c3,y0,y1,y2,y3,m,rfl,rfl,rfl,hy0,hy1,hy2,hy3⟩:=Go.Joins.open_agg4 Tryz.underlying44 (by kernel_rfl) (by kernel_rfl) hv h
 obtain ⟨pa,e0,_,_⟩:=DataW.trod_int Tryz.underlying3 hy0
 obtain ⟨un,e1,_⟩:=DataW.trod_bool Tryz.underlying4 hy1
 simp at e0 e1
 subst e0 e1
 obtain ⟨lA,ln,lc,rfl,hl1,hl2⟩:=Qag Tryz.underlying41 (n:=5) (ks:=Qw2) (by kernel_rfl) (by decide) ⟨_,_,hy2⟩
 obtain ⟨bA,bn,bc,rfl,hb1,hb2⟩:=Qag Tryz.underlying42 (n:=5) (ks:=Qhr) (by kernel_rfl) (by decide) ⟨_,_,hy3⟩
 obtain ⟨lt,hl3,hl4⟩:=hl2.at ((0,0):Int×Int) (fun x=>[.int .u8 x.1,.int .u8 x.2]) (fun x=>0<=x.1/\x.1<=255/\0<=x.2/\x.2<=255) (fun vs h=>by
  obtain ⟨k,t,e,b⟩:=Qd5 h
  exact ⟨(k,t),e,b⟩)
 have zB:∃Z:BlkD,Z.sn=0/\Z.jn=0:=⟨⟨none,0,0,fun _=>.mk 0 .zero .zero .zero 0,none,0,0,fun _=>.zero,0,.zero,0,0,0,.zero⟩,rfl,rfl⟩
 obtain ⟨Z,z1,z2⟩:=zB
 obtain ⟨B,hB1,hB2⟩:=hb2.at Z BlkD.cells (fun B=>B.sn<=maxLen/\B.jn<=maxLen/\Q2j W B.sA B.sn 26 (fun i=>(B.s i).cells)/\Q2j W B.jA B.jn 5 (fun i=>(B.ja i).cells)/\(∀i,i<B.sn->0<=(B.s i).p.f)/\0<=B.jd.f) (fun vs h=>Qlx h)
 refine ⟨GFun.of pa un lA ln lc lt bA bn bc (fun i=>if i<bn then B i else Z),rfl,GFun.of_at hl3 (fun i hi=>?_) hl1 hb1 (fun i=>?_),fun i hi=>hl4 i hi,fun i hi=>?_⟩
 · have:=hB1 i hi
   simp only[if_pos hi]
   exact this
 · by_cases hi:i<bn
   · simp only[if_pos hi];have:=hB2 i hi;exact ⟨this.1,this.2.1,this.2.2.1,this.2.2.2.1⟩
   · simp only[if_neg hi,z1,z2]
     exact ⟨Nat.zero_le _,Nat.zero_le _,fun j hj=>absurd hj (Nat.not_lt_zero _),fun j hj=>absurd hj (Nat.not_lt_zero _)⟩
 · have hi:i<bn:=hi
   simp only[GFun.of,if_pos hi]
   exact (hB2 i hi).2.2.2.2
end
end
section
open Go.ChangeShapes Go.WideShapes Go.ChangeAt Go.RowKit
end
end Go.Proofs.YtemnfncbgalljaaGreat
