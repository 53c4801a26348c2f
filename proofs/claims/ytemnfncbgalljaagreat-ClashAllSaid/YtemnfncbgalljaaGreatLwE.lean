/- Lemmas. No condition. -/
import Derived.Test.YtemnfncbgalljaaGreatV6
namespace Go.Proofs.YtemnfncbgalljaaGreat
open Go.RowKit
set_option linter.all false
set_option maxRecDepth 100000
set_option maxHeartbeats 64000000
def Qrh:List Int->(Nat->Bool)->Nat->Bool
 | [],f=>f
 | x::l,f=>Qrh l (turn f x.toNat true)
theorem Q6n:∀(zs:List Int) (f:B9z) (l:Nat),(∀x∈zs,0<=x)->Qrh zs f l=(f l||zs.contains (Int.ofNat l))
 | [],f,l,_=>by simp[Qrh]
 | x::zs,f,l,h=>by
   rw[Qrh,Q6n zs _ l (fun y hy=>h y (List.mem_cons_of_mem _ hy))]
   have hx:=h x (by simp)
   unfold turn
   by_cases e:l=x.toNat
   · have e2:Int.ofNat l=x:=by simp only[Int.ofNat_eq_natCast];omega
     rw[if_pos e,e2];simp
   · have e2:¬Int.ofNat l=x:=fun g=>e (by rw[<-g];rfl)
     have e3:¬(l:Int)=x:=e2
     rw[if_neg e]
     simp[e3]
theorem Q9j {f g:B9z} (h:∀l,l<16->f l=g l):Qsl f=Qsl g:=by
 unfold Qsl
 rw[h 0 (by decide),h 1 (by decide),h 2 (by decide),h 3 (by decide),h 4 (by decide),h 5 (by decide),h 6 (by decide),h 7 (by decide),h 8 (by decide),h 9 (by decide),h 10 (by decide),h 11 (by decide),h 12 (by decide),h 13 (by decide),h 14 (by decide),h 15 (by decide)]
theorem Qpha {x:Int} {y:B9z} {o:Nat} (hx:0<=x/\x<16) (hy:y=turn (fun _=>false) x.toNat true) (ho:o=x.toNat):Qbc (Qka [.lit false,.lit false,.lit false,.lit false,.lit false,.lit false,.lit false,.lit false,.lit false,.lit false,.lit false,.lit false,.lit false,.lit false,.lit false,.lit false] o [.lit true]) (Qrb y):=by
 subst ho hy;exact Qcb true o9
theorem put1 {x:Int} {T y:B9z} {o:Nat} (hx:0<=x/\x<16) (hy:y=turn T x.toNat true) (ho:o=x.toNat):Qbc (Qka (Qrb T) o [.lit true]) (Qrb y):=by
 subst ho hy;exact Qsb T true o9
theorem Ql1 (r:GRv) (hs:r.ok=true) (w:World):
 Calls Tryz.prog 270 #[r.val] w (Ret w (Qsl (Qrh (rvU r) (fun _=>false)))):=by
 have hk:=Qkt hs
 have ha:r.k=1\/r.k=2\/r.k=3->r.a.k≠1->0<=r.a.p.l/\r.a.p.l<16:=fun g h=>by
  refine Qmd ?_ h
  simp only[GRv.ok,Bool.or_eq_true,Bool.and_eq_true,beq_iff_eq] at hs
  grind
 have hb:r.k=2\/r.k=3->r.b.k≠1->0<=r.b.p.l/\r.b.p.l<16:=fun g h=>by
  refine Qmd ?_ h
  simp only[GRv.ok,Bool.or_eq_true,Bool.and_eq_true,beq_iff_eq] at hs
  grind
 have hp:r.k=4\/r.k=5->0<=r.p.l/\r.p.l<16:=fun g=>by
  refine Qsg ?_
  simp only[GRv.ok,Bool.or_eq_true,Bool.and_eq_true,beq_iff_eq] at hs
  grind
 clear hs
 unfold rvK opK at hk
 obtain ⟨y,hy⟩:=x9 (Qrh (rvU r) (fun _=>false))
 rw[<-hy]
 unfold rvU opU at hy
 obtain ⟨rk,ro,rb,⟨ak,an,⟨al,ad,af⟩⟩,⟨ek,en,⟨el,ed,ef⟩⟩,⟨gl,gd,gf⟩⟩:=r
 simp only at hk ha hb hp hy
 rcases hk with ⟨rfl,rfl|rfl|rfl⟩|⟨rfl|rfl,rfl|rfl|rfl,rfl|rfl|rfl⟩|rfl|rfl
 all_goals
  try have hx:=ha (by decide) (by decide)
  try have hz:=hb (by decide) (by decide)
  try have hv:=hp (by decide)
  clear ha hb hp
  simp[Qrh] at hy
  obtain ⟨T,hT1⟩:=x9 (turn (fun _=>false) al.toNat true)
  try rw[<-hT1] at hy
  refine Qaa (args:=[.pt (.agg [.int .u8 _,.int .u8 ro,.int .u8 rb,.int .u8 _,.int .i64 an,.int .i64 al,.bool ad,.int .u8 af,.int .u8 _,.int .i64 en,.int .i64 el,.bool ed,.int .u8 ef,.int .i64 gl,.bool gd,.int .u8 gf])]) (c:=Qra) Tryz.func270 rfl (Qga _) rfl rfl ?_
  obtain ⟨_,_,_,hnt,_,har,_,hcm,_,_,_,_,ar01,ar12,_,hzpl,_,_,_,_,_,_,_,_,hT⟩:=Qca
  repeat' (first
   | (refine gov ?_;(try simp only[ar01,ar12]))
   | refine goa ?_|refine go3 (fun hlt=>?_) (fun hge=>?_)|refine go2 (fun h=>?_) (fun h=>?_)|exact go0|refine goz ?_|refine Qvha ?_ ?_
   | refine Qhha Tryz.func132 Tryz.results132 Tryz.call132 ?_
   | refine Qhha Tryz.func190 Tryz.results190 Tryz.call190 ?_
   | (with_reducible apply Qqa 3)
   | (((with_reducible apply Qxa);(·exact hx.1);(·have:=hx.2;omega)))
   | (((with_reducible apply Qxa);(·exact hz.1);(·have:=hz.2;omega)))
   | (((with_reducible apply Qxa);(·exact hv.1);(·have:=hv.2;omega)))
   | (((with_reducible apply Q5a (Qrb T));(·exact lt_of_eq_of_lt (Qzb al) (by have:=hx;show _<16;omega));(·exact Qpha hx hT1 (Qzb al));(·rfl);(·simp)))
   | (((with_reducible apply Q5a (Qrb y));(·exact lt_of_eq_of_lt (Qzb el) (by have:=hz;show _<16;omega));(·exact put1 hz hy (Qzb el));(·rfl);(·simp)))
   | (((with_reducible apply Q5a (Qrb y));(·exact lt_of_eq_of_lt (Qzb el) (by have:=hz;show _<16;omega));(·exact Qpha hz hy (Qzb el));(·rfl);(·simp)))
   | (((with_reducible apply Q5a (Qrb y));(·exact lt_of_eq_of_lt (Qzb gl) (by have:=hv;show _<16;omega));(·exact Qpha hv hy (Qzb gl));(·rfl);(·simp)))
   | fail)
  all_goals first
   | rfl
   | (rw[hy];rfl)
end Go.Proofs.YtemnfncbgalljaaGreat
