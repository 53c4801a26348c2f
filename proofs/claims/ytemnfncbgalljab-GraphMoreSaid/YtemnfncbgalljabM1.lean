/- Lemmas. No condition. -/
import Derived.Test.YtemnfncbgalljabRows
import Derived.WalkKit
import Derived.WalkLawsBesides
import Derived.WalkSpells
import Derived.Outline
import Derived.Below
import Derived.Lib.Hide
import Derived.Deep.Quiet
import Derived.Deep.QuietTactic
import Derived.BigQuiet
import Derived.ProofKit
namespace Go.Proofs.Ytemnfncbgalljab
open Go.RowKit
set_option linter.all false
theorem y9 {p:Prop} (h:p:=by assumption):p:=h
theorem o9 {p:Prop} (h:p:=by omega):p:=h
theorem x9 {α:Sort _} (a:α):∃x,x=a:=⟨a,rfl⟩
abbrev B9y:=Nat->Nat->Bool
abbrev B9z:=Nat->Bool
abbrev N9z:=Nat->Nat
abbrev I9z:=Nat->Int
abbrev E9z:=Exit->Act->World->Prop
abbrev O9z:=Nat->Option Obj
abbrev A9z:=BinOp->IntKind->Int->Int->Int
set_option maxHeartbeats 64000000
def Ret (w:World) (v:Value) (e:Ending) (w':World):Prop:=e=.returned v/\Below w.heap.size w w'
theorem Ret.mk {w w':World} {v:Value} {e:Ending} (h1:e=.returned v) (h2:Below w.heap.size w w'):Ret w v e w':=⟨h1,h2⟩
theorem Qf3 {v u:Value} (h:v=u):Ending.returned v=Ending.returned u:=by rw[h]
theorem Qyc {k:IntKind} {a b:Int} (h:a=b):Value.int k a=Value.int k b:=by rw[h]
@[go_sem] theorem lt_add_true {a b k : Nat} (h : a < b) : (a < b + k) = True := eq_true o9
@[go_sem] theorem le_true_of {a b : Nat} (h : a < b) : (a <= b) = True := eq_true o9
theorem Below.call {w W w':World} (h:Below w.heap.size w W) (hb:Below W.heap.size W w'):Below w.heap.size w w':=h.trans (hb.mono h.size)
theorem Q86 {W w1:World} (hb:Below W.heap.size W w1):(∀b o,b<W.heap.size->w1.cell? ⟨b,o,none⟩=W.cell? ⟨b,o,none⟩)/\(∀b o,b<W.heap.size->w1.frozen? ⟨b,o,none⟩=W.frozen? ⟨b,o,none⟩):=
 ⟨fun b o h=>hb.cell (p:=⟨b,o,none⟩) h,fun b o h=>hb.frozen (p:=⟨b,o,none⟩) h⟩
def Later (w:World):={ x:World // Below w.heap.size w x }
instance Later.nonempty {w:World}:Nonempty (Later w):=⟨⟨w,Below.refl _ _⟩⟩
def Later.wd {w:World} (x:Later w):World:=x.1
theorem Later.below {w:World} (x:Later w):Below w.heap.size w x.wd:=x.2
def Later.of {w w':World} (h:Below w.heap.size w w'):Later w:=⟨w',h⟩
theorem Later.cell {w:World} {b o:Nat} {v:Option Value} (h:w.cell? ⟨b,o,none⟩=v) (hb:b<w.heap.size) (x:Later w):x.wd.cell? ⟨b,o,none⟩=v:=
 (x.below.cell (p:=⟨b,o,none⟩) hb).trans h
theorem Later.call {P:Program} {f:FuncId} {args:Array Value} {w:World} {v:Value} {x:Later w} (h:Calls P f args x.wd (Ret x.wd v)):
 Calls P f args x.wd fun e w''=>e=.returned v/\∃y:Later w,w''=y.wd:=
 h.mono fun _ _ ⟨he,hb⟩=>⟨he,Later.of (x.below.trans (hb.mono x.below.size)),rfl⟩
theorem Qhg {P:Program} {id:Nat} {Q:E9z} {a:Act} {w:World} {l:List Oper} (hm:P.follows .mixedOrders=true) (hB:Region.lexB .any l.toArray=true)
 (h:wpQuiet P l.toArray (fun w'=>∃x:Later w,w'=x.wd) (fun a'=>∀w',(∃x:Later w,w'=x.wd)->Q .normal a' w') l a):(Code.region id l.toArray true).wp P Q a w:=
 wp_region_quiet (C:=fun w'=>∃x:Later w,w'=x.wd) hm hB ⟨Later.of (Below.refl _ _).drew,rfl⟩ (by simpa using h)
theorem Qdw (a b c d:Int) (w:World):(Op.equalIn 10000 55 (.agg #[.int .u8 a,.int .u8 b]) (.agg #[.int .u8 c,.int .u8 d])).run Try.prog w=.ok (a==c&&b==d) w:=by
 have u3:=Try.underlying5
 have a3:=Try.isAgg5
 have z3:=Try.sizeOf5
 have hS:Try.prog.underlying 55=some (.struct (Try.prog.fieldsOf 55)):=by kernel_rfl
 have hp:Try.prog.stoodInHeld 55=false:=by kernel_rfl
 rw[show (10000:Nat)=9999+1 from rfl,run_equalIn_agg w 9999 55 _ _ hS hp]
 simp only[Program.fieldsOf,Try.underlying55]
 go_simp
 by_cases h1:a=c<;>by_cases h2:b=d<;>simp[h1,h2]
@[go_sem high] theorem eql_type (a b c d : Int) (w : World) : (binOp .eql 55 (.agg #[.int .u8 a, .int .u8 b]) (.agg #[.int .u8 c, .int .u8 d])).run Try.prog w = .ok (.bool (a == c && b == d)) w := by
 rw[run_eql_struct,Qdw];rfl
@[go_sem high] theorem neq_type (a b c d : Int) (w : World) : (binOp .neq 55 (.agg #[.int .u8 a, .int .u8 b]) (.agg #[.int .u8 c, .int .u8 d])).run Try.prog w = .ok (.bool (!(a == c && b == d))) w := by
 rw[run_neq_struct,Qdw];rfl
def okB (k t:Int):Bool:=((k==1||k==2)&&t==0)||(3<=k&&k<=5&&(t==1||t==2))
def chk (k t:Int):Int:=if okB k t then 0 else 8
theorem Qg7 {k t:Int} (h:okB k t=true):chk k t=0:=by simp[chk,h]
theorem Qf7 {k t:Int} (h:okB k t=false):chk k t=8:=by simp[chk,h]
theorem Qhy (k t:Int):okB k t=true↔((k=1\/k=2)/\t=0)\/(3<=k/\k<=5/\(t=1\/t=2)):=by simp[okB,and_assoc]
theorem Qup (k t:Int):okB k t=true\/okB k t=false:=by cases okB k t<;>simp
def codeV (k t:Int):Int:=if okB k t then (if t=0 then k - 1 else 2 * (k - 2)+(t - 1)) else 0
def wK (j:Int):Int:=if j<2 then j+1 else j / 2+2
def wT (j:Int):Int:=if j<2 then 0 else j % 2+1
theorem Q81 (j:Int) (w:World) (h0:0<=j) (h7:j<=7):
 Calls Try.prog 77 #[.int .i64 j] w (Ret w (.agg #[.int .u8 (wK j),.int .u8 (wT j)])):=by
 by_cases h2:j<2
 · have hk:=Lib.hid (show wK j=j+1 from by rw[wK,if_pos h2])
   have ht:=Lib.hid (show wT j=0 from by rw[wT,if_pos h2])
   go_enter Try.func77,Try.ntmps77
   go_wp2
   rw[hk.out,ht.out]
   refine bodyPost_ret (by simp[results,Try.results77,go_sem];try rfl) rfl ⟨rfl,?_⟩
   repeat (first|exact Below.refl _ _|(refine Below.setCell ?_ (by simp) _)|(refine Below.alloc ?_ (by simp) _)|refine Below.drew ?_)
 · have hk:=Lib.hid (show wK j=j / 2+2 from by rw[wK,if_neg h2])
   have ht:=Lib.hid (show wT j=j % 2+1 from by rw[wT,if_neg h2])
   go_enter Try.func77,Try.ntmps77
   go_wp2
   rw[hk.out,ht.out]
   refine bodyPost_ret (by simp[results,Try.results77,go_sem];try rfl) rfl ⟨rfl,?_⟩
   repeat (first|exact Below.refl _ _|(refine Below.setCell ?_ (by simp) _)|(refine Below.alloc ?_ (by simp) _)|refine Below.drew ?_)
def Q06 (k t:Int):Int:=if okB k t then codeV k t else -1
theorem Qi9 {j k t:Int} (h0:0<=j) (h7:j<=7):(wK j=k/\wT j=t)↔(okB k t=true/\codeV k t=j):=by
 have e:(okB k t=true/\codeV k t=j)↔(((k=1\/k=2)/\t=0)\/(3<=k/\k<=5/\(t=1\/t=2)))/\(if t=0 then k - 1 else 2 * (k - 2)+(t - 1))=j:=by
  rw[<-Qhy]
  constructor
  · rintro ⟨h,h1⟩;rw[codeV,if_pos h] at h1;exact ⟨h,h1⟩
  · rintro ⟨h,h1⟩;exact ⟨h,by rw[codeV,if_pos h];exact h1⟩
 rw[e]
 clear e
 unfold wK wT
 constructor
 · rintro ⟨h1,h2⟩
   have h:((k=1\/k=2)/\t=0)\/(3<=k/\k<=5/\(t=1\/t=2)):=by
    split at h1<;>split at h2<;>omega
   refine ⟨h,?_⟩
   split at h1<;>split at h2<;>split<;>omega
 · rintro ⟨h,h1⟩
   split at h1<;>split<;>omega
theorem Q9l {k t:Int} (h:okB k t=true):0<=codeV k t/\codeV k t<=7:=by
 unfold codeV
 rw[if_pos h]
 rw[Qhy] at h
 split<;>omega
theorem Q0u (k t:Int) (w:World) (hk:0<=k) (hk':k<=255) (ht:0<=t) (ht':t<=255):
 Calls Try.prog 56 #[.agg #[.int .u8 k,.int .u8 t]] w (Ret w (.int .i64 (Q06 k t))):=by
 go_enter Try.func56,Try.ntmps56
 go_wp2
 go_loopw [3] (fun i wr=>∃j:Nat,j<=8/\i=.int .i64 j/\(∀m:Nat,m<j->¬(wK m=k/\wT m=t))/\Below w.heap.size w wr/\w.heap.size<wr.heap.size/\
  (∀o,wr.cell? ⟨w.heap.size,o,none⟩=(w.alloc (.cells #[.int .u8 k,.int .u8 t] 55)).cell? ⟨w.heap.size,o,none⟩)) (fun i _=>(8 - intOf i).toNat)
 case atStart=>exact ⟨0,by omega,rfl,fun m hm=>by omega,(Below.refl _ _).alloc (Nat.le_refl _) _,by simp,fun _=>rfl⟩
 case round=>
  obtain ⟨j,hj,rfl,hno,hB,hz,hcell⟩:=hrel
  have Hno:=Lib.hid hno
  clear hno
  by_cases hlt:j<8
  · have c0:=hcell 0
    have c1:=hcell 1
    simp at c0 c1
    have d0:=Later.cell c0 hz
    have d1:=Later.cell c1 hz
    have HC:=Lib.hid hcell
    clear hcell
    go_wp2
    refine Qhg (by kernel_rfl) (by kernel_rfl) ?_
    repeat go_big_quiet_step ((go_at_call 77;exact Later.call (Q81 _ _ o9 o9)))
    refine wpQuiet_nil ?_
    rintro _ ⟨x,rfl⟩
    have hBx:Below w.heap.size w x.wd:=hB.trans (x.below.mono o9)
    have hzx:w.heap.size<x.wd.heap.size:=Nat.lt_of_lt_of_le hz x.below.size
    have e0:=d0 x
    have e1:=d1 x
    clear d0 d1 c0 c1
    generalize hq:(wK ↑j==k&&wT ↑j==t)=q
    have Hq:=Lib.hid hq
    clear hq
    cases q
    · go_wp2
      go_roundw
      case rel=>
       refine ⟨j+1,by omega,by go_num,fun m hm=>?_,hBx,hzx,fun o=>?_⟩
       · rcases Nat.lt_or_eq_of_le (Nat.le_of_lt_succ hm) with h|rfl
         · exact Hno.out m h
         · simpa using Hq.out
       · exact (x.below.cell (p:=⟨w.heap.size,o,none⟩) hz).trans (HC.out o)
      case measure=>simp[intOf];omega
    · go_wp2
      go_ret
      rw[show Q06 k t=j from by
       have hq:=Hq.out
       simp only[Bool.and_eq_true,beq_iff_eq] at hq
       have:=(Qi9 o9 o9).1 hq
       rw[Q06,if_pos this.1,this.2]]
      exact ⟨rfl,hBx⟩
  · have:j=8:=by omega
    subst this
    go_wp2
    go_ret
    refine ⟨Qf3 (Qyc ?_),hB⟩
    rcases Qup k t with h|h
    · have:=Q9l h
      have h2:=Hno.out (codeV k t).toNat o9
      rw[Qi9 o9 o9] at h2
      exact absurd ⟨h,by omega⟩ h2
    · rw[Q06,h];rfl
theorem Q5p (k t:Int) (w:World) (hk:0<=k) (hk':k<=255) (ht:0<=t) (ht':t<=255):
 Calls Try.prog 39 #[.agg #[.int .u8 k,.int .u8 t]] w (Ret w (.int .i64 (chk k t))):=by
 go_enter Try.func39,Try.ntmps39
 go_wp2_with fail
 refine (Q0u k t _ o9 o9 o9 o9).mono ?_
 rintro e w1 ⟨rfl,hb⟩
 obtain ⟨hc,hf⟩:=Q86 hb
 have hB:Below w.heap.size w w1:=((Below.refl _ _).alloc (Nat.le_refl _) _).trans (hb.mono (by simp))
 rcases Qup k t with h|h
 · have hr:=Q9l h
   rw[Q06,if_pos h]
   have Hc:=Lib.hid (Qg7 h)
   generalize codeV k t=c at *
   clear h
   go_wp2
   go_ret
   rw[Hc.out]
   exact ⟨rfl,hB⟩
 · rw[Q06,if_neg (by simp[h])]
   have Hc:=Lib.hid (Qf7 h)
   clear h
   go_wp2
   go_ret
   rw[Hc.out]
   exact ⟨rfl,hB⟩
section
structure GPlace where
 l:Int
 d:Bool
 f:Int
structure GOper where
 k:Int
 n:Int
 p:GPlace
structure GRv where
 k:Int
 op:Int
 bo:Int
 a:GOper
 b:GOper
 p:GPlace
structure GStmt where
 k:Int
 p:GPlace
 r:GRv
 a:GOper
 l:Int
def GPlace.val (p:GPlace):Value:=.agg #[.int .i64 p.l,.bool p.d,.int .u8 p.f]
def GOper.val (o:GOper):Value:=.agg #[.int .u8 o.k,.int .i64 o.n,.int .i64 o.p.l,.bool o.p.d,.int .u8 o.p.f]
def GRv.val (r:GRv):Value:=.agg #[.int .u8 r.k,.int .u8 r.op,.int .u8 r.bo,.int .u8 r.a.k,.int .i64 r.a.n,.int .i64 r.a.p.l,.bool r.a.p.d,.int .u8 r.a.p.f,.int .u8 r.b.k,.int .i64 r.b.n,.int .i64 r.b.p.l,.bool r.b.p.d,.int .u8 r.b.p.f,.int .i64 r.p.l,.bool r.p.d,.int .u8 r.p.f]
def GStmt.val (s:GStmt):Value:=.agg #[.int .u8 s.k,.int .i64 s.p.l,.bool s.p.d,.int .u8 s.p.f,.int .u8 s.r.k,.int .u8 s.r.op,.int .u8 s.r.bo,.int .u8 s.r.a.k,.int .i64 s.r.a.n,.int .i64 s.r.a.p.l,.bool s.r.a.p.d,.int .u8 s.r.a.p.f,.int .u8 s.r.b.k,.int .i64 s.r.b.n,.int .i64 s.r.b.p.l,.bool s.r.b.p.d,.int .u8 s.r.b.p.f,.int .i64 s.r.p.l,.bool s.r.p.d,.int .u8 s.r.p.f,.int .u8 s.a.k,.int .i64 s.a.n,.int .i64 s.a.p.l,.bool s.a.p.d,.int .u8 s.a.p.f,.int .i64 s.l]
def GPlace.cells (p:GPlace):List Value:=[.int .i64 p.l,.bool p.d,.int .u8 p.f]
def GOper.cells (o:GOper):List Value:=[.int .u8 o.k,.int .i64 o.n]++o.p.cells
def GRv.cells (r:GRv):List Value:=[.int .u8 r.k,.int .u8 r.op,.int .u8 r.bo]++r.a.cells++r.b.cells++r.p.cells
def GStmt.cells (s:GStmt):List Value:=[.int .u8 s.k]++s.p.cells++s.r.cells++s.a.cells++[.int .i64 s.l]
theorem GPlace.len (p:GPlace):p.cells.length=3:=rfl
theorem GOper.len (o:GOper):o.cells.length=5:=rfl
theorem GRv.len (r:GRv):r.cells.length=16:=rfl
theorem GStmt.len (s:GStmt):s.cells.length=26:=rfl
def GPlace.zero:GPlace:=⟨0,false,0⟩
def GOper.zero:GOper:=⟨0,0,.zero⟩
def GRv.zero:GRv:=⟨0,0,0,.zero,.zero,.zero⟩
def GPlace.eqB (p q:GPlace):Bool:=p.l==q.l&&p.d==q.d&&p.f==q.f
def GOper.eqB (o q:GOper):Bool:=o.k==q.k&&o.n==q.n&&o.p.eqB q.p
def GRv.eqB (r q:GRv):Bool:=r.k==q.k&&r.op==q.op&&r.bo==q.bo&&r.a.eqB q.a&&r.b.eqB q.b&&r.p.eqB q.p
def GStmt.eqB (s q:GStmt):Bool:=s.k==q.k&&s.p.eqB q.p&&s.r.eqB q.r&&s.a.eqB q.a&&s.l==q.l
def GPlace.ok (p:GPlace):Bool:=decide (0<=p.l)&&decide (p.l<16)&&decide (p.f<=2)
def GOper.ok (o:GOper):Bool:=(o.k==1&&o.p.eqB .zero)||((o.k==2||o.k==3)&&o.n==0&&o.p.ok)
def GRv.ok (r:GRv):Bool:=
 (r.k==1&&r.a.ok&&r.b.eqB .zero&&r.p.eqB .zero&&r.op==0&&r.bo==0)||
 (r.k==2&&r.a.ok&&r.b.ok&&r.p.eqB .zero&&decide (1<=r.op)&&decide (r.op<=6)&&r.bo==0)||
 (r.k==3&&r.a.ok&&r.b.ok&&r.p.eqB .zero&&r.op==0&&r.bo==0)||
 (r.k==4&&r.a.eqB .zero&&r.b.eqB .zero&&r.p.ok&&r.op==0&&decide (1<=r.bo)&&decide (r.bo<=3))||
 (r.k==5&&r.a.eqB .zero&&r.b.eqB .zero&&r.p.ok&&r.op==0&&r.bo==0)
def GStmt.ok (s:GStmt):Bool:=
 (s.k==1&&s.p.ok&&s.r.ok&&s.a.eqB .zero&&s.l==0)||
 ((s.k==2||s.k==4)&&s.p.eqB .zero&&s.r.eqB .zero&&s.a.ok&&s.l==0)||
 (s.k==3&&s.p.eqB .zero&&s.r.eqB .zero&&s.a.eqB .zero&&decide (0<=s.l)&&decide (s.l<16))
structure GJump where
 k:Int
 a:GOper
 fn:Int
 nx:Int
 el:Int
 args:List GOper
 d:GPlace
structure GBlock where
 ss:List GStmt
 j:GJump
def GJump.val (j:GJump) (sl:Value):Value:=.agg #[.int .u8 j.k,.int .u8 j.a.k,.int .i64 j.a.n,.int .i64 j.a.p.l,.bool j.a.p.d,.int .u8 j.a.p.f,.int .i64 j.fn,.int .i64 j.nx,.int .i64 j.el,sl,.int .i64 j.d.l,.bool j.d.d,.int .u8 j.d.f]
def GJump.cells (j:GJump) (sl:Value):List Value:=[.int .u8 j.k]++j.a.cells++[.int .i64 j.fn,.int .i64 j.nx,.int .i64 j.el,sl]++j.d.cells
theorem GJump.len (j:GJump) (sl:Value):(j.cells sl).length=13:=rfl
def GBlock.cells (b:GBlock) (st sl:Value):List Value:=st::b.j.cells sl
theorem GBlock.len (b:GBlock) (st sl:Value):(b.cells st sl).length=14:=rfl
def blk (n:Int):Bool:=decide (0<=n)&&decide (n<24)
def GJump.bare (j:GJump):Bool:=j.fn==0&&j.args.isEmpty&&j.d.eqB .zero
def GJump.ok (j:GJump):Bool:=
 (j.k==1&&j.bare&&j.a.eqB .zero&&blk j.nx&&j.el==0)||
 (j.k==2&&j.bare&&j.a.ok&&blk j.nx&&blk j.el)||
 ((j.k==3||j.k==5)&&j.bare&&j.a.eqB .zero&&j.nx==0&&j.el==0)||
 (j.k==4&&j.a.eqB .zero&&decide (0<=j.fn)&&decide (j.fn<8)&&decide (j.args.length<=8)&&j.d.ok&&blk j.nx&&j.el==0&&j.args.all GOper.ok)
def GJump.leads (j:GJump):List Int:=
 if j.k==3||j.k==5 then [] else if j.k==2&&j.el !=j.nx then [j.nx,j.el] else [j.nx]
def GJump.ok2 (j:GJump):Bool:=
 let call:=j.k==4
 let branch:=j.k==2
 let next:=call||branch||j.k==1
 !((!next&&j.k !=3&&j.k !=5)||(!next&&j.nx !=0)||!blk j.nx||
  (!branch&&(j.el !=0||!j.a.eqB .zero))||!blk j.el||(branch&&!j.a.ok)||
  (!call&&(j.fn !=0||!j.args.isEmpty||!j.d.eqB .zero))||
  decide (j.fn<0)||decide (8<=j.fn)||decide (8<j.args.length))&&
 (!call||j.d.ok)&&j.args.all GOper.ok
theorem Qak:blk 0=true:=rfl
private theorem Qoo (n:Int):n=0\/(n==0)=false:=by
 by_cases h:n=0
 · exact .inl h
 · exact .inr (by simp[h])
private theorem g_lt (n:Int):decide (n<0)= !decide (0<=n):=by
 by_cases h:0<=n<;>simp[h]<;>omega
private theorem g_le (n:Int):decide (8<=n)= !decide (n<8):=by
 by_cases h:n<8<;>simp[h]<;>omega
private theorem Qhaa (n:Nat):decide (8<n)= !decide (n<=8):=by
 by_cases h:n<=8<;>simp[h]<;>omega
theorem GJump.ok2_eq (j:GJump):j.ok2=j.ok:=by
 obtain ⟨k,a,fn,nx,el,args,d⟩:=j
 by_cases h4:k=4
 · subst h4
   simp only[ok2,ok,g_lt,g_le,Qhaa,bne,show ((4:Int)==1)=false from rfl,show ((4:Int)==2)=false from rfl,show ((4:Int)==3)=false from rfl,show ((4:Int)==4)=true from rfl,show ((4:Int)==5)=false from rfl]
   rcases Qoo el with he|he
   · subst he
     simp only[Qak,show ((0:Int)==0)=true from rfl]
     cases a.eqB .zero<;>cases decide (0<=fn)<;>cases decide (fn<8)<;>cases decide (args.length<=8)<;>cases d.ok<;>cases blk nx<;>cases args.all GOper.ok<;>rfl
   · simp[he]
 have h4':(k==4)=false:=by simp[h4]
 cases args with
 | cons x xs=>simp[ok2,ok,bare,h4']
 | nil=>
   rcases Qoo fn with hf|hf
   · subst hf
     rcases Qoo el with he|he
     · subst he
       by_cases h1:k=1
       · subst h1;simp[ok2,ok,bare,Qak]
         cases a.eqB .zero<;>cases d.eqB .zero<;>cases blk nx<;>rfl
       by_cases h2:k=2
       · subst h2;simp[ok2,ok,bare,Qak]
         cases a.ok<;>cases d.eqB .zero<;>cases blk nx<;>rfl
       have h1':(k==1)=false:=by simp[h1]
       have h2':(k==2)=false:=by simp[h2]
       rcases Qoo nx with hn|hn
       · subst hn
         simp only[ok2,ok,bare,h1',h2',h4',Qak,bne]
         cases k==3<;>cases k==5<;>cases a.eqB .zero<;>cases d.eqB .zero<;>rfl
       · simp[ok2,ok,bare,h1',h2',h4',hn,bne]
     · by_cases h2:k=2
       · subst h2;simp[ok2,ok,bare]
         cases a.ok<;>cases d.eqB .zero<;>cases blk nx<;>cases blk el<;>rfl
       have h2':(k==2)=false:=by simp[h2]
       simp[ok2,ok,bare,h2',h4',he,bne]
   · simp[ok2,ok,bare,h4',hf,bne]
def Qi7 (n lo hi:Int):Int:=min (max n lo) hi
def GRv.own (r:GRv):GRv:=
 ⟨r.k,if r.k=2 then Qi7 r.op 1 6 else 0,if r.k=4 then Qi7 r.bo 1 3 else 0,
  if r.k=1\/r.k=2\/r.k=3 then r.a else .zero,if r.k=2\/r.k=3 then r.b else .zero,if r.k=4\/r.k=5 then r.p else .zero⟩
def GStmt.own (s:GStmt):GStmt:=
 ⟨s.k,if s.k=1 then s.p else .zero,if s.k=1 then s.r else .zero,if s.k=2\/s.k=4 then s.a else .zero,if s.k=3 then s.l else 0⟩
end
end Go.Proofs.Ytemnfncbgalljab
