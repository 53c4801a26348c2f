/- Lemmas. No condition. -/
import Derived.Test.YtemnfncbgalljaaGreatV3
import Derived.Scope
namespace Go.Proofs.YtemnfncbgalljaaGreat
open Go.RowKit Go.Shelf Go.Sort
set_option linter.all false
set_option maxHeartbeats 64000000
section
set_option maxRecDepth 100000
theorem Qk6 (s:GStmt) (hs:s.ok=true) (hf:0<=s.p.f) (w:World):
 Calls Tryz.prog 151 #[s.val] w (Ret w (.tuple #[.int .i64 (stS s),.int .i64 0])):=by
 have h1 (wc:World):=Qxr s wc
 rw[hs] at h1
 have h5 (wc:World):=Qq8 s.p hf wc
 obtain ⟨y,hy⟩:=x9 (stS s)
 rw[<-hy]
 unfold stS at hy
 obtain ⟨z,hz⟩:=x9 (wholeP s.p)
 rw[<-hz] at h5 hy
 clear hz hs hf
 obtain ⟨k,⟨ql,qd,qf⟩,⟨rk,rop,rbo,⟨ak,an,⟨al,ad,af⟩⟩,⟨bk,bn,⟨bl,bd,bf⟩⟩,⟨pl,pd,pf⟩⟩,⟨ck,cn,⟨cl,cd,cf⟩⟩,l⟩:=s
 simp only at h1 h5 hy
 cases z
 all_goals
  simp only[Bool.not_true,Bool.not_false] at h5
  refine Qaa (args:=[.pt (.agg (GStmt.sc _))]) (c:=Qra) Tryz.func151 rfl (Qga _) rfl rfl ?_
  obtain ⟨_,_,_,hnt,_,har,_,hcm,_,_,_,_,ar01,ar12,_,hzpl,_,_,_,_,_,_,_,_,hT⟩:=Qca
  repeat' (first
   | refine goa ?_|refine go2 (fun h=>?_) (fun h=>?_)
   | (refine' Qiha Tryz.call107 ?_ ?_;rotate_left;(·intro wc hbc hxc;exact h1 wc))
   | (refine' Qiha Tryz.call215 ?_ ?_;rotate_left;(·intro wc hbc hxc;exact h5 wc))
   | fail)
 all_goals (subst hy;simp_all)
def Qot (g:Nat->GOper):Nat->Nat->Bool
 | 0=>fun _=>false
 | i+1=>if (g i).k=1 then Qot g i else turn (Qot g i) (g i).p.l.toNat true
def tdS (F:GFun) (b:Nat):Nat->Bool:=if F.jk b=2 then Qot (fun _=>F.jo b) 1 else Qot (F.ja b) (F.jn b)
def jmS (F:GFun) (b:Nat):Nat->Bool:=
 let u:=if F.jk b=3 then turn (tdS F b) 0 true else tdS F b
 if wholeP (F.jd b)=true then u else turn u (F.jd b).l.toNat true
def Qss (S:B9z):Nat->List Int
 | 0=>[]
 | i+1=>Qss S i++if S i=true then [Int.ofNat i] else []
theorem Qjn (S:B9z):∀n,(Qss S n).length<=n
 | 0=>Nat.le_refl _
 | n+1=>by
   have:=Qjn S n
   simp only[Qss,List.length_append]
   split<;>simp<;>omega
theorem Qkn {S:B9z} {x:Int}:∀n,x∈Qss S n↔∃j,j<n/\S j=true/\x=Int.ofNat j
 | 0=>by simp[Qss]
 | n+1=>by
   rw[Qss,List.mem_append,Qkn n]
   constructor
   · rintro (⟨j,h1,h2⟩|h)
     · exact ⟨j,by omega,h2⟩
     · split at h
       · rename_i g;exact ⟨n,by omega,g,List.mem_singleton.1 h⟩
       · simp at h
   · rintro ⟨j,h1,h2,h3⟩
     rcases Nat.lt_or_eq_of_le (Nat.le_of_lt_succ h1) with h|rfl
     · exact .inl ⟨j,h,h2,h3⟩
     · right;rw[if_pos h2,h3];exact List.mem_singleton.2 rfl
theorem Qu0 {pl:Nat->Nat->Nat} {jn:Nat->(Nat->List SC)->(Nat->List SC)->Nat->List SC} (hpl:pl=fun x y=>x+y) (hjn:jn=rJn) {n:Nat} {el g:Nat->List SC} {L M:List Int} {t:Int} (h:RowLe ⟨n,1,el⟩ (inR L)) (e:M=L++[t]) (hg:Qbc (g 0) [.int .i64 t]):RowLe ⟨pl n 1,1,jn n el g⟩ (inR M):=by
 subst e
 have hn:n=L.length:=h.n
 refine Q7a hpl hjn (by rw[List.length_append,<-hn];rfl) (fun j hj=>?_) ?_
 · have:=h.el j hj
   simp only[inR] at this
   rw[show (L++[t]).getD j 0=L.getD j 0 by simp[List.getD,List.getElem?_append_left (show j<L.length by omega)]]
   exact this
 · rw[hn,show (L++[t]).getD L.length 0=t by simp[List.getD]]
   exact hg
theorem Qah {p:Prop} (h:p:=by (first|((try with_reducible refine Q8c ?_ ?_ ?_ ?_);all_goals (cbv;(try simp only[true_and,and_true]);(try ((repeat' apply And.intro)<;>(first|trivial|rfl|exact RowLe.rfl' _|decide|(rw[Qda har _ o9];done)|((refine Q0a (by rw[x0,hln];rfl) (fun j hj=>absurd hj (Nat.not_lt_zero _))))|((exact hk2 i y9))|((rw[x1 i y9];exact RowLe.rfl' _))|((have g:=hge y9;have haN:i=16:=o9;subst haN;exact RowLe.rfl' _))|fail))));done)|fail)):Pf p:=⟨h⟩
theorem Qg5 (S:B9z) (w:World):
 Calls Tryz.prog 219 #[Qsl S] w (RetR w Qra (.pt (.one (.rs 0))) [inR (Qss S 16)]):=by
 obtain ⟨X,hX'⟩:=x9 (Qss S:Nat->List Int)
 have x0:X 0=[]:=by rw[hX'];rfl
 have x1:∀i,S i=false->X (i+1)=X i:=fun i h=>by rw[hX'];simp only[Qss,h,Bool.false_eq_true,if_false,List.append_nil]
 have x2:∀i,S i=true->X (i+1)=X i++[Int.ofNat i]:=fun i h=>by rw[hX'];simp only[Qss,if_pos h]
 have xl:∀i,(X i).length<=i:=fun i=>by rw[hX'];exact Qjn _ i
 rw[<-hX']
 obtain ⟨ln_,hln⟩:=x9 (List.length:List Int->Nat)
 obtain ⟨tc,htc⟩:=x9 (fun L j=>L.getD j 0:List Int->Nat->Int)
 have hRX:∀L,inR L=⟨ln_ L,1,fun j=>[.int .i64 (tc L j)]⟩:=fun L=>by rw[inR,hln,htc]
 clear hX'
 rw[hRX]
 have xl2:∀i,ln_ (X i)<=i:=fun i=>by rw[hln];exact xl i
 refine Qaa (args:=[.pt (.agg (Qrb S))]) (c:=Qra) Tryz.func219 rfl (Qga _) rfl rfl ?_
 obtain ⟨_,_,_,hnt,_,har,cm,hcm,_,_,_,_,ar01,ar12,zpl,hzpl,zjn,hzjn,_,_,_,_,_,_,hT⟩:=Qca
 have c1:∀i:Nat,i<16->cm .lss (.ofNat i) 16=true:=fun i hi=>by rw[hcm];exact decide_eq_true (show (i:Int)<16 by omega)
 have hk2:∀i,S i=true->RowLe ⟨zpl (ln_ (X i)) 1,1,zjn (ln_ (X i)) (fun j=>[.int .i64 (tc (X i) j)]) (fun j=>Qte [.int .i64 (.ofNat i)] (0+j * 1) 1)⟩ ⟨ln_ (X (i+1)),1,fun j=>[.int .i64 (tc (X (i+1)) j)]⟩:=fun i h=>by
  rw[<-hRX]
  exact Qu0 hzpl hzjn (L:=X i) (by rw[hRX];exact RowLe.rfl' _) (x2 i h) (Qpa _)
 have hlt:∀{i:Nat},cm .lss (.ofNat i) 16=true->i<16:=fun {i} h=>by rw[hcm] at h;have:=of_decide_eq_true h;simp only[Int.ofNat_eq_natCast] at this;omega
 have hge:∀{i:Nat},cm .lss (.ofNat i) 16=false->16<=i:=fun {i} h=>by rw[hcm] at h;have:=of_decide_eq_false h;simp only[Int.ofNat_eq_natCast] at this;omega
 repeat' (first
  | refine go1 ?_|refine go2 (fun h=>?_) (fun h=>?_)
  | exact gor (ha:=Qah) (hb:=Qah)
  | refine gob ?_
  | ((with_reducible refine Q4c ?_ ?_);(·first|((rw[hzpl];exact Nat.le_trans (Nat.add_le_add_right (xl2 i) 1) (show i+1<=1073741824 from by omega)))))
  | ((with_reducible apply Qud 3 1);(·(cbv;try rfl)))
  | ((with_reducible refine Qgha (σ:={i:Nat // i<=16}) (zs9 [4,2,8,9]) (fun x=>[zc9 7 x.1]) (fun x=>[]) (fun x=>[(0,⟨ln_ (X x.1),1,fun j=>[.int .i64 (tc (X x.1) j)]⟩)]) (fun x=>16 - x.1) ⟨0,by omega⟩ ?_ ?_);(·exact pfp Qah);(rintro ⟨i,hi⟩ mm hmm))
  | (((with_reducible refine Q3f (.bool (S i)) ?_ rfl ?_);(·exact Qvh S (hlt y9))))
  | ((with_reducible refine Qfha (⟨i+1,Nat.succ_le_of_lt (hlt y9)⟩:{i:Nat // i<=16}) ?_ ?_);(·subst hmm;(have q:=hlt y9;show 16 - (i+1)<16 - i;omega));(·exact pfp Qah))
  | fail)
end
section
set_option maxRecDepth 100000
section
variable {P:Program} {Q:E9z} {c:R9z} {w0:Base}
theorem Q8x {e:Exit} {a:Act} {w:World} (h:Exit.noGoto Q e a w):Q e a w:=by cases e<;>first|exact h|exact h.elim
theorem Qhn {b1 b2:Code} {st:St} (h:Goes P (Exit.noGoto Q) c w0 [.code b1,.code b2] st):Goes P Q c w0 [.code (.seq b1 (.scope b2))] st:=
 ⟨fun e s a w hc F=>wp_seq (wp_mono (h.run e s a w hc F) fun e a w h=>by
  cases e
  case normal=>exact wp_scope_straight h
  all_goals exact Q8x h)⟩
theorem Qsw {st:St} (h:OutOk P Q c w0 (.ret st)):OutOk P (Exit.noGoto Q) c w0 (.ret st):=⟨fun e s a w hc F=>h.ok e s a w hc F⟩
end
theorem Qcb (v:Bool) {o:Nat} (h:o<16):Qbc (Qka [.lit false,.lit false,.lit false,.lit false,.lit false,.lit false,.lit false,.lit false,.lit false,.lit false,.lit false,.lit false,.lit false,.lit false,.lit false,.lit false] o [.lit v]) (Qrb (turn (fun _=>false) o v)):=by
 rcases Q87 h with rfl|rfl|rfl|rfl|rfl|rfl|rfl|rfl|rfl|rfl|rfl|rfl|rfl|rfl|rfl|rfl<;>simp[Qrb,Qka,Qbc,Qre,turn]
theorem Qtj {p:Prop} (h:p:=by (first|((try with_reducible refine Q8c ?_ ?_ ?_ ?_);all_goals (cbv;(try simp only[true_and,and_true]);(try ((repeat' apply And.intro)<;>(first|trivial|rfl|exact RowLe.rfl' _|decide|(rw[Qda har _ o9];done)|((rw[t0];done))|((rw[Qda har i (by have:=hj b;omega)]))|((rw[t1 i (of_decide_eq_true y9)];done))|fail))));done)|fail)):Pf p:=⟨h⟩
theorem Q1aa (F:GFun) (b:Nat) (w:World) (hF:F.At w) (h2:F.jk b=2->(F.jo b).k≠1->0<=(F.jo b).p.l/\(F.jo b).p.l<16) (h3:∀i,i<F.jn b->(F.ja b i).k≠1->0<=(F.ja b i).p.l/\(F.ja b i).p.l<16):
 Calls Tryz.prog 217 #[Q6z F b,.bool false] w (Ret w (Qsl (tdS F b))):=by
 obtain ⟨y,hy⟩:=x9 (tdS F b)
 rw[<-hy]
 unfold tdS at hy
 by_cases hk:F.jk b=2
 · rw[if_pos hk] at hy
   replace h2:=h2 hk
   clear h3
   obtain ⟨pa,un,lA,ln,lc,lk,lt,bA,bn,bc,sA,sn,sc,s,jA,jn,jc,ja,jk,jo,jf,jx,je,jd⟩:=F
   obtain ⟨hX,hl,hb,hs,hj⟩:=hF
   simp only at hl hb hs hj
   simp only[Qot] at hk hy h2
   refine Qaa (args:=[.pt (.agg [.int .u8 (jk b),.int .u8 (jo b).k,.int .i64 (jo b).n,.int .i64 (jo b).p.l,.bool (jo b).p.d,.int .u8 (jo b).p.f,.int .i64 (jf b),.int .i64 (jx b),.int .i64 (je b),.xs 3 b,.int .i64 (jd b).l,.bool (jd b).d,.int .u8 (jd b).f]),.pt (.one (.lit false))]) (c:=(Qwa _)) Tryz.func217 rfl hX rfl rfl ?_
   obtain ⟨_,_,_,hnt,_,har,_,hcm,_,_,_,_,ar01,ar12,_,hzpl,_,_,_,_,_,_,_,_,hT⟩:=Qca
   have q1:decide (jk b=2)=true:=decide_eq_true hk
   refine Qhn ?_
   repeat' (first
    | (refine gov ?_;(try simp only[ar01,ar12]))
    | refine goa ?_|refine go2 (fun h=>?_) (fun h=>?_)|refine gof ?_
    | (with_reducible apply Qqa 3)
    | ((with_reducible apply Qsw))
    | (((with_reducible apply Qxa);(·exact (h2 (of_decide_eq_false y9)).1);(·have hq:=(h2 (of_decide_eq_false y9)).2;omega)))
    | (((with_reducible apply Q5a (Qrb y));(·have hq:=h2 (of_decide_eq_false y9);exact lt_of_eq_of_lt (Qzb (jo b).p.l) (by show _<16;omega));(·have hq:=h2 (of_decide_eq_false y9);have hp:=Qcb true (o:=(jo b).p.l.toNat) o9;rw[hy,if_neg (of_decide_eq_false y9)];(have ho:=Qzb (jo b).p.l);refine (congrArg (fun o=>Qbc (Qka [.lit false,.lit false,.lit false,.lit false,.lit false,.lit false,.lit false,.lit false,.lit false,.lit false,.lit false,.lit false,.lit false,.lit false,.lit false,.lit false] o [.lit true]) (Qrb (turn (fun _=>false) (jo b).p.l.toNat true))) ho).mpr hp);(·rfl);(·simp)))
    | fail)
   all_goals
    rw[hy]
    first
     | (rw[if_pos (of_decide_eq_true y9)];rfl)
     | (rw[if_neg (of_decide_eq_false y9)];rfl)
 · rw[if_neg hk] at hy
   clear h2
   obtain ⟨T,hT0⟩:=x9 (Qot (F.ja b))
   have t0:T 0=fun _=>false:=by rw[hT0];rfl
   have t1:∀i,(F.ja b i).k=1->T (i+1)=T i:=fun i h=>by rw[hT0];simp only[Qot,if_pos h]
   have t2:∀i,(F.ja b i).k≠1->T (i+1)=turn (T i) (F.ja b i).p.l.toNat true:=fun i h=>by rw[hT0];simp only[Qot,if_neg h]
   rw[<-hT0] at hy
   clear hT0
   obtain ⟨pa,un,lA,ln,lc,lk,lt,bA,bn,bc,sA,sn,sc,s,jA,jn,jc,ja,jk,jo,jf,jx,je,jd⟩:=F
   obtain ⟨hX,hl,hb,hs,hj⟩:=hF
   simp only at hl hb hs hj
   simp only at hk hy h3 t1 t2
   refine Qaa (args:=[.pt (.agg [.int .u8 (jk b),.int .u8 (jo b).k,.int .i64 (jo b).n,.int .i64 (jo b).p.l,.bool (jo b).p.d,.int .u8 (jo b).p.f,.int .i64 (jf b),.int .i64 (jx b),.int .i64 (je b),.xs 3 b,.int .i64 (jd b).l,.bool (jd b).d,.int .u8 (jd b).f]),.pt (.one (.lit false))]) (c:=(Qwa _)) Tryz.func217 rfl hX rfl rfl ?_
   obtain ⟨_,_,_,hnt,_,har,_,hcm,_,_,_,_,ar01,ar12,_,hzpl,_,_,_,_,_,_,_,_,hT⟩:=Qca
   have q1:decide (jk b=2)=false:=decide_eq_false hk
   refine Qhn ?_
   repeat' (first
    | refine goa ?_|refine go3 (fun hlt=>?_) (fun hge=>?_)|refine go2 (fun h=>?_) (fun h=>?_)|refine gof ?_
    | ((with_reducible apply Qsw))
    | (((with_reducible apply Qxa);(·exact (h3 _ y9 (of_decide_eq_false y9)).1);(·have hq:=(h3 _ y9 (of_decide_eq_false y9)).2;omega)))
    | (((with_reducible apply Q5a (Qrb (T (i+1))));(·have hq:=h3 i y9 (of_decide_eq_false y9);exact lt_of_eq_of_lt (Qzb (ja b i).p.l) (by show _<16;omega));(·have hq:=h3 i y9 (of_decide_eq_false y9);have hp:=Qsb (T i) true (o:=(ja b i).p.l.toNat) o9;rw[t2 i (of_decide_eq_false y9)];exact Eq.mpr (congrArg (fun o=>Qbc (Qka (Qrb (T i)) o [.lit true]) (Qrb (turn (T i) (ja b i).p.l.toNat true))) (Qzb (ja b i).p.l)) hp);(·rfl);(·simp)))
    | ((with_reducible refine Qgha (σ:={i:Nat // i<=jn b}) (zs9 [8,1,20,19]) (fun x=>[zc9 19 x.1]) (fun x=>[(2,Qrb (T x.1))]) (fun x=>[]) (fun x=>jn b - x.1) ⟨0,by omega⟩ ?_ ?_);(·exact pfp Qtj);(rintro ⟨i,hi⟩ mm hmm))
    | ((with_reducible refine Qfha (⟨i+1,by omega⟩:{i:Nat // i<=jn b}) ?_ ?_);(·exact Nat.lt_of_lt_of_eq (show jn b - (i+1)<jn b - i from by omega) (Eq.symm y9));(·exact pfp Qtj))
    | fail)
   have e:i=jn b:=by omega
   subst e
   rw[hy];rfl
theorem Qfx {F:GFun} {b:Nat} (hok:(F.jump b).ok=true):F.jk b=2->(F.jo b).k≠1->0<=(F.jo b).p.l/\(F.jo b).p.l<16:=fun hk ha=>(Q5h hok).1 hk ha
theorem Qgx {F:GFun} {b:Nat} (hok:(F.jump b).ok=true):∀i,i<F.jn b->(F.ja b i).k≠1->0<=(F.ja b i).p.l/\(F.ja b i).p.l<16:=fun i hi h1=>by
 by_cases hk:F.jk b=4
 · exact ((Q5h hok).2 hk).2 i hi h1
 · exfalso
   simp only[GJump.ok,GJump.bare,GPlace.eqB,GFun.jump,Bool.or_eq_true,Bool.and_eq_true,beq_iff_eq,decide_eq_true_eq] at hok
   have hl:=Quh (F.jn b) (F.ja b)
   have hn:(Q8j (F.jn b) (F.ja b)).isEmpty=true:=by grind
   rw[List.isEmpty_iff] at hn
   rw[hn] at hl
   simp at hl;omega
theorem Q1s {F:GFun} {b:Nat} (hok:(F.jump b).ok=true):wholeP (F.jd b)=false->F.jk b=4/\0<=(F.jd b).l/\(F.jd b).l<16:=fun h=>by
 have hk:F.jk b=4:=Classical.byContradiction fun hk=>by
  simp only[GJump.ok,GJump.bare,GPlace.eqB,GFun.jump,Bool.or_eq_true,Bool.and_eq_true,beq_iff_eq,decide_eq_true_eq] at hok
  have hn:(F.jd b).d=false/\(F.jd b).f=0:=by
   simp only[GPlace.zero] at hok
   grind
  simp[wholeP,hn.1,hn.2] at h
 exact ⟨hk,((Q5h hok).2 hk).1⟩
theorem Qa3 (p:GPlace) (hf:0<=p.f) (w:World):
 Calls Tryz.prog 218 #[.agg #[.int .i64 p.l,.bool p.d,.int .u8 p.f]] w (Ret w (.bool (!wholeP p))):=by
 obtain ⟨z,hz⟩:=x9 ( !wholeP p)
 obtain ⟨l,d,f⟩:=p
 simp only at hf⊢
 rw[<-hz]
 refine Qaa (args:=[.pt (.agg [.int .i64 l,.bool d,.int .u8 f])]) (c:=Qra) Tryz.func218 rfl (Qga _) rfl rfl ?_
 obtain ⟨_,hnd,_,hnt,_,har,_,hcm,_,_,_,_,ar01,ar12,_,hzpl,_,_,_,_,_,_,_,_,hT⟩:=Qca
 repeat' (first
  | refine go1 ?_|refine go2 (fun h=>?_) (fun h=>?_)
  | fail)
 all_goals
  subst hnd hnt hcm
  simp only[wholeP] at hz
  subst hz
  simp_all[rCm]
 all_goals (rw[Bool.eq_iff_iff];simp;omega)
theorem Q84 (F:GFun) (b:Nat) (w:World) (hF:F.At w) (hok:(F.jump b).ok=true) (hf:0<=(F.jd b).f):
 Calls Tryz.prog 153 #[Q6z F b] w (Ret w (.tuple #[.int .i64 (if F.jk b=4/\wholeP (F.jd b)=true then (F.jd b).l else -1),.int .i64 0])):=by
 have hXk wc (hk:KB ⟨w,[]⟩ wc) (b:Nat):=Qa4 (hF.later hk).ok b
 have h1 wc (hk:KB ⟨w,[]⟩ wc):=Qwn (F.jk b) (F.jf b) (F.jx b) (F.je b) (F.jo b).k (F.jo b).n (F.jo b).p.l (F.jo b).p.f (F.jd b).l (F.jd b).f (F.jo b).p.d (F.jd b).d (F.jA b) (F.jn b) (F.jc b) (F.ja b) wc (by unfold maxLen;exact hF.j b) (hXk wc hk b)
 have e:(GJump.mk (F.jk b) ⟨(F.jo b).k,(F.jo b).n,⟨(F.jo b).p.l,(F.jo b).p.d,(F.jo b).p.f⟩⟩ (F.jf b) (F.jx b) (F.je b) (Q8j (F.jn b) (F.ja b)) ⟨(F.jd b).l,(F.jd b).d,(F.jd b).f⟩).ok=true:=hok
 rw[e] at h1
 clear e hok hXk
 have h5 (wc:World):=Qa3 (F.jd b) hf wc
 obtain ⟨z,hz⟩:=x9 (wholeP (F.jd b))
 obtain ⟨y,hy⟩:=x9 (if F.jk b=4/\z=true then (F.jd b).l else -1:Int)
 rw[<-hz] at h5⊢
 rw[<-hy]
 clear hz hf
 obtain ⟨_,_,_,ln,_,_,_,_,bn,_,_,_,_,s,_,jn,_,ja,jk,jo,jf,jx,je,jd⟩:=F
 obtain ⟨hX,hl,hb,hs,hj⟩:=hF
 simp only at hl hb hs hj
 simp only at h1 h5 hy
 cases z
 all_goals
  simp only[Bool.not_true,Bool.not_false] at h5
  refine Qaa (args:=[.pt (.agg [.int .u8 (jk b),.int .u8 (jo b).k,.int .i64 (jo b).n,.int .i64 (jo b).p.l,.bool (jo b).p.d,.int .u8 (jo b).p.f,.int .i64 (jf b),.int .i64 (jx b),.int .i64 (je b),.xs 3 b,.int .i64 (jd b).l,.bool (jd b).d,.int .u8 (jd b).f])]) (c:=(Qwa _)) Tryz.func153 rfl hX rfl rfl ?_
  obtain ⟨_,_,_,hnt,_,har,_,hcm,_,_,_,_,ar01,ar12,_,hzpl,_,_,_,_,_,_,_,_,hT⟩:=Qca
  repeat' (first
   | refine goa ?_|refine go2 (fun h=>?_) (fun h=>?_)
   | (refine' Qiha Tryz.call112 ?_ ?_;rotate_left;(·intro wc hbc hxc;exact h1 wc hbc))
   | (refine' Qiha Tryz.call218 ?_ ?_;rotate_left;(·intro wc hbc hxc;exact h5 wc))
   | fail)
 all_goals (subst hy;simp_all)
theorem Q94 (F:GFun) (b:Nat) (w:World) (hF:F.At w) (hok:(F.jump b).ok=true) (hf:0<=(F.jd b).f):
 Calls Tryz.prog 152 #[Q6z F b] w (RetR w (Qwa F) (.tup [.one (.rs 0),.one (.int .i64 0)]) [inR (Qss (jmS F b) 16)]):=by
 have hXk wc (hk:KB ⟨w,[]⟩ wc) (b:Nat):=Qa4 (hF.later hk).ok b
 have h1 wc (hk:KB ⟨w,[]⟩ wc):=Qwn (F.jk b) (F.jf b) (F.jx b) (F.je b) (F.jo b).k (F.jo b).n (F.jo b).p.l (F.jo b).p.f (F.jd b).l (F.jd b).f (F.jo b).p.d (F.jd b).d (F.jA b) (F.jn b) (F.jc b) (F.ja b) wc (by unfold maxLen;exact hF.j b) (hXk wc hk b)
 have e:(GJump.mk (F.jk b) ⟨(F.jo b).k,(F.jo b).n,⟨(F.jo b).p.l,(F.jo b).p.d,(F.jo b).p.f⟩⟩ (F.jf b) (F.jx b) (F.je b) (Q8j (F.jn b) (F.ja b)) ⟨(F.jd b).l,(F.jd b).d,(F.jd b).f⟩).ok=true:=hok
 rw[e] at h1
 clear e hXk
 have h5 (wc:World):=Qa3 (F.jd b) hf wc
 have h2 wc (hk:KB ⟨w,[]⟩ wc):=Q1aa F b wc (hF.later hk) (Qfx hok) (Qgx hok)
 have hd:wholeP (F.jd b)=false->F.jk b=4/\0<=(F.jd b).l/\(F.jd b).l<16:=Q1s hok
 obtain ⟨T,hT0⟩:=x9 (tdS F b)
 obtain ⟨z,hz⟩:=x9 (wholeP (F.jd b))
 have hS:jmS F b=if z=true then (if F.jk b=3 then turn T 0 true else T) else turn (if F.jk b=3 then turn T 0 true else T) (F.jd b).l.toNat true:=by rw[hT0,hz];rfl
 rw[<-hz] at h5 hd
 rw[<-hT0] at h2
 rw[hS]
 clear hz hf hT0 hS hok
 by_cases hk:F.jk b=3
 · have hz:z=true:=by
    cases z
    · have:=(hd rfl).1;omega
    · rfl
   subst hz
   simp only[if_pos hk,if_true]
   obtain ⟨U,hU⟩:=x9 (turn T 0 true)
   rw[<-hU]
   have h3 (wc:World) {c:R9z}:=Calls.to (c':=c) (Qbf _) rfl (Qg5 U wc)
   clear hd
   obtain ⟨pa,un,lA,ln,lc,lk,lt,bA,bn,bc,sA,sn,sc,s,jA,jn,jc,ja,jk,jo,jf,jx,je,jd⟩:=F
   obtain ⟨hX,hl,hb,hs,hj⟩:=hF
   simp only at hl hb hs hj
   simp only[Bool.not_true] at h1 h5 h2 hk
   refine Qaa (args:=[.pt (.agg [.int .u8 (jk b),.int .u8 (jo b).k,.int .i64 (jo b).n,.int .i64 (jo b).p.l,.bool (jo b).p.d,.int .u8 (jo b).p.f,.int .i64 (jf b),.int .i64 (jx b),.int .i64 (je b),.xs 3 b,.int .i64 (jd b).l,.bool (jd b).d,.int .u8 (jd b).f])]) (c:=(Qwa _)) Tryz.func152 rfl hX rfl rfl ?_
   obtain ⟨_,_,_,hnt,_,har,_,hcm,_,_,_,_,ar01,ar12,_,hzpl,_,_,_,_,_,_,_,_,hT⟩:=Qca
   have q1:decide (jk b=3)=true:=decide_eq_true hk
   repeat' (first
    | refine goa ?_|exact go0|refine gof ?_
    | (refine' Qiha Tryz.call112 ?_ ?_;rotate_left;(·intro wc hbc hxc;exact h1 wc hbc))
    | (refine' Qiha Tryz.call217 ?_ ?_;rotate_left;(·intro wc hbc hxc;exact h2 wc hbc))
    | (refine' Qiha Tryz.call218 ?_ ?_;rotate_left;(·intro wc hbc hxc;exact h5 wc))
    | ((with_reducible apply Qoa (hf:=Tryz.call219));(·intro S;cbv;try rfl);(·intro wc S hbc hxc hrc;exact h3 wc);(·rfl))
    | (((with_reducible apply Q5a (Qrb U));(·exact Nat.zero_lt_succ _);(·rw[hU];exact Qsb T true (o:=0) (by decide));(·rfl);(·simp)))
    | fail)
 · simp only[if_neg hk]
   cases z
   · have hd:=(hd rfl).2
     simp only[Bool.false_eq_true,if_false]
     obtain ⟨U,hU⟩:=x9 (turn T (F.jd b).l.toNat true)
     rw[<-hU]
     have h3 (wc:World) {c:R9z}:=Calls.to (c':=c) (Qbf _) rfl (Qg5 U wc)
     obtain ⟨pa,un,lA,ln,lc,lk,lt,bA,bn,bc,sA,sn,sc,s,jA,jn,jc,ja,jk,jo,jf,jx,je,jd⟩:=F
     obtain ⟨hX,hl,hb,hs,hj⟩:=hF
     simp only at hl hb hs hj
     simp only[Bool.not_false] at h1 h5 h2 hU hk hd
     refine Qaa (args:=[.pt (.agg [.int .u8 (jk b),.int .u8 (jo b).k,.int .i64 (jo b).n,.int .i64 (jo b).p.l,.bool (jo b).p.d,.int .u8 (jo b).p.f,.int .i64 (jf b),.int .i64 (jx b),.int .i64 (je b),.xs 3 b,.int .i64 (jd b).l,.bool (jd b).d,.int .u8 (jd b).f])]) (c:=(Qwa _)) Tryz.func152 rfl hX rfl rfl ?_
     obtain ⟨_,_,_,hnt,_,har,_,hcm,_,_,_,_,ar01,ar12,_,hzpl,_,_,_,_,_,_,_,_,hT⟩:=Qca
     have q1:decide (jk b=3)=false:=decide_eq_false hk
     repeat' (first
      | refine goa ?_|exact go0
      | (refine' Qiha Tryz.call112 ?_ ?_;rotate_left;(·intro wc hbc hxc;exact h1 wc hbc))
      | (refine' Qiha Tryz.call217 ?_ ?_;rotate_left;(·intro wc hbc hxc;exact h2 wc hbc))
      | (refine' Qiha Tryz.call218 ?_ ?_;rotate_left;(·intro wc hbc hxc;exact h5 wc))
      | ((with_reducible apply Qoa (hf:=Tryz.call219));(·intro S;cbv;try rfl);(·intro wc S hbc hxc hrc;exact h3 wc);(·rfl))
      | (((with_reducible apply Qxa);(·exact hd.1);(·have:=hd.2;omega)))
      | (((with_reducible apply Q5a (Qrb U));(·exact lt_of_eq_of_lt (Qzb (jd b).l) (by show _<16;omega));(·have hp:=Qsb T true (o:=(jd b).l.toNat) o9;rw[hU];exact Eq.mpr (congrArg (fun o=>Qbc (Qka (Qrb T) o [.lit true]) (Qrb (turn T (jd b).l.toNat true))) (Qzb (jd b).l)) hp);(·rfl);(·simp)))
      | fail)
   · simp only[if_true]
     have h3 (wc:World) {c:R9z}:=Calls.to (c':=c) (Qbf _) rfl (Qg5 T wc)
     clear hd
     obtain ⟨pa,un,lA,ln,lc,lk,lt,bA,bn,bc,sA,sn,sc,s,jA,jn,jc,ja,jk,jo,jf,jx,je,jd⟩:=F
     obtain ⟨hX,hl,hb,hs,hj⟩:=hF
     simp only at hl hb hs hj
     simp only[Bool.not_true] at h1 h5 h2 hk
     refine Qaa (args:=[.pt (.agg [.int .u8 (jk b),.int .u8 (jo b).k,.int .i64 (jo b).n,.int .i64 (jo b).p.l,.bool (jo b).p.d,.int .u8 (jo b).p.f,.int .i64 (jf b),.int .i64 (jx b),.int .i64 (je b),.xs 3 b,.int .i64 (jd b).l,.bool (jd b).d,.int .u8 (jd b).f])]) (c:=(Qwa _)) Tryz.func152 rfl hX rfl rfl ?_
     obtain ⟨_,_,_,hnt,_,har,_,hcm,_,_,_,_,ar01,ar12,_,hzpl,_,_,_,_,_,_,_,_,hT⟩:=Qca
     have q1:decide (jk b=3)=false:=decide_eq_false hk
     repeat' (first
      | refine goa ?_|exact go0
      | (refine' Qiha Tryz.call112 ?_ ?_;rotate_left;(·intro wc hbc hxc;exact h1 wc hbc))
      | (refine' Qiha Tryz.call217 ?_ ?_;rotate_left;(·intro wc hbc hxc;exact h2 wc hbc))
      | (refine' Qiha Tryz.call218 ?_ ?_;rotate_left;(·intro wc hbc hxc;exact h5 wc))
      | ((with_reducible apply Qoa (hf:=Tryz.call219));(·intro S;cbv;try rfl);(·intro wc S hbc hxc hrc;exact h3 wc);(·rfl))
      | fail)
end
def uL (F:GFun) (b i:Nat):List Int:=if i<F.sn b then stU (F.s b i) else Qss (jmS F b) 16
def sI (F:GFun) (b i:Nat):Int:=if i<F.sn b then stS (F.s b i) else if F.jk b=4/\wholeP (F.jd b)=true then (F.jd b).l else -1
def uB (F:GFun) (b i l:Nat):Bool:=(uL F b i).contains (Int.ofNat l)
def GFun.Fd (F:GFun):Prop:=∀b,b<F.bn->(∀i,i<F.sn b->0<=(F.s b i).p.f)/\0<=(F.jd b).f
theorem Qmt {o:GOper} {x:Int} (may:Bool) (h:x∈opU o):∃q∈Qaj may o,q.1.l=x:=by
 unfold opU at h
 split at h
 · simp at h
 · rename_i g
   refine ⟨(o.p,may&&decide (o.k=3)),?_,(List.mem_singleton.1 h).symm⟩
   unfold Qaj;rw[if_neg g];exact List.mem_singleton.2 rfl
theorem Q58 {s:GStmt} (hs:s.ok=true) {x:Int} (h:x∈stU s):∃q∈Q3e s,q.1.l=x:=by
 have hk:s.k=1\/s.k=2\/s.k=3\/s.k=4:=by
  simp only[GStmt.ok,Bool.or_eq_true,Bool.and_eq_true,beq_iff_eq] at hs
  omega
 have hw:s.k≠1->wholeP s.p=true:=fun hk=>by
  simp only[GStmt.ok,GPlace.eqB,GPlace.zero,Bool.or_eq_true,Bool.and_eq_true,beq_iff_eq] at hs
  have:s.p.d=false/\s.p.f=0:=by grind
  simp[wholeP,this.1,this.2]
 have hr:s.k=1->s.r.k=1\/s.r.k=2\/s.r.k=3\/s.r.k=4\/s.r.k=5:=fun g=>by
  have hr:s.r.ok=true:=by
   simp only[GStmt.ok,Bool.or_eq_true,Bool.and_eq_true,beq_iff_eq] at hs
   grind
  have:=Qkt hr
  unfold rvK at this
  omega
 have hL:x∈stL s->s.k≠3->∃q∈Q3e s,q.1.l=x:=fun h h3=>by
  unfold stL at h
  rw[Qzx] at h
  by_cases h1:s.k=1
  · simp only[stR,if_pos h1] at h
    unfold Q3e
    rw[if_neg h3,if_neg o9,if_pos h1]
    unfold rvU at h
    split at h
    · rename_i g
      rw[if_neg o9,if_pos g]
      obtain ⟨q,h1,h2⟩:=Qmt true h
      exact ⟨q,List.mem_cons_of_mem _ h1,h2⟩
    · rename_i g
      split at h
      · rename_i g2
        rw[if_neg o9,if_neg g]
        rcases List.mem_append.1 h with h|h
        · obtain ⟨q,h1,h2⟩:=Qmt false h
          exact ⟨q,List.mem_cons_of_mem _ (List.mem_append_left _ h1),h2⟩
        · obtain ⟨q,h1,h2⟩:=Qmt false h
          exact ⟨q,List.mem_cons_of_mem _ (List.mem_append_right _ h1),h2⟩
      · rename_i g2
        have:=hr h1
        rw[if_pos o9]
        exact ⟨(s.r.p,false),by simp,(List.mem_singleton.1 h).symm⟩
  · simp only[stR,if_neg h1,rvU,if_true] at h
    unfold Q3e
    rw[if_neg h3,if_pos o9]
    exact Qmt false h
 unfold stU at h
 split at h
 · simp at h
 · rename_i h3
   split at h
   · rename_i g
     rcases Qwy.1 h with rfl|h
     · simp only[Bool.and_eq_true,Bool.not_eq_true'] at g
       have h1:s.k=1:=Classical.byContradiction fun e=>by rw[hw e] at g;simp at g
       unfold Q3e
       rw[if_neg h3,if_neg o9,if_pos h1]
       split
       · exact ⟨(s.p,false),by simp,rfl⟩
       · split
         · exact ⟨(s.p,false),by simp,rfl⟩
         · exact ⟨(s.p,false),by simp,rfl⟩
     · exact hL h h3
   · exact hL h h3
theorem Q3n {g:Nat->GOper} {l:Nat}:∀n,Qot g n l=true->(∀i,i<n->(g i).k≠1->0<=(g i).p.l)->∃i,i<n/\(g i).k≠1/\(g i).p.l=Int.ofNat l
 | 0,h,_=>by simp[Qot] at h
 | n+1,h,h0=>by
   simp only[Qot] at h
   split at h
   · obtain ⟨i,h1,h2⟩:=Q3n n h (fun i hi=>h0 i o9)
     exact ⟨i,by omega,h2⟩
   · rename_i g1
     simp only[turn] at h
     split at h
     · rename_i e
       exact ⟨n,by omega,g1,by have:=h0 n o9 g1;simp only[Int.ofNat_eq_natCast];omega⟩
     · obtain ⟨i,h1,h2⟩:=Q3n n h (fun i hi=>h0 i o9)
       exact ⟨i,by omega,h2⟩
theorem Qy7 {F:GFun} (hO:F.Ok) {b l:Nat} (hb:b<F.bn) (h:jmS F b l=true):l<F.ln:=by
 have hok:=hO.okJ hb
 have h2:=Qfx hok
 have h3:=Qgx hok
 have hd:=Q1s hok
 have htd:tdS F b l=true->l<F.ln:=fun h=>by
  unfold tdS at h
  split at h
  · rename_i hk
    obtain ⟨i,_,h4,h5⟩:=Q3n 1 h (fun i hi h1=>(h2 hk h1).1)
    have:=hO.jmIn hb (( F.jo b).p,false) (by unfold Qlp Qpi;rw[if_pos hk];unfold Qaj;rw[if_neg h4];simp)
    simp only[Int.ofNat_eq_natCast] at h5 this
    omega
  · rename_i hk
    obtain ⟨i,h6,h4,h5⟩:=Q3n (F.jn b) h (fun i hi h1=>(h3 i hi h1).1)
    have hk4:F.jk b=4:=Classical.byContradiction fun hk=>by
     simp only[GJump.ok,GJump.bare,GFun.jump,Bool.or_eq_true,Bool.and_eq_true,beq_iff_eq,decide_eq_true_eq] at hok
     have hl:=Quh (F.jn b) (F.ja b)
     have hn:(Q8j (F.jn b) (F.ja b)).isEmpty=true:=by grind
     rw[List.isEmpty_iff] at hn
     rw[hn] at hl
     simp at hl;omega
    have:=Q89 hO hb hk4 h6
    unfold Qraa at this
    simp only[Int.ofNat_eq_natCast] at h5
    omega
 have hu:(if F.jk b=3 then turn (tdS F b) 0 true else tdS F b) l=true->l<F.ln:=fun h=>by
  split at h
  · simp only[turn] at h
    split at h
    · have:=hO.lpos;omega
    · exact htd h
  · exact htd h
 unfold jmS at h
 split at h
 · exact hu h
 · rename_i hw
   simp only[turn] at h
   split at h
   · have hw:wholeP (F.jd b)=false:=by simpa using hw
     have hk:=hd hw
     have:=hO.jmIn hb (F.jd b,false) (by unfold Qlp Qpi;rw[if_neg o9,if_pos hk.1];simp)
     simp only at this
     omega
   · exact hu h
theorem Q4aa {F:GFun} (hO:F.Ok) {b i:Nat} (hb:b<F.bn) {x:Int} (h:x∈uL F b i):0<=x/\x<F.ln:=by
 unfold uL at h
 split at h
 · rename_i hi
   obtain ⟨q,h1,rfl⟩:=Q58 (hO.okS hb hi) h
   exact hO.stIn hb hi q h1
 · obtain ⟨j,_,h2,rfl⟩:=(Qkn 16).1 h
   have:=Qy7 hO hb h2
   simp only[Int.ofNat_eq_natCast];omega
theorem Qm6 (s:GStmt):(stU s).length<=3:=by
 unfold stU
 have h:=Qyx (rvU (stR s))
 have h2:=Q8y (stR s)
 have h3:(stL s).length<=2:=by unfold stL;omega
 split
 · simp
 · split
   · rw[Qvy (List.countP_le_length)];omega
   · omega
theorem Qe9 (F:GFun) (b i:Nat):(uL F b i).length<=16:=by
 unfold uL
 split
 · have:=Qm6 (F.s b i);omega
 · exact Qjn _ 16
end Go.Proofs.YtemnfncbgalljaaGreat
