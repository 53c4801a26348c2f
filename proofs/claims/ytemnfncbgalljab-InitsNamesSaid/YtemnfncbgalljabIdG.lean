/- Lemmas. No condition. -/
import Derived.Test.YtemnfncbgalljabIdF
namespace Go.Proofs.Ytemnfncbgalljab
open Go.RowKit
set_option linter.all false
set_option maxHeartbeats 64000000
set_option maxRecDepth 100000
def lead (p:B9z):Nat->Option Nat
 | 0=>none
 | n+1=>match lead p n with
   | some k=>some k
   | none=>if p n=true then some n else none
theorem Qxka {p:B9z}:∀{n},(∀j,j<n->p j=false)->lead p n=none
 | 0,_=>rfl
 | n+1,h=>by
   simp only[lead,Qxka (n:=n) (fun j hj=>h j o9),h n o9]
   simp
theorem Qela {p:B9z} {k:Nat} (hp:p k=true) (h:∀j,j<k->p j=false):∀{n},k<n->lead p n=some k
 | n+1,hk=>by
   by_cases g:k<n
   · simp only[lead,Qela hp h g]
   · obtain rfl:k=n:=by omega
     simp only[lead,Qxka h,hp,if_true]
theorem Qula {p:B9z}:∀{n},(∃k,lead p n=some k/\k<n/\p k=true/\∀j,j<k->p j=false)\/(lead p n=none/\∀j,j<n->p j=false)
 | 0=>.inr ⟨rfl,fun j hj=>by omega⟩
 | n+1=>by
   rcases Qula (p:=p) (n:=n) with ⟨k,h1,h2,h3,h4⟩|⟨h1,h2⟩
   · exact .inl ⟨k,by simp only[lead,h1],by omega,h3,h4⟩
   · by_cases g:p n=true
     · exact .inl ⟨n,by simp only[lead,h1,g,if_true],by omega,g,h2⟩
     · refine .inr ⟨by simp only[lead,h1];rw[if_neg g],fun j hj=>?_⟩
       rcases Nat.lt_or_eq_of_le (Nat.le_of_lt_succ hj) with h|rfl
       · exact h2 j h
       · simpa using g
noncomputable def Qika (F:GFun) (n:Nat):Int:=Qcma (ptD F (pbN F n) (piN F n)) (Qdma F n)
noncomputable def firstI (F:GFun):Nat×Int×Int:=match lead (fun n=>decide (0<=Qika F n)) (stN F.sn F.bn) with
 | some n=>(n,Qika F n,0)
 | none=>(0,0,6)
noncomputable def Qqla (F:GFun):Int:=if (firstI F).2.2=6 then 0 else 44
theorem Qjma {F:GFun} {k:Nat} (hk:k<stN F.sn F.bn) (hp:0<=Qika F k) (h:∀j,j<k->Qika F j<0):firstI F=(k,Qika F k,0):=by
 unfold firstI
 rw[Qela (p:=fun n=>decide (0<=Qika F n)) (k:=k) (decide_eq_true hp) (fun j hj=>decide_eq_false (by have:=h j hj;omega)) hk]
theorem Qima {F:GFun} (h:∀j,j<stN F.sn F.bn->Qika F j<0):firstI F=(0,0,6):=by
 unfold firstI
 rw[Qxka (p:=fun n=>decide (0<=Qika F n)) (fun j hj=>decide_eq_false (by have:=h j hj;omega))]
theorem Qhma (F:GFun):(∃k,firstI F=(k,Qika F k,0)/\k<stN F.sn F.bn/\0<=Qika F k/\∀j,j<k->Qika F j<0)\/(firstI F=(0,0,6)/\∀j,j<stN F.sn F.bn->Qika F j<0):=by
 rcases Qula (p:=fun n=>decide (0<=Qika F n)) (n:=stN F.sn F.bn) with ⟨k,h1,h2,h3,h4⟩|⟨h1,h2⟩
 · exact .inl ⟨k,by unfold firstI;rw[h1],h2,of_decide_eq_true h3,fun j hj=>by have:=of_decide_eq_false (h4 j hj);omega⟩
 · exact .inr ⟨by unfold firstI;rw[h1],fun j hj=>by have:=of_decide_eq_false (h2 j hj);omega⟩
theorem Qnoa (F:GFun) (w:World) (hF:F.At w) (hz:fchkV F≠0):
 Calls Try.prog 18 #[F.val] w (Ret w (.tuple #[.slice none 0 0,.int .i64 (fchkV F)])):=by
 have h1 wc (hk:KB ⟨w,[]⟩ wc):=Qn7 F wc (hF.later hk)
 generalize fchkV F=z at h1 hz⊢
 have hq:decide (z=0)=false:=decide_eq_false hz
 clear hz
 obtain ⟨_,_,_,_,_,_,_,_,bn,_,_,sn,_,_,_,_,_,_,_,_,_,_,_,_⟩:=F
 obtain ⟨hX,hl,hb,hs,hj⟩:=hF
 simp only at hl hb hs hj
 refine Qaa (args:=[.pt (.agg (GFun.dat _))]) (c:=(Qwa _)) Try.func18 rfl hX rfl rfl ?_
 obtain ⟨_,_,_,hnt,_,har,_,hcm,_,_,_,_,ar01,ar12,_,hzpl,_,_,_,_,_,_,_,_,hT⟩:=Qca
 repeat' (first
  | refine goa ?_
  | (refine' Qiha Try.call35 ?_ ?_;rotate_left;(·intro wc hbc hxc;exact h1 wc hbc))
  | fail)
 all_goals rfl
theorem Q2ma (F:GFun) (w:World) (hF:F.At w) (hz:fchkV F≠0):
 Calls Try.prog 13 #[F.val] w (Ret w (.tuple #[.int .i64 0,.int .i64 0,.int .i64 (fchkV F)])):=by
 have h1 wc (hk:KB ⟨w,[]⟩ wc):=Qnoa F wc (hF.later hk) hz
 generalize fchkV F=z at h1 hz⊢
 have hq:decide (z=0)=false:=decide_eq_false hz
 clear hz
 obtain ⟨_,_,_,_,_,_,_,_,bn,_,_,sn,_,_,_,_,_,_,_,_,_,_,_,_⟩:=F
 obtain ⟨hX,hl,hb,hs,hj⟩:=hF
 simp only at hl hb hs hj
 refine Qaa (args:=[.pt (.agg (GFun.dat _))]) (c:=(Qwa _)) Try.func13 rfl hX rfl rfl ?_
 obtain ⟨_,_,_,hnt,_,har,_,hcm,_,_,_,_,ar01,ar12,_,hzpl,_,_,_,_,_,_,_,_,hT⟩:=Qca
 repeat' (first
  | refine goa ?_
  | (refine' Qiha Try.call18 ?_ ?_;rotate_left;(·intro wc hbc hxc;exact h1 wc hbc))
  | fail)
 all_goals rfl
theorem Qfna (F:GFun) (w:World) (hF:F.At w) (hO:F.Ok):
 Calls Try.prog 13 #[F.val] w (Ret w (.tuple #[.int .i64 (.ofNat (firstI F).1),.int .i64 (firstI F).2.1,.int .i64 (firstI F).2.2])):=by
 have h1 wc (hk:KB ⟨w,[]⟩ wc):=Qbpa F wc (hF.later hk) hO
 have h2 wc (hk:KB ⟨w,[]⟩ wc):=pointsN F wc (hF.later hk) hO
 have h30 wc (hk:KB ⟨w,[]⟩ wc) (a:Nat) (ha:a<stN F.sn F.bn):=Qxha F wc (hF.later hk) hO (pbN F a) (piN F a) (Qoc ha).1 (Qdma F a)
 have hN9:=hO.pts
 obtain ⟨N,hN⟩:=x9 (stN F.sn F.bn)
 obtain ⟨pb,hpb⟩:=x9 (pbN F:N9z)
 obtain ⟨pi,hpi⟩:=x9 (piN F:N9z)
 have hR:ptR (Qgb F.sn F.bn)=⟨N,2,fun j=>[.int .i64 (.ofNat (pb j)),.int .i64 (.ofNat (pi j))]⟩:=by rw[ptR,Q6b,hN,hpb,hpi];rfl
 rw[hR] at h2
 obtain ⟨rm,hrm⟩:=x9 (fun j=>mk (Qdma F j) F.ln:N9z)
 have hRM:(⟨stN F.sn F.bn,1,fun j=>[SC.int .u32 (.ofNat (mk (Qdma F j) F.ln))]⟩:ORow)=⟨N,1,fun j=>[SC.int .u32 (.ofNat (rm j))]⟩:=by rw[hrm,hN]
 rw[hRM] at h1
 obtain ⟨bx,hbx⟩:=x9 (fun a=>mk (Qcna (ptD F (pbN F a) (piN F a)) (Qdma F a)) F.ln:N9z)
 obtain ⟨ba,hba⟩:=x9 (Qika F:I9z)
 have h3 wc (hk:KB ⟨w,[]⟩ wc) (a:Nat) (ha:a<N):Calls Try.prog 37 #[F.val,.agg #[.int .i64 (.ofNat (pb a)),.int .i64 (.ofNat (pi a))],.int .u32 (.ofNat (rm a))] wc (Ret wc (.tuple #[.int .u32 (.ofNat (bx a)),.int .i64 (ba a)])):=by
  rw[hpb,hpi,hrm,hbx,hba];exact h30 wc hk a (hN▸ha)
 have hz1:∀k,k<N->0<=ba k->(∀j,j<k->ba j<0)->firstI F=(k,ba k,0):=fun k hk g1 g2=>by rw[hba] at g1 g2⊢;exact Qjma (hN▸hk) g1 g2
 have hz2:(∀j,j<N->ba j<0)->firstI F=(0,0,6):=fun g=>by rw[hba] at g;exact Qima (hN▸g)
 obtain ⟨f1,hf1⟩:=x9 (firstI F)
 rw[<-hf1] at hz1 hz2⊢
 rw[<-hN] at hN9
 clear hR hRM hrm hbx hba h30 hpb hpi hN hf1 hO
 obtain ⟨_,_,_,_,_,_,_,_,bn,_,_,sn,_,_,_,_,_,_,_,_,_,_,_,_⟩:=F
 obtain ⟨hX,hl,hb,hs,hj⟩:=hF
 simp only at hl hb hs hj
 try simp only at h1 h2 h3
 refine Qaa (args:=[.pt (.agg (GFun.dat _))]) (c:=(Qwa _)) Try.func13 rfl hX rfl rfl ?_
 obtain ⟨_,_,_,hnt,_,har,cm,hcm,_,_,_,_,ar01,ar12,_,hzpl,_,_,_,_,_,_,_,_,hT⟩:=Qca
 have hlo:∀{a},cm .geq (ba a) 0=false->ba a<0:=fun {a} h=>by
  rw[hcm] at h
  have h:decide (0<=ba a)=false:=h
  have:=of_decide_eq_false h
  omega
 have hhi:∀{a},cm .geq (ba a) 0=true->0<=ba a:=fun {a} h=>by
  rw[hcm] at h
  exact of_decide_eq_true (show decide (0<=ba a)=true from h)
 repeat' (first
  | refine goa ?_|refine go3 (fun hlt=>?_) (fun hge=>?_)|refine go2 (fun h=>?_) (fun h=>?_)|refine god ?_|refine gof ?_
  | ((with_reducible apply Qoa (hf:=Try.call18));(·intro S;cbv;try rfl);(·intro wc S hbc hxc hrc;exact h1 wc hbc);(·rfl))
  | ((with_reducible apply Qoa (hf:=Try.call26));(·intro S;cbv;try rfl);(·intro wc S hbc hxc hrc;exact h2 wc hbc);(·rfl))
  | (refine' Qiha Try.call37 ?_ ?_;rotate_left;(·intro wc hbc hxc;exact h3 wc hbc a y9))
  | ((with_reducible refine Qgha (σ:={a:Nat // a<=N/\∀j,j<a->ba j<0}) (zs9 [8,4,31,19]) (fun x=>[zc9 30 x.1]) (fun x=>[]) (fun x=>[]) (fun x=>N - x.1) ⟨0,by omega,fun j hj=>by omega⟩ ?_ ?_);(·exact pfp Qdb);(rintro ⟨a,ha,hok⟩ mm hmm))
  | ((with_reducible refine Qfha ⟨a+1,by omega,Q3b hok (hlo y9)⟩ ?_ ?_);(·exact msr o9 y9);(·exact pfp Qdb))
  | fail)
 all_goals first
  | (rw[hz1 a y9 (hhi y9) hok])
  | (have e:a=N:=by omega
     subst e
     rw[hz2 hok];rfl)
theorem Qboa (F:GFun) (w:World) (hF:F.At w) (hO:F.Ok):
 Calls Try.prog 14 #[F.val] w (Ret w (.int .i64 (Qqla F))):=by
 have h1 wc (hk:KB ⟨w,[]⟩ wc):=Qfna F wc (hF.later hk) hO
 have hz:(firstI F).2.2=0\/(firstI F).2.2=6:=by
  rcases Qhma F with ⟨k,h,_⟩|⟨h,_⟩<;>rw[h]
  · exact .inl rfl
  · exact .inr rfl
 have hi:((firstI F).2.2=0->Qqla F=44)/\((firstI F).2.2=6->Qqla F=0):=⟨fun h=>by unfold Qqla;rw[h];rfl,fun h=>by unfold Qqla;rw[h];rfl⟩
 obtain ⟨u,hu⟩:=x9 (Qqla F)
 rw[<-hu] at hi⊢
 generalize firstI F=f1 at h1 hz hi
 obtain ⟨x,y,z⟩:=f1
 simp only at h1 hz hi
 clear hO hu
 obtain ⟨_,_,_,_,_,_,_,_,bn,_,_,sn,_,_,_,_,_,_,_,_,_,_,_,_⟩:=F
 obtain ⟨hX,hl,hb,hs,hj⟩:=hF
 simp only at hl hb hs hj
 try simp only at h1
 rcases hz with rfl|rfl
 · rw[hi.1 rfl]
   refine Qaa (args:=[.pt (.agg (GFun.dat _))]) (c:=(Qwa _)) Try.func14 rfl hX rfl rfl ?_
   obtain ⟨_,_,_,hnt,_,har,_,hcm,_,_,_,_,ar01,ar12,_,hzpl,_,_,_,_,_,_,_,_,hT⟩:=Qca
   repeat' (first
    | refine goa ?_
    | (refine' Qiha Try.call13 ?_ ?_;rotate_left;(·intro wc hbc hxc;exact h1 wc hbc))
    | fail)
   all_goals rfl
 · rw[hi.2 rfl]
   refine Qaa (args:=[.pt (.agg (GFun.dat _))]) (c:=(Qwa _)) Try.func14 rfl hX rfl rfl ?_
   obtain ⟨_,_,_,hnt,_,har,_,hcm,_,_,_,_,ar01,ar12,_,hzpl,_,_,_,_,_,_,_,_,hT⟩:=Qca
   repeat' (first
    | refine goa ?_
    | (refine' Qiha Try.call13 ?_ ?_;rotate_left;(·intro wc hbc hxc;exact h1 wc hbc))
    | fail)
   all_goals rfl
end Go.Proofs.Ytemnfncbgalljab
