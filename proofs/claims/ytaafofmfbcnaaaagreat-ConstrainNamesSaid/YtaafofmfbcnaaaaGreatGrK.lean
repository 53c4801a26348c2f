/- Where steps lead, and which points are reached: the plain law. No condition. -/
import Derived.Test.YtaafofmfbcnaaaaGreatGrG
namespace Go.Proofs.YtaafofmfbcnaaaaGreat
open Go.RowKit
set_option linter.unusedVariables false
set_option linter.unusedSimpArgs false
theorem mem_sort2 {l:List Int} {x:Int}:x∈sort2 l↔x∈l:=by
 unfold sort2
 split
 · split
   · simp only[List.mem_cons,List.not_mem_nil,or_false];exact or_comm
   · exact Iff.rfl
 · exact Iff.rfl
theorem next_mem {F:GFun} (hO:F.Ok) {b i:Nat} (hb:b<F.bn) {p:Nat×Nat} (hp:p∈nextP F b i):p.1<F.bn∧p.2≤F.sn p.1∧(Reach F b→Reach F p.1):=by
 unfold nextP at hp
 split at hp
 · rename_i hi
   obtain rfl:=List.mem_singleton.1 hp
   exact ⟨hb,hi,id⟩
 · obtain ⟨n,hn,rfl⟩:=List.mem_map.1 hp
   have hn:=mem_sort2.1 hn
   have hm:n.toNat∈leadsN F b:=List.mem_map.2 ⟨n,hn,rfl⟩
   exact ⟨leadsN_lt hO hb _ hm,Nat.zero_le _,fun h=>.step h hm⟩
def nmN (F:GFun) (a k:Nat):Nat:=stN F.sn ((nextP F (pbN F a) (piN F a)).getD k (0,0)).1+((nextP F (pbN F a) (piN F a)).getD k (0,0)).2
theorem nmN_ok {F:GFun} (hO:F.Ok) {a k:Nat} (ha:a<stN F.sn F.bn) (hk:k<(nextP F (pbN F a) (piN F a)).length):
 let p:=(nextP F (pbN F a) (piN F a)).getD k (0,0)
 p.1<F.bn∧p.2≤F.sn p.1∧nmN F a k<stN F.sn F.bn∧pbN F (nmN F a k)=p.1∧piN F (nmN F a k)=p.2∧(Reach F (pbN F a)→Reach F p.1):=by
 have hm:(nextP F (pbN F a) (piN F a)).getD k (0,0)∈nextP F (pbN F a) (piN F a):=mem_of_getD hk rfl
 have q:=next_mem hO (num_pt ha).1 hm
 have e:=at_num q.1 q.2.1
 exact ⟨q.1,q.2.1,stN_lt q.1 q.2.1,e.1,e.2,q.2.2⟩
theorem pt_zero {F:GFun} (h:0<stN F.sn F.bn):pbN F 0=0∧piN F 0=0:=by
 obtain ⟨h1,h2,h3⟩:=num_pt h
 have:stN F.sn (pbN F 0)=0:=by omega
 have e:pbN F 0=0:=by
  rcases Nat.eq_zero_or_pos (pbN F 0) with h|h
  · exact h
  · have:=stN_mono F.sn h;simp only[stN] at this;omega
 exact ⟨e,by omega⟩
theorem pt_pred {F:GFun} {i:Nat} (h:i<stN F.sn F.bn) (hp:0<piN F i):0<i∧pbN F (i - 1)=pbN F i∧piN F (i - 1)=piN F i - 1:=by
 obtain ⟨h1,h2,h3⟩:=num_pt h
 have e:i - 1=stN F.sn (pbN F i)+(piN F i - 1):=by omega
 have:=at_num h1 (i:=piN F i - 1) (by omega)
 rw[←e] at this
 exact ⟨by omega,this.1,this.2⟩
theorem pts_pos {F:GFun} (hO:F.Ok):0<stN F.sn F.bn:=by
 have:=stN_mono F.sn hO.bpos
 simp only[stN] at this;omega
theorem reach_zero (F:GFun):reachB F 0=true:=reachB_iff.2 .zero
end Go.Proofs.YtaafofmfbcnaaaaGreat
