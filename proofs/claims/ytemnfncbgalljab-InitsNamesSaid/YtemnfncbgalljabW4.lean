/- Lemmas. No condition. -/
import Derived.Test.YtemnfncbgalljabV6
namespace Go.Proofs.Ytemnfncbgalljab
open Go.RowKit
set_option linter.all false
def Qbd (F:GFun) (n:Nat):List Nat:=if piN F n<F.sn (pbN F n) then [n+1] else (Qvd F (pbN F n)).map (stN F.sn)
theorem Qcg {F:GFun} {a:Nat} (ha:a<stN F.sn F.bn) {n:Nat}:n∈Qbd F a↔n∈Q0g F a:=by
 obtain ⟨h1,h2,h3⟩:=Qoc ha
 unfold Qbd Q0g Qgd
 split
 · simp only[List.map_cons,List.map_nil,List.mem_singleton]
   constructor
   · intro h;rw[h];omega
   · intro h;rw[h];omega
 · simp only[List.map_map,List.mem_map,Qvd]
   constructor
   · rintro ⟨k,hk,rfl⟩
     exact ⟨k,Q8k.2 hk,rfl⟩
   · rintro ⟨k,hk,rfl⟩
     exact ⟨k,Q8k.1 hk,rfl⟩
theorem Q9h {F:GFun} (hO:F.Ok) {a:Nat} (ha:a<stN F.sn F.bn):∀n∈Qbd F a,n<stN F.sn F.bn:=fun n hn=>Qgi hO ha n ((Qcg ha).1 hn)
section
namespace DnG
abbrev DS:=(Nat->Bool)×Bool
variable (rs:Nat->List Nat) (st:B9z)
def step (x:DS) (n:Nat):DS:=if (x.1 n||st n)=true then x else (fun j=>if j=n then (rs n).any x.1 else x.1 j,x.2||(rs n).any x.1)
def dn (R:B9z) (N:Nat):Nat->DS
 | 0=>(R,false)
 | k+1=>step rs st (dn R N k) (N - 1 - k)
def W (R:B9z) (N t:Nat):DS:=dn rs st R N (N - t)
end DnG
end
end Go.Proofs.Ytemnfncbgalljab
