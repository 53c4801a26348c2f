/- Lemmas. No condition. -/
import Derived.Test.YtemnfncbgalljabX1
import Derived.Maps.Keyed
import Derived.Maps.RangeRun
namespace Go.Proofs.Ytemnfncbgalljab
open Go.RowKit
set_option linter.all false
def ExRow (E:O9z) (es:Nat) (v:Value) (n:Nat) (xs:List Value):Prop:=
 xs.length=n * es/\(∀u∈xs,u.oneCell'=true)/\
 ((v=.slice none 0 0/\n=0)\/∃g o cap cur ty,v=.slice (some ⟨g,o,none⟩) n cap/\E g=some (.cells cur ty (0,0))/\n<=cap/\cap<=maxLen/\o+cap * es<=cur.size/\(cur.toList.drop o).take (n * es)=xs)
theorem ExRow.nil (E:O9z) (es:Nat):ExRow E es (.slice none 0 0) 0 []:=⟨by simp,by simp,.inl ⟨rfl,rfl⟩⟩
theorem ExRow.own {E:O9z} {w:World} {es n:Nat} {v:Value} {xs:List Value} (h:ExRow E es v n xs) (hE:∀b o,v.ownBlock=some b->E b=some o->w.heap[b]? =some o):OwnR w es v n xs:=by
 obtain ⟨h1,h2,h3⟩:=h
 refine ⟨h1,h2,?_⟩
 rcases h3 with h3|⟨g,o,cap,cur,ty,rfl,h4,h5⟩
 · exact .inl h3
 · exact .inr ⟨g,o,cap,cur,ty,rfl,hE g _ rfl h4,h5⟩
theorem ExRow.to {E E':O9z} {es n:Nat} {v:Value} {xs:List Value} (h:ExRow E es v n xs) (hE:∀b,v.ownBlock=some b->E' b=E b):ExRow E' es v n xs:=by
 obtain ⟨h1,h2,h3⟩:=h
 refine ⟨h1,h2,?_⟩
 rcases h3 with h3|⟨g,o,cap,cur,ty,rfl,h4,h5⟩
 · exact .inl h3
 · exact .inr ⟨g,o,cap,cur,ty,rfl,(hE g rfl).trans h4,h5⟩
theorem ExRow.some {E:O9z} {es n:Nat} {v:Value} {xs:List Value} (h:ExRow E es v n xs) {b:Nat} (hb:v.ownBlock=some b):∃cur ty,E b=some (.cells cur ty (0,0)):=by
 rcases h.2.2 with ⟨rfl,_⟩|⟨g,o,cap,cur,ty,rfl,h4,_⟩
 · cases hb
 · cases hb;exact ⟨cur,ty,h4⟩
theorem ExRow.form {E:O9z} {es n:Nat} {v:Value} {xs:List Value} (h:ExRow E es v n xs):∃a c,v=.slice a n c:=by
 rcases h.2.2 with ⟨rfl,rfl⟩|⟨g,o,cap,cur,ty,rfl,_⟩
 · exact ⟨_,_,rfl⟩
 · exact ⟨_,_,rfl⟩
theorem ExRow.one {E:O9z} {es n:Nat} {v:Value} {xs:List Value} (h:ExRow E es v n xs):v.oneCell'=true:=by
 obtain ⟨a,c,rfl⟩:=h.form;rfl
section
variable {P:Program} {Q:E9z} {c:R9z} {w:World} {X:Inhabited Exs} {E:O9z}
end
section
open Go.ChangeMaps (setBlock)
open Go.Maps
structure MapW (es:Array MapEntry) (clock:Nat) (W:B9z):Prop where
 key:∀x∈es.toList,∃n:Nat,n<100000/\x.key=.int .i64 (.ofNat n)/\W n=true
 born:∀x∈es.toList,x.born<clock
 has:∀n,W n=true->∃x∈es.toList,x.key=.int .i64 (.ofNat n)
 nb:(es.toList.map (·.born)).Nodup
 nk:(es.toList.map (·.key)).Nodup
theorem Q2x:MapW #[] 0 (fun _=>false) where
 key:=fun x hx=>by simp at hx
 born:=fun x hx=>by simp at hx
 has:=fun n h=>by cases h
 nb:=by simp
 nk:=by simp
section
variable {P:Program} {w:World} {t k e m clock:Nat} {es:Array MapEntry} {W:B9z}
end
end
section
open Go.ChangeMaps (setBlock)
open Go.Maps
def Qola (E:O9z) (b:Nat) (o:Obj):Nat->Option Obj:=fun j=>if j=b then some o else E j
theorem Qle (E:O9z) (b:Nat) (o:Obj):Qola E b o b=some o:=by simp[Qola]
theorem Q8e {E:O9z} {b j:Nat} {o:Obj} (h:j≠b):Qola E b o j=E j:=by simp[Qola,h]
section
variable {P:Program} {Q:E9z} {c:R9z} {w:World} {E:O9z}
section
variable {t kt et m clock n:Nat} {es:Array MapEntry} {W:B9z} {o:Oper} {all:Array Oper} {rest:List Oper} {k:List Item} {st:St} {x y z:Operand}
end
end
end
section
variable {P:Program} {Q:E9z} {c:R9z} {w0:Base}
end
section
open Go.ChangeMaps (setBlock)
open Go.Maps
section
variable {P:Program} {Q:E9z} {c:R9z} {w:World} {E:O9z} {T:Tb}
variable {o:Oper} {all:Array Oper} {rest:List Oper} {k:List Item} {st:St} {t:Nat} {x y:Operand} {v:Value} {n es:Nat} {xs:List Value}
end
end
end Go.Proofs.Ytemnfncbgalljab
