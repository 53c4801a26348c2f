/- Lemmas. No condition. -/
import Derived.Test.YtemnfncbgalljabI1
import Derived.Test.YtemnfncbgalljabV1
import Derived.Shelf.Spec.SlicesInsert
import Derived.Shelf.Spec.SlicesInsertGrow
import Derived.Shelf.Slices.CompactI
import Derived.Shelf.Slices.Empties
import Derived.Shelf.Slices.SearchI
import Derived.Shelf.Slices.In.SortNone
import Derived.Shelf.Sort.Plain
import Derived.Lib.RowBridge
namespace Go.Proofs.Ytemnfncbgalljab
open Go.RowKit
set_option linter.all false
section
structure LiveG where
 ln:Nat
 N:Nat
 sc:Nat->List Nat
 us:Nat->Nat->Bool
 st:Nat->Nat->Bool
namespace LiveG
variable (G:LiveG)
def Z (l n:Nat):Prop:=n<G.N/\G.us n l=true
def R (l m n:Nat):Prop:=n<G.N/\m∈G.sc n/\G.st n l=false
abbrev LS:=(Nat->Nat->Bool)×(Nat->Bool)
def lft (B:B9y):Nat->Nat
 | 0=>0
 | n+1=>lft B n+FlowG.cnt (fun l=>!B n l) G.ln
structure RelL (M:B9z) (L:List Nat) (x y:LS):Prop where
 up:∀n l,x.1 n l=true->y.1 n l=true
 wk:∀n,x.2 n=true->y.2 n=true
 all:∀n∈L,∀l,l<G.ln->M l=true->y.1 n l=true
 chg:∀n,(∀l,l<G.ln->y.1 n l=x.1 n l)\/y.2 n=true
 new:∀n,y.2 n=true->x.2 n=true\/n∈L
 snd:∀n l,l<G.ln->y.1 n l=true->x.1 n l=true\/(n∈L/\M l=true)
 m:(∀n∈L,n<G.N)->lft G y.1 G.N+FlowG.cnt y.2 G.N<=lft G x.1 G.N+FlowG.cnt x.2 G.N
theorem RelL.trans {M:B9z} {L L':List Nat} {x y z:LS} (h1:RelL G M L x y) (h2:RelL G M L' y z):RelL G M (L++L') x z:=by
 refine ⟨fun n l h=>h2.up n l (h1.up n l h),fun n h=>h2.wk n (h1.wk n h),fun n hn l hl hM=>?_,fun n=>?_,fun n hn=>?_,fun n l hl h=>?_,fun hN=>?_⟩
 · rcases List.mem_append.1 hn with hn|hn
   · exact h2.up n l (h1.all n hn l hl hM)
   · exact h2.all n hn l hl hM
 · rcases h2.chg n with g|g
   · rcases h1.chg n with g'|g'
     · exact .inl fun l hl=>(g l hl).trans (g' l hl)
     · exact .inr (h2.wk n g')
   · exact .inr g
 · rcases h2.new n hn with h|h
   · rcases h1.new n h with h|h
     · exact .inl h
     · exact .inr (List.mem_append_left _ h)
   · exact .inr (List.mem_append_right _ h)
 · rcases h2.snd n l hl h with h|⟨h,g⟩
   · rcases h1.snd n l hl h with h|⟨h,g⟩
     · exact .inl h
     · exact .inr ⟨List.mem_append_left _ h,g⟩
   · exact .inr ⟨List.mem_append_right _ h,g⟩
 · exact Nat.le_trans (h2.m fun n hn=>hN n (List.mem_append_right _ hn)) (h1.m fun n hn=>hN n (List.mem_append_left _ hn))
theorem RelL.nil (M:B9z) (x:LS):RelL G M [] x x:=⟨fun _ _ h=>h,fun _ h=>h,fun _ h=>by simp at h,fun _=>.inl fun _ _=>rfl,fun _ h=>.inl h,fun _ _ _ h=>.inl h,fun _=>Nat.le_refl _⟩
variable {G}
end LiveG
end
section
open Go.RowKit Go.Shelf Go.Sort
section
variable {c:R9z} {w1 w2:World}
end
section
variable {P:Program} {ρ:Ren} {c:R9z}
end
section
variable {c:R9z}
variable {P:Program} {ρ:Ren}
end
end
section
open Go.RowKit Go.Shelf Go.Sort
end
end Go.Proofs.Ytemnfncbgalljab
