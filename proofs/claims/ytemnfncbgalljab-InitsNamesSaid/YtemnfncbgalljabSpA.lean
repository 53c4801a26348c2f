/- Lemmas. No condition. -/
import Derived.Test.YtemnfncbgalljabI1
namespace Go.Proofs.Ytemnfncbgalljab
open Go.RowKit
set_option linter.all false
structure SwG where
 N:Nat
 sc:Nat->List Nat
 fire:Nat->Bool->Bool
 i0:Nat->Bool
namespace SwG
variable (G:SwG)
def Z (n:Nat):Prop:=(n<G.N/\G.i0 n=true)\/∃m,m<G.N/\G.fire m false=true/\n∈G.sc m
def R (m n:Nat):Prop:=m<G.N/\G.fire m true=true/\n∈G.sc m
noncomputable def sB (n:Nat):Bool:=clB G.Z G.R n
abbrev SS:=(Nat->Bool)×Bool
def put (x:SS) (q:Nat):SS:=(fun j=>if j=q then true else x.1 j,x.2||!x.1 q)
structure PutOk (N:Nat) (L:List Nat) (x y:SS):Prop where
 up:∀j,x.1 j=true->y.1 j=true
 all:∀q∈L,y.1 q=true
 old:∀j,y.1 j=true->x.1 j=true\/j∈L
 mo:x.2=true->y.2=true
 no:y.2=false->(∀j,y.1 j=x.1 j)
 le:Q5b y.1 N<=Q5b x.1 N
 lt:(∀q∈L,q<N)->y.2=true->x.2=true\/Q5b y.1 N<Q5b x.1 N
theorem PutOk.nil (N:Nat) (x:SS):PutOk N [] x x:=⟨fun _ h=>h,fun _ h=>by simp at h,fun _ h=>.inl h,fun h=>h,fun _ _=>rfl,Nat.le_refl _,fun _ h=>.inl h⟩
variable {G}
end SwG
end Go.Proofs.Ytemnfncbgalljab
