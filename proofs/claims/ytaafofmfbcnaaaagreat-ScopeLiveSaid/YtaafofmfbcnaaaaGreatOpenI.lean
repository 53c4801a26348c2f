/- A row of ints as an argument. No condition. -/
import Derived.Test.YtaafofmfbcnaaaaGreatN7
namespace Go.Proofs.YtaafofmfbcnaaaaGreat
open Go.ChangeShapes Go.WideShapes Go.ChangeAt Go.RowKit
set_option linter.unusedVariables false
set_option linter.unusedSimpArgs false
set_option maxRecDepth 100000 in
theorem open_ints {H:Type} {enc:TypeId×Value→H} {W:World} {base b0:Nat} {r:Reach} {v:Value} {d:DataW H} {p:List MemPlace} {held:Bool}
 (h:DataW.Trod enc Tryz.prog W base (fun _=>true) held 87 v d p) (hv:Value.okWide Tryz.prog W r b0 87 v):
 ∃(a:Option Addr) (n cap:Nat) (f:Nat→Int),v=.slice a n cap∧n≤maxLen∧RowAt W a n 1 (fun i=>[.int .i64 (f i)]):=by
 obtain ⟨a0,len0,cap0,rfl⟩:=okWide_slice Tryz.underlying87 hv
 obtain ⟨fuel,hf⟩:=h
 obtain ⟨a,n,cap,e,h1,h2⟩:=open_rowK Tryz.underlying87 (n:=5) (ks:=[.i .i64]) (by kernel_rfl) (by decide) ⟨fuel,_,hf⟩
 obtain ⟨f,h3,_⟩:=h2.at (0:Int) (fun x=>[.int .i64 x]) (fun _=>True) (fun vs h=>by
  obtain ⟨v0,r0,rfl,⟨n0,rfl,_⟩,h0⟩:=kIs_cons h
  obtain rfl:=kIs_nil h0
  exact ⟨n0,rfl,trivial⟩)
 exact ⟨a,n,cap,f,e,h1,h3⟩
end Go.Proofs.YtaafofmfbcnaaaaGreat
