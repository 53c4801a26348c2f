/- Common words for the walks of this seat: what a call returns and what it leaves of memory; a region that draws its order and holds calls that only make memory of their own. No condition. -/
import Derived.Test.YtbimggeapaaliaaRows
import Derived.WalkKit
import Derived.WalkLawsBesides
import Derived.WalkSpells
import Derived.Outline
import Derived.Below
import Derived.Lib.Hide
import Derived.Deep.Quiet
import Derived.Deep.QuietTactic
import Derived.BigQuiet
import Derived.ProofKit
namespace Go.Proofs.Ytbimggeapaaliaa
open Go.RowKit
set_option linter.unusedVariables false
set_option linter.unusedSimpArgs false

/-- The call returns v; what was there before it has not turned. -/
def Ret (w : World) (v : Value) (e : Ending) (w' : World) : Prop := e = .returned v ∧ Below w.heap.size w w'

theorem Ret.mk {w w' : World} {v : Value} {e : Ending} (h1 : e = .returned v) (h2 : Below w.heap.size w w') : Ret w v e w' := ⟨h1, h2⟩

theorem ret_eq {v u : Value} (h : v = u) : Ending.returned v = Ending.returned u := by rw [h]
theorem int_eq {k : IntKind} {a b : Int} (h : a = b) : Value.int k a = Value.int k b := by rw [h]

@[go_sem] theorem lt_add_true {a b k : Nat} (h : a < b) : (a < b + k) = True := eq_true (by omega)
@[go_sem] theorem le_true_of {a b : Nat} (h : a < b) : (a ≤ b) = True := eq_true (by omega)

theorem Below.call {w W w' : World} (h : Below w.heap.size w W) (hb : Below W.heap.size W w') : Below w.heap.size w w' := h.trans (hb.mono h.size)

theorem bcell {W w1 : World} (hb : Below W.heap.size W w1) : (∀ b o, b < W.heap.size → w1.cell? ⟨b, o, none⟩ = W.cell? ⟨b, o, none⟩) ∧ (∀ b o, b < W.heap.size → w1.frozen? ⟨b, o, none⟩ = W.frozen? ⟨b, o, none⟩) :=
  ⟨fun b o h => hb.cell (p := ⟨b, o, none⟩) h, fun b o h => hb.frozen (p := ⟨b, o, none⟩) h⟩

/-- A world in which all that w holds is as it was. -/
def Later (w : World) := { x : World // Below w.heap.size w x }
instance Later.nonempty {w : World} : Nonempty (Later w) := ⟨⟨w, Below.refl _ _⟩⟩
def Later.wd {w : World} (x : Later w) : World := x.1
theorem Later.below {w : World} (x : Later w) : Below w.heap.size w x.wd := x.2
def Later.of {w w' : World} (h : Below w.heap.size w w') : Later w := ⟨w', h⟩
theorem Later.of_wd {w w' : World} (h : Below w.heap.size w w') : (Later.of h).wd = w' := rfl
theorem Later.cell {w : World} {b o : Nat} {v : Option Value} (h : w.cell? ⟨b, o, none⟩ = v) (hb : b < w.heap.size) (x : Later w) : x.wd.cell? ⟨b, o, none⟩ = v :=
  (x.below.cell (p := ⟨b, o, none⟩) hb).trans h
theorem Later.call {P : Program} {f : FuncId} {args : Array Value} {w : World} {v : Value} {x : Later w} (h : Calls P f args x.wd (Ret x.wd v)) :
    Calls P f args x.wd fun e w'' => e = .returned v ∧ ∃ y : Later w, w'' = y.wd :=
  h.mono fun _ _ ⟨he, hb⟩ => ⟨he, Later.of (x.below.trans (hb.mono x.below.size)), rfl⟩

theorem wp_region_later {P : Program} {id : Nat} {Q : Exit → Act → World → Prop} {a : Act} {w : World} {l : List Oper} (hm : P.follows .mixedOrders = true) (hB : Region.lexB .any l.toArray = true)
    (h : wpQuiet P l.toArray (fun w' => ∃ x : Later w, w' = x.wd) (fun a' => ∀ w', (∃ x : Later w, w' = x.wd) → Q .normal a' w') l a) : (Code.region id l.toArray true).wp P Q a w :=
  wp_region_quiet (C := fun w' => ∃ x : Later w, w' = x.wd) hm hB ⟨Later.of (Below.refl _ _).drew, rfl⟩ (by simpa using h)

end Go.Proofs.Ytbimggeapaaliaa
