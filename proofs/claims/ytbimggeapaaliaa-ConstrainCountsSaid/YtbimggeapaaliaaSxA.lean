/- A second way to walk: values and memory of the call's own written as data, an evaluator for them, and what each of its answers asks. This text: the data, the evaluator. No condition. -/
import Derived.Test.YtbimggeapaaliaaBase
import Derived.Deep.MidRow
namespace Go.Proofs.Ytbimggeapaaliaa
open Go.RowKit
set_option linter.unusedVariables false
set_option linter.unusedSimpArgs false

/-- What one cell holds: the slice of the call's own row q, a pointer to its element j, cell o (rs, rp); a number, a bool (`lit`: one that is decided), a pointer or a slice into the call's own block k, a row of the outside (q, i), a pointer to its element j, cell o, a function with pointers that it captured, any other value, whatever. -/
inductive SC where
  | int (k : IntKind) (x : Int)
  | bool (b : Bool)
  | lit (b : Bool)
  | ptr (k o : Nat)
  | pi (k o : Nat)
  | sl (k o n c : Nat)
  | xs (q i : Nat)
  | xp (q i j o : Nat)
  | rs (q : Nat)
  | rp (q es j o : Nat)
  | fn (f : Nat) (cap : List (Nat × Nat))
  | val (v : Value)
  | any
inductive SA where
  | one (c : SC)
  | agg (l : List SC)
inductive SV where
  | pt (a : SA)
  | tup (l : List SA)
structure Row where
  a : Option Addr
  n : Nat
  c : Nat
  size : Nat
  el : Nat → List SC
/-- A row of the call's own, of whatever length: how many elements, cells an element, the cells of the i-th. -/
structure ORow where
  n : Nat
  es : Nat
  el : Nat → List SC
structure Env where
  rho : List Nat
  chi : Nat → Nat → Row
  sg : List Value
structure St where
  t : List SV
  h : List (Option (List SC))
  fr : List (List SV)
  r : List (Option ORow)

def capIs (e : Env) : List (Nat × Nat) → List Value → Prop
  | [], [] => True
  | (k, o) :: l, v :: vs => (∃ b, e.rho[k]? = some b ∧ v = .pointer (some ⟨b, o, none⟩)) ∧ capIs e l vs
  | _, _ => False
def SC.is (e : Env) : SC → Value → Prop
  | .int k x, v => v = .int k x
  | .bool b, v => v = .bool b
  | .lit b, v => v = .bool b
  | .ptr k o, v => ∃ b, e.rho[k]? = some b ∧ v = .pointer (some ⟨b, o, none⟩)
  | .pi k o, v => ∃ b, e.rho[k]? = some b ∧ v = .pointer (some ⟨b, o, none⟩)
  | .sl k o n c, v => ∃ b, e.rho[k]? = some b ∧ v = .slice (some ⟨b, o, none⟩) n c
  | .xs q i, v => v = .slice (e.chi q i).a (e.chi q i).n (e.chi q i).c
  | .xp q i j o, v => j < (e.chi q i).n ∧ ∃ b p, (e.chi q i).a = some ⟨b, p, none⟩ ∧ v = .pointer (some ⟨b, p + (j * (e.chi q i).size + o), none⟩)
  | .rs q, v => e.sg[q]? = some v ∧ v.oneCell' = true
  | .rp q es j o, v => ∃ b p n c, e.sg[q]? = some (.slice (some ⟨b, p, none⟩) n c) ∧ j < n ∧ v = .pointer (some ⟨b, p + (j * es + o), none⟩)
  | .fn f cap, v => ∃ vs, v = .func (.func f) #[] vs ∧ capIs e cap vs.toList
  | .val u, v => v = u
  | .any, _ => True
def isL (e : Env) : List SC → List Value → Prop
  | [], [] => True
  | c :: l, v :: vs => c.is e v ∧ isL e l vs
  | _, _ => False
def SA.is (e : Env) : SA → Value → Prop
  | .one c, v => c.is e v
  | .agg l, v => ∃ vs, v = .agg vs ∧ isL e l vs.toList
def isA (e : Env) : List SA → List Value → Prop
  | [], [] => True
  | c :: l, v :: vs => c.is e v ∧ isA e l vs
  | _, _ => False
def SV.is (e : Env) : SV → Value → Prop
  | .pt a, v => a.is e v
  | .tup l, v => ∃ vs, v = .tuple vs ∧ isA e l vs.toList
def isV (e : Env) : List SV → List Value → Prop
  | [], [] => True
  | c :: l, v :: vs => c.is e v ∧ isV e l vs
  | _, _ => False

/-- One cell by its form. -/
def SC.solid : SC → Bool
  | .any => false
  | .val v => v.oneCell'
  | _ => true

/-! Types, as far as the evaluator asks of them. -/
inductive Ty where
  | one (z : SC)
  | struct (size : Nat) (z : List SC) (fs : List (Nat × Nat × Bool)) (cmp : Bool)
  | arr (n es : Nat) (ea : Bool) (z : List SC)
  | slice (es : Nat) (ea : Bool) (z : List SC)
def Ty.size : Ty → Nat
  | .one _ => 1
  | .struct s _ _ _ => s
  | .arr n es _ _ => n * es
  | .slice .. => 1
def Ty.agg : Ty → Bool
  | .struct .. | .arr .. => true
  | _ => false
def nilSlice : SC := .val (.slice none 0 0)
def Ty.zero : Ty → List SC
  | .one z => [z]
  | .struct _ z _ _ => z
  | .arr _ _ _ z => z
  | .slice .. => [nilSlice]

/-- What the evaluator looks up, and what stands for itself in a walk: and, not, sums, orders, the greater and the less of two. -/
structure Tb where
  ty : Nat → Option Ty
  nd : Bool → Bool → Bool
  nt : Bool → Bool
  ar : BinOp → IntKind → Int → Int → Int
  cm : BinOp → Int → Int → Bool
  mx : Int → Int → Int
  mn : Int → Int → Int
  pl : Nat → Nat → Nat
  jn : Nat → (Nat → List SC) → (Nat → List SC) → Nat → List SC
  up : (Nat → List SC) → Nat → Nat → List SC → Nat → List SC
  mi : Nat → Nat → Nat
  dp : Nat → (Nat → List SC) → Nat → List SC
def rAr : BinOp → IntKind → Int → Int → Int
  | .add, k, x, y => k.wrap (x + y)
  | .sub, k, x, y => k.wrap (x - y)
  | .and, k, x, y => k.wrap (BitVec.ofInt k.bits x &&& BitVec.ofInt k.bits y).toNat
  | .or, k, x, y => k.wrap (BitVec.ofInt k.bits x ||| BitVec.ofInt k.bits y).toNat
  | .xor, k, x, y => k.wrap (BitVec.ofInt k.bits x ^^^ BitVec.ofInt k.bits y).toNat
  | .andNot, k, x, y => k.wrap (BitVec.ofInt k.bits x &&& ~~~BitVec.ofInt k.bits y).toNat
  | .shl, k, x, y => k.wrap (x * 2 ^ (min y.toNat k.bits))
  | .shr, k, x, y => x.fdiv (2 ^ (min y.toNat k.bits))
  | .quo, k, x, _ => k.wrap x
  | _, k, x, y => k.wrap (x * y)
def rCm : BinOp → Int → Int → Bool
  | .lss, x, y => decide (x < y)
  | .leq, x, y => decide (x ≤ y)
  | .gtr, x, y => decide (y < x)
  | _, x, y => decide (y ≤ x)
def rMx (x y : Int) : Int := if y > x then y else x
def rMn (x y : Int) : Int := if y < x then y else x

/-! The evaluator. -/
def pasteL {α : Type} : List α → Nat → List α → List α
  | l, _, [] => l
  | [], _, _ :: _ => []
  | _ :: l, 0, b :: bs => b :: pasteL l 0 bs
  | a :: l, o + 1, b :: bs => a :: pasteL l o (b :: bs)
def rJn (n : Nat) (f g : Nat → List SC) (i : Nat) : List SC := if i < n then f i else g (i - n)
def rUp (f : Nat → List SC) (j o : Nat) (l : List SC) (i : Nat) : List SC := if i = j then pasteL (f i) o l else f i
def rDp (n : Nat) (f : Nat → List SC) (i : Nat) : List SC := f (i + n)
def ofC : Value → SC
  | .int k n => .int k n
  | .bool b => .lit b
  | v => .val v
def ofCs : List Value → List SC
  | [] => []
  | v :: l => ofC v :: ofCs l
def ofV : Value → SV
  | .agg cs => .pt (.agg (ofCs cs.toList))
  | .tuple _ => .pt (.one .any)
  | v => .pt (.one (ofC v))
def nth {α : Type} : List α → Nat → Option α
  | [], _ => none
  | a :: _, 0 => some a
  | _ :: l, n + 1 => nth l n
def setN {α : Type} : List α → Nat → α → List α
  | [], _, _ => []
  | _ :: l, 0, b => b :: l
  | a :: l, n + 1, b => a :: setN l n b
def evO (st : St) : Operand → SV
  | .tmp t => match nth st.t t with | some x => x | none => .pt (.one .any)
  | .const v => ofV v
  | .func f => .pt (.one (.fn f []))
  | .global _ => .pt (.one .any)
def evOs (st : St) : List Operand → List SV
  | [] => []
  | x :: l => evO st x :: evOs st l

inductive OpR where
  | v (x : SV)
  | nb (cells : List SC) (x : SV)
  | st (k o : Nat) (cells : List SC)
  | call (f : Nat) (args : List SV)
  | need (i : Int) (n : Nat) (x : SV)
  | ask (k o : Nat) (cs : List SC)
  | askS (k o : Nat) (cs : List SC) (x : SC)
  | row (q : Nat) (R : ORow) (x : SV) (lost : Option Nat) (ob : Prop)
  | rst (q : Nat) (R : ORow)
  | no

def cutL {α : Type} : List α → Nat → Nat → List α
  | _, 0, 0 => []
  | [], _, _ => []
  | a :: l, 0, n + 1 => a :: cutL l 0 n
  | _ :: l, o + 1, n => cutL l o n
def solidL : List SC → Bool
  | [] => true
  | c :: l => c.solid && solidL l
/-- Cells that name nothing of the call's own. -/
def SC.free : SC → Bool
  | .int .. | .bool _ | .lit _ | .xs .. | .xp .. | .val _ => true
  | _ => false
def freeL : List SC → Bool
  | [] => true
  | c :: l => c.free && freeL l
def SV.cells : SV → Option (List SC)
  | .pt (.one c) => if c.solid then some [c] else none
  | .pt (.agg l) => if solidL l then some l else none
  | .tup _ => none
def ofCells (agg : Bool) (cs : List SC) : Option SV :=
  if agg then some (.pt (.agg cs)) else match cs with
    | [c] => some (.pt (.one c))
    | _ => none
def eqC : SC → SC → Option Bool
  | .int k x, .int k' y => if k = k' then some (x == y) else none
  | .bool x, .bool y => some (x == y)
  | .lit x, .bool y => some (x == y)
  | .bool x, .lit y => some (x == y)
  | .lit x, .lit y => some (x == y)
  | _, _ => none
def eqL (nd : Bool → Bool → Bool) : List SC → List SC → Option Bool
  | [], [] => some true
  | [x], [y] => eqC x y
  | x :: xs, y :: ys => match eqC x y, eqL nd xs ys with
    | some a, some b => some (nd a b)
    | _, _ => none
  | _, _ => none
def likeC : SC → SC → Bool
  | .int k _, .int k' _ => decide (k = k')
  | .lit _, .bool _ => true
  | .lit _, .lit _ => true
  | _, _ => false
def likeL : List SC → List SC → Bool
  | [], [] => true
  | x :: xs, y :: ys => likeC x y && likeL xs ys
  | _, _ => false
def binE (T : Tb) (op : BinOp) (t : Nat) : SV → SV → OpR
  | .pt (.one (.int k x)), .pt (.one (.int k' y)) =>
    match op with
    | .shl => .need y (y.toNat + 1) (.pt (.one (.int k (T.ar .shl k x y))))
    | .shr => .need y (y.toNat + 1) (.pt (.one (.int k (T.ar .shr k x y))))
    | _ => if k = k' then match op with
      | .and => .v (.pt (.one (.int k (T.ar .and k x y))))
      | .or => .v (.pt (.one (.int k (T.ar .or k x y))))
      | .xor => .v (.pt (.one (.int k (T.ar .xor k x y))))
      | .andNot => .v (.pt (.one (.int k (T.ar .andNot k x y))))
      | .add => .v (.pt (.one (.int k (T.ar .add k x y))))
      | .sub => .v (.pt (.one (.int k (T.ar .sub k x y))))
      | .mul => .v (.pt (.one (.int k (T.ar .mul k x y))))
      | .eql => .v (.pt (.one (.bool (x == y))))
      | .neq => .v (.pt (.one (.bool (T.nt (x == y)))))
      | .lss => .v (.pt (.one (.bool (T.cm .lss x y))))
      | .leq => .v (.pt (.one (.bool (T.cm .leq x y))))
      | .gtr => .v (.pt (.one (.bool (T.cm .gtr x y))))
      | .geq => .v (.pt (.one (.bool (T.cm .geq x y))))
      | _ => .no
    else .no
  | .pt (.agg l), .pt (.agg l') => match T.ty t with
    | some (.struct _ z _ true) => if likeL z l && likeL z l' then match op, eqL T.nd l l' with
      | .eql, some b => .v (.pt (.one (.bool b)))
      | .neq, some b => .v (.pt (.one (.bool (T.nt b))))
      | _, _ => .no else .no
    | _ => .no
  | _, _ => .no
def pickE : SC → SV → SV → OpR
  | .lit true, x, _ => .v x
  | .lit false, _, y => .v y
  | _, _, _ => .no
def fillE (fs : List (Nat × Nat × Bool)) : List SC → List (Nat × Operand) → St → Option (List SC)
  | z, [], _ => some z
  | z, (i, x) :: l, st => match nth fs i, (evO st x).cells with
    | some (o, n, _), some cs => if cs.length = n then (if o + n ≤ z.length then fillE fs (pasteL z o cs) l st else none) else none
    | _, _ => none
def loadE (T : Tb) (e : Nat → Nat → Row) (st : St) (t : Nat) : SV → OpR
  | .pt (.one (.ptr k o)) => match T.ty t, nth st.h k with
    | some y, some (some cs) => if o + y.size ≤ cs.length then match ofCells y.agg (cutL cs o y.size) with | some x => .v x | none => .no else .no
    | _, _ => .no
  | .pt (.one (.pi k o)) => match T.ty t, nth st.h k with
    | some (.one _), some (some cs) => .ask k o cs
    | _, _ => .no
  | .pt (.one (.xp q i j o)) => match T.ty t with
    | some y => if o + y.size ≤ ((e q i).el j).length then match ofCells y.agg (cutL ((e q i).el j) o y.size) with | some x => .v x | none => .no else .no
    | none => .no
  | .pt (.one (.rp q es j o)) => match T.ty t, nth st.r q with
    | some y, some (some R) => if R.es = es then (if o + y.size ≤ (R.el j).length then match ofCells y.agg (cutL (R.el j) o y.size) with | some x => .v x | none => .no else .no) else .no
    | _, _ => .no
  | _ => .no
def storeE (T : Tb) (st : St) (t : Nat) : SV → SV → OpR
  | .pt (.one (.ptr k o)), x => match T.ty t, nth st.h k, x.cells with
    | some y, some (some cs), some l => if l.length = y.size then (if o + y.size ≤ cs.length then .st k o l else .no) else .no
    | _, _, _ => .no
  | .pt (.one (.pi k o)), .pt (.one c) => match T.ty t, nth st.h k with
    | some (.one _), some (some cs) => if c.solid then .askS k o cs c else .no
    | _, _ => .no
  | .pt (.one (.rp q es j o)), x => match T.ty t, nth st.r q, x.cells with
    | some y, some (some R), some l => if R.es = es then (if l.length = y.size then (if o + y.size ≤ es then (if freeL l then .rst q ⟨R.n, R.es, T.up R.el j o l⟩ else .no) else .no) else .no) else .no
    | _, _, _ => .no
  | _, _ => .no
def fieldE (T : Tb) (s f : Nat) : SV → OpR
  | .pt (.one (.ptr k o)) => match T.ty s with
    | some (.struct _ _ fs _) => match nth fs f with | some (d, _, _) => .v (.pt (.one (.ptr k (o + d)))) | none => .no
    | _ => .no
  | .pt (.one (.xp q i j o)) => match T.ty s with
    | some (.struct _ _ fs _) => match nth fs f with | some (d, _, _) => .v (.pt (.one (.xp q i j (o + d)))) | none => .no
    | _ => .no
  | .pt (.one (.rp q es j o)) => match T.ty s with
    | some (.struct _ _ fs _) => match nth fs f with | some (d, _, _) => .v (.pt (.one (.rp q es j (o + d)))) | none => .no
    | _ => .no
  | _ => .no
def partE (T : Tb) (s f : Nat) : SV → OpR
  | .pt (.agg l) => match T.ty s with
    | some (.struct _ _ fs _) => match nth fs f with
      | some (d, n, g) => if d + n ≤ l.length then match ofCells g (cutL l d n) with | some x => .v x | none => .no else .no
      | none => .no
    | _ => .no
  | _ => .no
/-- An element of an array that is a value, at a number that is told. -/
def elemE (T : Tb) (t : Nat) : SV → SV → OpR
  | .pt (.agg l), .pt (.one (.int _ (.ofNat x))) => match T.ty t with
    | some (.arr n 1 false _) => if l.length = n then .ask 0 x l else .no
    | some (.arr n es ea _) => if x < n then (if x * es + es ≤ l.length then match ofCells ea (cutL l (x * es) es) with | some r => .v r | none => .no else .no) else .no
    | _ => .no
  | _, _ => .no
def capE : List SV → Option (List (Nat × Nat))
  | [] => some []
  | .pt (.one (.ptr k o)) :: l => match capE l with | some r => some ((k, o) :: r) | none => none
  | _ => none
def capV : List (Nat × Nat) → List SV
  | [] => []
  | (k, o) :: l => .pt (.one (.ptr k o)) :: capV l
def indexE (T : Tb) (e : Nat → Nat → Row) (st : St) (t : Nat) : SV → SV → OpR
  | .pt (.one (.xs q i)), .pt (.one (.int _ x)) => match T.ty t with
    | some (.slice es _ _) => if (e q i).size = es then .need x (e q i).n (.pt (.one (.xp q i x.toNat 0))) else .no
    | _ => .no
  | .pt (.one (.sl k o n _)), .pt (.one (.int _ x)) => match T.ty t with
    | some (.slice es _ _) => .need x n (.pt (.one (.ptr k (o + x.toNat * es))))
    | _ => .no
  | .pt (.one (.ptr k o)), .pt (.one (.int _ x)) => match T.ty t with
    | some (.arr n es _ _) => .need x n (.pt (.one (.pi k (o + x.toNat * es))))
    | _ => .no
  | .pt (.one (.rs q)), .pt (.one (.int _ x)) => match T.ty t, nth st.r q with
    | some (.slice es _ _), some (some R) => if R.es = es then .need x R.n (.pt (.one (.rp q es x.toNat 0))) else .no
    | _, _ => .no
  | _, _ => .no
def lenE (T : Tb) (e : Nat → Nat → Row) (r : List (Option ORow)) (t : Nat) : SV → OpR
  | .pt (.one (.xs q i)) => match T.ty t with
    | some (.slice ..) => .v (.pt (.one (.int .i64 (e q i).n)))
    | _ => .no
  | .pt (.one (.sl _ _ n _)) => match T.ty t with
    | some (.slice ..) => .v (.pt (.one (.int .i64 n)))
    | _ => .no
  | .pt (.one (.val (.slice _ n _))) => match T.ty t with
    | some (.slice ..) => .v (.pt (.one (.int .i64 n)))
    | _ => .no
  | .pt (.one (.rs q)) => match T.ty t, nth r q with
    | some (.slice ..), some (some R) => .v (.pt (.one (.int .i64 R.n)))
    | _, _ => .no
  | _ => .no
def repL {α : Type} : Nat → List α → List α
  | 0, _ => []
  | n + 1, l => l ++ repL n l
def rowFs (es : Nat) (ea : Bool) : Nat → Nat → List (Nat × Nat × Bool)
  | 0, _ => []
  | n + 1, o => (o, es, ea) :: rowFs es ea n (o + es)
def litN (st : St) (x : Operand) : Option Nat := match evO st x with
  | .pt (.one (.int _ (.ofNat n))) => some n
  | _ => none
/-- Bounds that are told: from l to h, room up to m, out of the first len of cap. -/
def boundsE (st : St) (len cap : Nat) (lo hi mx : Option Operand) : Option (Nat × Nat × Nat) :=
  match (match mx with | some v => litN st v | none => some cap), (match hi with | some v => litN st v | none => match mx with | none => some len | some _ => none), (match lo with | some v => litN st v | none => some 0) with
  | some m, some h, some l => if m ≤ cap then if h ≤ m then if l ≤ h then some (l, h, m) else none else none else none
  | _, _, _ => none
def sliceE (T : Tb) (st : St) (t : Nat) : SV → Option Operand → Option Operand → Option Operand → OpR
  | .pt (.one (.ptr k o)), lo, hi, mx => match T.ty t with
    | some (.arr n es _ _) => match boundsE st n n lo hi mx with
      | some (l, h, m) => .v (.pt (.one (.sl k (if m = l then o else o + l * es) (h - l) (m - l))))
      | none => .no
    | _ => .no
  | .pt (.one (.sl k o n c)), lo, hi, mx => match T.ty t with
    | some (.slice es _ _) => match boundsE st n c lo hi mx with
      | some (l, h, m) => .v (.pt (.one (.sl k (if m = l then o else o + l * es) (h - l) (m - l))))
      | none => .no
    | _ => .no
  | .pt (.one (.rs q)), some x, none, none => match T.ty t, nth st.r q, litN st x with
    | some (.slice es _ _), some (some R), some l => if R.es = es then .row q ⟨T.mi R.n l, es, T.dp l R.el⟩ (.pt (.one (.rs q))) none (l ≤ R.n) else .no
    | _, _, _ => .no
  | _, _, _, _ => .no
/-- What is put behind a row: how many elements, their cells, what is asked. -/
def srcE (e : Nat → Nat → Row) (st : St) (es : Nat) : SV → Option (Nat × (Nat → List SC) × Prop)
  | .pt (.one (.val (.slice none 0 0))) => some (0, fun _ => [], True)
  | .pt (.one (.sl k o n _)) => match nth st.h k with
    | some (some cs) => if o + n * es ≤ cs.length then (if freeL cs && solidL cs then some (n, fun j => cutL cs (o + j * es) es, True) else none) else none
    | _ => none
  | .pt (.one (.xs q i)) => if (e q i).size = es then some ((e q i).n, (e q i).el, ∀ j, j < (e q i).n → solidL ((e q i).el j) = true ∧ ((e q i).el j).length = es) else none
  | .pt (.one (.rs q)) => match nth st.r q with
    | some (some R) => if R.es = es then some (R.n, R.el, True) else none
    | _ => none
  | _ => none
def lenM {α : Type} : List α → Nat
  | [] => 0
  | _ :: l => lenM l + 1
def appE (T : Tb) (e : Nat → Nat → Row) (st : St) (t : Nat) (x y : SV) : OpR := match T.ty t with
  | some (.slice es _ _) => match srcE e st es y with
    | some (m, g, ob) => match x with
      | .pt (.one (.val (.slice none 0 0))) => .row (lenM st.r) ⟨m, es, g⟩ (.pt (.one (.rs (lenM st.r)))) none (ob ∧ m ≤ 1073741824)
      | .pt (.one (.sl k 0 n c)) => match nth st.h k with
        | some (some cs) => if n = c then (if n * es ≤ cs.length then (if freeL cs && solidL cs then
            .row (lenM st.r) ⟨T.pl n m, es, T.jn n (fun j => cutL cs (j * es) es) g⟩ (.pt (.one (.rs (lenM st.r)))) (some k) (ob ∧ T.pl n m ≤ 1073741824) else .no) else .no) else .no
        | _ => .no
      | .pt (.one (.rs q)) => match nth st.r q with
        | some (some R) => if R.es = es then .row q ⟨T.pl R.n m, es, T.jn R.n R.el g⟩ (.pt (.one (.rs q))) none (ob ∧ T.pl R.n m ≤ 1073741824) else .no
        | _ => .no
      | _ => .no
    | none => .no
  | _ => .no
def makeE (T : Tb) (st : St) (t : Nat) : SV → SV → OpR
  | .pt (.one (.int _ x)), .pt (.one (.int _ y)) => match T.ty t with
    | some (.slice es _ z) => .row (lenM st.r) ⟨x.toNat, es, fun _ => z⟩ (.pt (.one (.rs (lenM st.r)))) none (x = y ∧ 0 ≤ x ∧ x ≤ 1073741824)
    | _ => .no
  | _, _ => .no
def opE (T : Tb) (e : Nat → Nat → Row) (st : St) : Op → OpR
  | .move x => .v (evO st x)
  | .assign x => .v (evO st x)
  | .pick c a b => match evO st c with | .pt (.one d) => pickE d (evO st a) (evO st b) | _ => .no
  | .alloc t => match T.ty t with | some y => .nb y.zero (.pt (.one (.ptr st.h.length 0))) | none => .no
  | .box _ x => match (evO st x).cells with | some cs => .nb cs (.pt (.one (.ptr st.h.length 0))) | none => .no
  | .build t ps => match T.ty t with
    | some (.struct _ z fs _) => match fillE fs z ps.toList st with | some cs => .v (.pt (.agg cs)) | none => .no
    | some (.arr n es ea z) => match fillE (rowFs es ea n 0) z ps.toList st with | some cs => .v (.pt (.agg cs)) | none => .no
    | _ => .no
  | .slice t x lo hi mx => sliceE T st t (evO st x) lo hi mx
  | .buildSlice t n ps => match T.ty t with
    | some (.slice es ea z) => if n * es ≤ 16777216 then match fillE (rowFs es ea n 0) (repL n z) ps.toList st with | some cs => .nb cs (.pt (.one (.sl st.h.length 0 n n))) | none => .no else .no
    | _ => .no
  | .load t a => loadE T e st t (evO st a)
  | .store t a x => storeE T st t (evO st a) (evO st x)
  | .binOp op t x y _ => binE T op t (evO st x) (evO st y)
  | .unOp .not _ x => match evO st x with
    | .pt (.one (.bool b)) => .v (.pt (.one (.bool (T.nt b))))
    | .pt (.one (.lit b)) => .v (.pt (.one (.lit (!b))))
    | _ => .no
  | .fieldAddr s x f => fieldE T s f (evO st x)
  | .field s x f => partE T s f (evO st x)
  | .indexAddr t x i => indexE T e st t (evO st x) (evO st i)
  | .makeSlice t x y => makeE T st t (evO st x) (evO st y)
  | .index t x i => elemE T t (evO st x) (evO st i)
  | .convert src dst x => match T.ty src, T.ty dst, evO st x with
    | some _, some (.one (.int k _)), .pt (.one (.int _ n)) => .v (.pt (.one (.int k (T.ar .quo k n 0))))
    | _, _, _ => .no
  | .extract x i => match evO st x with
    | .tup l => match nth l i with | some a => .v (.pt a) | none => .no
    | _ => .no
  | .makeFunc (.func f) first cap => match first.toList, capE (evOs st cap.toList) with
    | [], some l => .v (.pt (.one (.fn f l)))
    | _, _ => .no
  | .call c => match c.callee with
    | .value f => match evO st f with
      | .pt (.one (.fn g cap)) => .call g (evOs st c.args.toList ++ capV cap)
      | _ => .no
    | .builtin .len => match c.argTypes.toList, c.args.toList with
      | [t], [x] => lenE T e st.r t (evO st x)
      | _, _ => .no
    | .builtin .append => match c.argTypes.toList, c.args.toList with
      | [t, t'], [x, y] => if t = t' then appE T e st t (evO st x) (evO st y) else .no
      | _, _ => .no
    | .builtin .max => match c.args.toList with
      | [x, y] => match evO st x, evO st y with
        | .pt (.one (.int k a)), .pt (.one (.int _ b)) => .v (.pt (.one (.int k (T.mx a b))))
        | _, _ => .no
      | _ => .no
    | .builtin .min => match c.args.toList with
      | [x, y] => match evO st x, evO st y with
        | .pt (.one (.int k a)), .pt (.one (.int _ b)) => .v (.pt (.one (.int k (T.mn a b))))
        | _, _ => .no
      | _ => .no
    | _ => .no
  | _ => .no

inductive Item where
  | code (c : Code)
  | ops (all : Array Oper) (rest : List Oper)
  | blk (id : Nat)
  | stop (I : List Act → Act → World → Prop)
  | qops (all : Array Oper) (rest : List Oper)
  | back (res : List ResultVar) (dst : Option Nat)
  | rnds (body : Code) (m : Nat)
  | aops (all : Array Oper) (listed : List Bool) (f : Nat)
  | aop (all : Array Oper) (i : Nat) (listed : List Bool) (f : Nat)
inductive Out where
  | fin (st : St)
  | ret (st : St)
  | br (b : Bool) (kt : List Item) (st1 : St) (kf : List Item) (st2 : St)
  | call (f : Nat) (args : List SV) (dst : Option Nat) (k : List Item) (st : St)
  | loop (c : Code) (k : List Item) (st : St)
  | draw (id : Nat) (ops : Array Oper) (k : List Item) (st : St)
  | stop (I : List Act → Act → World → Prop) (k : List Item) (st : St)
  | callq (f : Nat) (args : List SV) (dst : Option Nat) (k : List Item) (st : St)
  | fork (l : List (List Item)) (st : St)
  | ask (o : Nat) (cs : List SC) (dst : Option Nat) (k : List Item) (st : St)
  | askS (b o : Nat) (cs : List SC) (x : SC) (dst : Option Nat) (k : List Item) (st : St)
  | need (i : Int) (n : Nat) (k : List Item) (st : St)
  | row (ob : Prop) (k : List Item) (st : St)
  | man (o : Oper) (all : Array Oper) (rest : List Oper) (k : List Item) (st : St)
  | stuck

def exitK (id : Nat) : List Item → Option (List Item)
  | [] => none
  | .blk i :: k => if i = id then some k else exitK id k
  | .back _ _ :: _ => none
  | _ :: k => exitK id k
def retK : List Item → Option (List ResultVar × Option Nat × List Item)
  | [] => none
  | .back r d :: k => some (r, d, k)
  | _ :: k => retK k
/-- What a function hands back. -/
def resV (T : Tb) (e : Nat → Nat → Row) (st : St) : ResultVar → Option SV
  | .tmp t => some (evO st (.tmp t))
  | .cell a t => match loadE T e st t (evO st (.tmp a)) with
    | .v x => some x
    | _ => none
def resE (T : Tb) (e : Nat → Nat → Row) (st : St) : List ResultVar → Option SV
  | [r] => resV T e st r
  | [] => some (.tup [])
  | [r, u] => match resV T e st r, resV T e st u with
    | some (.pt x), some (.pt y) => some (.tup [x, y])
    | _, _ => none
  | [r, u, o] => match resV T e st r, resV T e st u, resV T e st o with
    | some (.pt x), some (.pt y), some (.pt z) => some (.tup [x, y, z])
    | _, _, _ => none
  | _ => none
def undefS : SV := .pt (.one .any)
/-- What stands where an operation was passed over. -/
def skipS : SV := .tup []
def St.put (st : St) (d : Option Nat) (x : SV) : St := match d with | some d => { st with t := setN st.t d x } | none => st
def setOp (st : St) : Operand → Bool → St
  | .tmp t, b => { st with t := setN st.t t (.pt (.one (.lit b))) }
  | _, _ => st
/-- Values of which the data leaves no doubt. -/
def SC.det : SC → Bool
  | .any => false
  | _ => true
def detL : List SC → Bool
  | [] => true
  | c :: l => c.det && detL l
def SA.det : SA → Bool
  | .one c => c.det
  | .agg l => detL l
def detA : List SA → Bool
  | [] => true
  | c :: l => c.det && detA l
def SV.det : SV → Bool
  | .pt a => a.det
  | .tup l => detA l
def detV : List SV → Bool
  | [] => true
  | c :: l => c.det && detV l
/-- Operations whose value hangs on no memory. -/
def pureOp : Op → Bool
  | .move _ | .assign _ | .convert .. | .pick .. | .build .. | .binOp .. | .unOp .. | .fieldAddr .. | .field .. | .extract .. | .makeFunc .. | .slice .. => true
  | .call c => match c.callee with
    | .builtin .len | .builtin .max | .builtin .min => true
    | _ => false
  | _ => false
inductive Frst where
  | take (i : Nat) (d : Option Nat) (x : SV)
  | skip (i : Nat) (d : Option Nat)
  | br (d : Nat) (b : Bool)
  | need (i : Nat) (d : Option Nat) (j : Int) (m : Nat) (x : SV)
  | no
/-- Operations that yield the same wherever the rows of the outside lie as they do. -/
def stabE (T : Tb) (e : Nat → Nat → Row) (st : St) (op : Op) : OpR :=
  if pureOp op then (match opE T e st op with | .v x => .v x | _ => .no) else match op with
    | .load t a => match evO st a with
      | .pt (.one (.xp q i j o)) => loadE T e st t (.pt (.one (.xp q i j o)))
      | _ => .no
    | .indexAddr t x i => indexE T e st t (evO st x) (evO st i)
    | _ => .no
def firstE (T : Tb) (e : Nat → Nat → Row) (st : St) (all : Array Oper) (listed : List Bool) : List Nat → Frst
  | [] => .no
  | i :: l => match all[i]? with
    | none => firstE T e st all listed l
    | some o => match o.guard with
      | some (j, want) => match (all[j]?).bind (·.dst) with
        | some d => match nth st.t d with
          | some (.pt (.one (.lit b))) => if b = want then (if Region.free .any all listed.toArray i then match stabE T e st o.op with
              | .v x => if x.det then .take i o.dst x else firstE T e st all listed l
              | .need j m x => if x.det then .need i o.dst j m x else firstE T e st all listed l
              | _ => firstE T e st all listed l else firstE T e st all listed l)
            else if Region.free .any all listed.toArray i then .skip i o.dst else firstE T e st all listed l
          | some (.pt (.one (.bool b))) => .br d b
          | some (.tup _) => if Region.free .any all listed.toArray i then .skip i o.dst else firstE T e st all listed l
          | _ => .no
        | none => .no
      | none => if Region.free .any all listed.toArray i then match stabE T e st o.op with
          | .v x => if x.det then .take i o.dst x else firstE T e st all listed l
          | .need j m x => if x.det then .need i o.dst j m x else firstE T e st all listed l
          | _ => firstE T e st all listed l else firstE T e st all listed l
/-- What named the row q says nothing now. -/
def SC.kill (q : Nat) : SC → SC
  | .rs k => if k = q then .any else .rs k
  | .rp k es j o => if k = q then .any else .rp k es j o
  | c => c
def killL (q : Nat) : List SC → List SC
  | [] => []
  | c :: l => c.kill q :: killL q l
def SA.kill (q : Nat) : SA → SA
  | .one c => .one (c.kill q)
  | .agg l => .agg (killL q l)
def killA (q : Nat) : List SA → List SA
  | [] => []
  | c :: l => c.kill q :: killA q l
def SV.kill (q : Nat) : SV → SV
  | .pt a => .pt (a.kill q)
  | .tup l => .tup (killA q l)
def killV (q : Nat) : List SV → List SV
  | [] => []
  | c :: l => c.kill q :: killV q l
def killF (q : Nat) : List (List SV) → List (List SV)
  | [] => []
  | c :: l => killV q c :: killF q l
def killH (q : Nat) : List (Option (List SC)) → List (Option (List SC))
  | [] => []
  | none :: l => none :: killH q l
  | some c :: l => some (killL q c) :: killH q l
/-- A row laid: a new one, or another one in the place of an old one. -/
def dropB (h : List (Option (List SC))) : Option Nat → List (Option (List SC))
  | some k => setN h k none
  | none => h
def St.row (st : St) (q : Nat) (R : ORow) (lost : Option Nat) : St :=
  if q < lenM st.r then ⟨killV q st.t, killH q (dropB st.h lost), killF q st.fr, setN st.r q (some R)⟩ else ⟨st.t, dropB st.h lost, st.fr, st.r ++ [some R]⟩
def St.pop (st : St) (d : Option Nat) (x : SV) : Option St := match st.fr with
  | [] => none
  | t :: fr => some (({ t := t, h := st.h, fr := fr, r := st.r } : St).put d x)
def ev (T : Tb) (e : Nat → Nat → Row) : Nat → List Item → St → Out
  | 0, _, _ => .stuck
  | _ + 1, [], st => .fin st
  | n + 1, .blk _ :: k, st => ev T e n k st
  | _ + 1, .stop I :: k, st => .stop I k st
  | n + 1, .ops _ [] :: k, st => ev T e n k st
  | n + 1, .qops _ [] :: k, st => ev T e n k st
  | n + 1, .aops all listed f :: k, st => match Region.ready .any all listed.toArray with
    | [] => ev T e n k st
    | r :: rs => match f with
      | 0 => .stuck
      | f + 1 => match (if Region.noSelect all then firstE T e st all listed (r :: rs) else .no) with
        | .take i d x => ev T e n (.aops all (setN listed i true) f :: k) (st.put d x)
        | .skip i d => ev T e n (.aops all (setN listed i true) f :: k) (st.put d skipS)
        | .br d b => .br b (.aops all listed (f + 1) :: k) { st with t := setN st.t d (.pt (.one (.lit true))) } (.aops all listed (f + 1) :: k) { st with t := setN st.t d (.pt (.one (.lit false))) }
        | .need i d j m x => .need j m (.aops all (setN listed i true) f :: k) (st.put d x)
        | .no => .fork ((r :: rs).map fun i => .aop all i listed f :: k) st
  | n + 1, .aop all i listed f :: k, st => match all[i]? with
    | none => .stuck
    | some o => match (match o.guard with
        | none => some true
        | some (j, want) => match (all[j]?).bind (·.dst) with
          | some d => match nth st.t d with
            | some (.pt (.one (.lit b))) => some (b == want)
            | some (.tup _) => some false
            | _ => none
          | none => none) with
      | none => .stuck
      | some false => ev T e n (.aops all (setN listed i true) f :: k) (st.put o.dst skipS)
      | some true => match opE T e st o.op with
        | .v x => ev T e n (.aops all (setN listed i true) f :: k) (st.put o.dst x)
        | .nb cs x => ev T e n (.aops all (setN listed i true) f :: k) (({ st with h := st.h ++ [some cs] } : St).put o.dst x)
        | .st b p cs => match nth st.h b with
          | some (some old) => ev T e n (.aops all (setN listed i true) f :: k) (({ st with h := setN st.h b (some (pasteL old p cs)) } : St).put o.dst undefS)
          | _ => .stuck
        | .call f' args => .call f' args o.dst (.aops all (setN listed i true) f :: k) st
        | .need j m x => .need j m (.aops all (setN listed i true) f :: k) (st.put o.dst x)
        | .ask _ p cs => .ask p cs o.dst (.aops all (setN listed i true) f :: k) st
        | .askS b p cs x => .askS b p cs x o.dst (.aops all (setN listed i true) f :: k) st
        | .row q R x lost ob => .row ob (.aops all (setN listed i true) f :: k) ((st.row q R lost).put o.dst x)
        | .rst q R => ev T e n (.aops all (setN listed i true) f :: k) (({ st with r := setN st.r q (some R) } : St).put o.dst undefS)
        | .no => .stuck
  | _ + 1, .rnds _ 0 :: _, _ => .stuck
  | n + 1, .rnds b (m + 1) :: k, st => ev T e n (.code b :: .rnds b m :: k) st
  | n + 1, .back r d :: k, st => match resE T e st r with
    | some x => match st.pop d x with | some st' => ev T e n k st' | none => .stuck
    | none => .stuck
  | n + 1, .qops all (o :: rest) :: k, st =>
    match o.guard with
    | none => match opE T e st o.op with
      | .v x => if x.det then ev T e n (.qops all rest :: k) (st.put o.dst x) else .stuck
      | .call f args => if detV args then .callq f args o.dst (.qops all rest :: k) st else .stuck
      | .need i m x => if x.det then .need i m (.qops all rest :: k) (st.put o.dst x) else .stuck
      | .ask _ p cs => .ask p cs o.dst (.qops all rest :: k) st
      | _ => .stuck
    | some (j, want) => match (all[j]?).bind (·.dst) with
      | some d => match nth st.t d with
        | some (.pt (.one (.lit b))) => if b = want then ev T e n (.qops all ({ o with guard := none } :: rest) :: k) st else ev T e n (.qops all rest :: k) (st.put o.dst skipS)
        | some (.tup _) => ev T e n (.qops all rest :: k) (st.put o.dst skipS)
        | some (.pt (.one (.bool b))) => .br b (.qops all (o :: rest) :: k) { st with t := setN st.t d (.pt (.one (.lit true))) } (.qops all (o :: rest) :: k) { st with t := setN st.t d (.pt (.one (.lit false))) }
        | _ => .stuck
      | none => .stuck
  | n + 1, .ops all (o :: rest) :: k, st =>
    match o.guard with
    | none => match opE T e st o.op with
      | .v x => ev T e n (.ops all rest :: k) (st.put o.dst x)
      | .nb cs x => ev T e n (.ops all rest :: k) (({ st with h := st.h ++ [some cs] } : St).put o.dst x)
      | .st b p cs => match nth st.h b with
        | some (some old) => ev T e n (.ops all rest :: k) (({ st with h := setN st.h b (some (pasteL old p cs)) } : St).put o.dst undefS)
        | _ => .stuck
      | .call f args => .call f args o.dst (.ops all rest :: k) st
      | .need i m x => .need i m (.ops all rest :: k) (st.put o.dst x)
      | .ask _ p cs => .ask p cs o.dst (.ops all rest :: k) st
      | .askS b p cs x => .askS b p cs x o.dst (.ops all rest :: k) st
      | .row q R x lost ob => .row ob (.ops all rest :: k) ((st.row q R lost).put o.dst x)
      | .rst q R => ev T e n (.ops all rest :: k) (({ st with r := setN st.r q (some R) } : St).put o.dst undefS)
      | .no => .man o all rest k st
    | some (j, want) => match (all[j]?).bind (·.dst) with
      | some d => match nth st.t d with
        | some (.pt (.one (.lit b))) => if b = want then ev T e n (.ops all ({ o with guard := none } :: rest) :: k) st else ev T e n (.ops all rest :: k) (st.put o.dst skipS)
        | some (.tup _) => ev T e n (.ops all rest :: k) (st.put o.dst skipS)
        | some (.pt (.one (.bool b))) => .br b (.ops all (o :: rest) :: k) { st with t := setN st.t d (.pt (.one (.lit true))) } (.ops all (o :: rest) :: k) { st with t := setN st.t d (.pt (.one (.lit false))) }
        | _ => .stuck
      | none => .stuck
  | n + 1, .code c :: k, st =>
    match c with
    | .skip => ev T e n k st
    | .label _ => ev T e n k st
    | .seq a b => ev T e n (.code a :: .code b :: k) st
    | .block id c => ev T e n (.code c :: .blk id :: k) st
    | .exit id => match exitK id k with | some k' => ev T e n k' st | none => .stuck
    | .ret => match retK k with | some (r, d, k') => ev T e n (.back r d :: k') st | none => .ret st
    | .region id ops false => ev T e n (.ops ops ops.toList :: k) st
    | .region id ops true => .draw id ops k st
    | .cond c x y => match evO st c with
      | .pt (.one (.lit b)) => if b then ev T e n (.code x :: k) st else ev T e n (.code y :: k) st
      | .pt (.one (.bool b)) => .br b (.code x :: k) (setOp st c true) (.code y :: k) (setOp st c false)
      | _ => .stuck
    | .loop c => .loop c k st
    | _ => .stuck

end Go.Proofs.Ytbimggeapaaliaa
