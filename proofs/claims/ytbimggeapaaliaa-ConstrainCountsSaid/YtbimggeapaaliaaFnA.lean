/- The plain law of layers 3 to 7: places, operands, rvalues, statements, as they are written in Lean, their values, their cells, and which are valid. No condition. -/
import Derived.Test.YtbimggeapaaliaaBase
namespace Go.Proofs.Ytbimggeapaaliaa
set_option linter.unusedVariables false
set_option linter.unusedSimpArgs false

structure GPlace where
  l : Int
  d : Bool
  f : Int
structure GOper where
  k : Int
  n : Int
  p : GPlace
structure GRv where
  k : Int
  op : Int
  bo : Int
  a : GOper
  b : GOper
  p : GPlace
structure GStmt where
  k : Int
  p : GPlace
  r : GRv
  a : GOper
  l : Int

def GPlace.val (p : GPlace) : Value := .agg #[.int .i64 p.l, .bool p.d, .int .u8 p.f]
def GOper.val (o : GOper) : Value := .agg #[.int .u8 o.k, .int .i64 o.n, .int .i64 o.p.l, .bool o.p.d, .int .u8 o.p.f]
def GRv.val (r : GRv) : Value := .agg #[.int .u8 r.k, .int .u8 r.op, .int .u8 r.bo, .int .u8 r.a.k, .int .i64 r.a.n, .int .i64 r.a.p.l, .bool r.a.p.d, .int .u8 r.a.p.f, .int .u8 r.b.k, .int .i64 r.b.n, .int .i64 r.b.p.l, .bool r.b.p.d, .int .u8 r.b.p.f, .int .i64 r.p.l, .bool r.p.d, .int .u8 r.p.f]
def GStmt.val (s : GStmt) : Value := .agg #[.int .u8 s.k, .int .i64 s.p.l, .bool s.p.d, .int .u8 s.p.f, .int .u8 s.r.k, .int .u8 s.r.op, .int .u8 s.r.bo, .int .u8 s.r.a.k, .int .i64 s.r.a.n, .int .i64 s.r.a.p.l, .bool s.r.a.p.d, .int .u8 s.r.a.p.f, .int .u8 s.r.b.k, .int .i64 s.r.b.n, .int .i64 s.r.b.p.l, .bool s.r.b.p.d, .int .u8 s.r.b.p.f, .int .i64 s.r.p.l, .bool s.r.p.d, .int .u8 s.r.p.f, .int .u8 s.a.k, .int .i64 s.a.n, .int .i64 s.a.p.l, .bool s.a.p.d, .int .u8 s.a.p.f, .int .i64 s.l]
def GPlace.cells (p : GPlace) : List Value := [.int .i64 p.l, .bool p.d, .int .u8 p.f]
def GOper.cells (o : GOper) : List Value := [.int .u8 o.k, .int .i64 o.n] ++ o.p.cells
def GRv.cells (r : GRv) : List Value := [.int .u8 r.k, .int .u8 r.op, .int .u8 r.bo] ++ r.a.cells ++ r.b.cells ++ r.p.cells
def GStmt.cells (s : GStmt) : List Value := [.int .u8 s.k] ++ s.p.cells ++ s.r.cells ++ s.a.cells ++ [.int .i64 s.l]
theorem GPlace.len (p : GPlace) : p.cells.length = 3 := rfl
theorem GOper.len (o : GOper) : o.cells.length = 5 := rfl
theorem GRv.len (r : GRv) : r.cells.length = 16 := rfl
theorem GStmt.len (s : GStmt) : s.cells.length = 26 := rfl

def GPlace.zero : GPlace := ⟨0, false, 0⟩
def GOper.zero : GOper := ⟨0, 0, .zero⟩
def GRv.zero : GRv := ⟨0, 0, 0, .zero, .zero, .zero⟩

/-- Equality, as Go's == has it. -/
def GPlace.eqB (p q : GPlace) : Bool := p.l == q.l && p.d == q.d && p.f == q.f
def GOper.eqB (o q : GOper) : Bool := o.k == q.k && o.n == q.n && o.p.eqB q.p
def GRv.eqB (r q : GRv) : Bool := r.k == q.k && r.op == q.op && r.bo == q.bo && r.a.eqB q.a && r.b.eqB q.b && r.p.eqB q.p
def GStmt.eqB (s q : GStmt) : Bool := s.k == q.k && s.p.eqB q.p && s.r.eqB q.r && s.a.eqB q.a && s.l == q.l
theorem GPlace.eqB_iff {p q : GPlace} : p.eqB q = true ↔ p = q := by
  cases p; cases q; simp [GPlace.eqB, and_assoc]
theorem GOper.eqB_iff {p q : GOper} : p.eqB q = true ↔ p = q := by
  cases p; cases q; simp [GOper.eqB, GPlace.eqB_iff, and_assoc]
theorem GRv.eqB_iff {p q : GRv} : p.eqB q = true ↔ p = q := by
  cases p; cases q; simp [GRv.eqB, GPlace.eqB_iff, GOper.eqB_iff, and_assoc]
theorem GStmt.eqB_iff {p q : GStmt} : p.eqB q = true ↔ p = q := by
  cases p; cases q; simp [GStmt.eqB, GPlace.eqB_iff, GOper.eqB_iff, GRv.eqB_iff, and_assoc]

/-! What is valid (layers 3 to 5). -/
def GPlace.ok (p : GPlace) : Bool := decide (0 ≤ p.l) && decide (p.l < 16) && decide (p.f ≤ 2)
def GOper.ok (o : GOper) : Bool := (o.k == 1 && o.p.eqB .zero) || ((o.k == 2 || o.k == 3) && o.n == 0 && o.p.ok)
def GRv.ok (r : GRv) : Bool :=
  (r.k == 1 && r.a.ok && r.b.eqB .zero && r.p.eqB .zero && r.op == 0 && r.bo == 0) ||
  (r.k == 2 && r.a.ok && r.b.ok && r.p.eqB .zero && decide (1 ≤ r.op) && decide (r.op ≤ 6) && r.bo == 0) ||
  (r.k == 3 && r.a.ok && r.b.ok && r.p.eqB .zero && r.op == 0 && r.bo == 0) ||
  (r.k == 4 && r.a.eqB .zero && r.b.eqB .zero && r.p.ok && r.op == 0 && decide (1 ≤ r.bo) && decide (r.bo ≤ 3)) ||
  (r.k == 5 && r.a.eqB .zero && r.b.eqB .zero && r.p.ok && r.op == 0 && r.bo == 0)
def GStmt.ok (s : GStmt) : Bool :=
  (s.k == 1 && s.p.ok && s.r.ok && s.a.eqB .zero && s.l == 0) ||
  ((s.k == 2 || s.k == 4) && s.p.eqB .zero && s.r.eqB .zero && s.a.ok && s.l == 0) ||
  (s.k == 3 && s.p.eqB .zero && s.r.eqB .zero && s.a.eqB .zero && decide (0 ≤ s.l) && decide (s.l < 16))

/-! Jumps, blocks, functions (layers 6 and 7). `sl` is the value of the row of arguments, `st` that of statements. -/
structure GJump where
  k : Int
  a : GOper
  fn : Int
  nx : Int
  el : Int
  args : List GOper
  d : GPlace
structure GBlock where
  ss : List GStmt
  j : GJump

def GJump.val (j : GJump) (sl : Value) : Value := .agg #[.int .u8 j.k, .int .u8 j.a.k, .int .i64 j.a.n, .int .i64 j.a.p.l, .bool j.a.p.d, .int .u8 j.a.p.f, .int .i64 j.fn, .int .i64 j.nx, .int .i64 j.el, sl, .int .i64 j.d.l, .bool j.d.d, .int .u8 j.d.f]
def GJump.cells (j : GJump) (sl : Value) : List Value := [.int .u8 j.k] ++ j.a.cells ++ [.int .i64 j.fn, .int .i64 j.nx, .int .i64 j.el, sl] ++ j.d.cells
theorem GJump.len (j : GJump) (sl : Value) : (j.cells sl).length = 13 := rfl
def GBlock.cells (b : GBlock) (st sl : Value) : List Value := st :: b.j.cells sl
theorem GBlock.len (b : GBlock) (st sl : Value) : (b.cells st sl).length = 14 := rfl

def blk (n : Int) : Bool := decide (0 ≤ n) && decide (n < 24)
def GJump.bare (j : GJump) : Bool := j.fn == 0 && j.args.isEmpty && j.d.eqB .zero
/-- As layer 6 has it. -/
def GJump.ok (j : GJump) : Bool :=
  (j.k == 1 && j.bare && j.a.eqB .zero && blk j.nx && j.el == 0) ||
  (j.k == 2 && j.bare && j.a.ok && blk j.nx && blk j.el) ||
  ((j.k == 3 || j.k == 5) && j.bare && j.a.eqB .zero && j.nx == 0 && j.el == 0) ||
  (j.k == 4 && j.a.eqB .zero && decide (0 ≤ j.fn) && decide (j.fn < 8) && decide (j.args.length ≤ 8) && j.d.ok && blk j.nx && j.el == 0 && j.args.all GOper.ok)
/-- Whither a valid jump leads. -/
def GJump.leads (j : GJump) : List Int :=
  if j.k == 3 || j.k == 5 then [] else if j.k == 2 && j.el != j.nx then [j.nx, j.el] else [j.nx]
/-- The operands of a valid jump. -/
def GJump.parts (j : GJump) : List GOper := if j.k == 2 then [j.a] else j.args
/-- The operands of a valid right side. -/
def GRv.parts (r : GRv) : List GOper :=
  if r.k == 1 then [r.a] else if r.k == 2 || r.k == 3 then [r.a, r.b] else []
def GOper.placed (o : GOper) : Bool := o.k == 2 || o.k == 3

/-- The locals that occur, each as often as it occurs. -/
def placedL (l : List GOper) : List Int := (l.filter GOper.placed).map (·.p.l)
def GStmt.occ (s : GStmt) : List Int :=
  (if s.k == 3 then [s.l] else []) ++
  (if s.k == 1 then s.p.l :: (placedL s.r.parts ++ (if s.r.k == 4 || s.r.k == 5 then [s.r.p.l] else [])) else []) ++
  placedL [s.a]
def GJump.occ (j : GJump) : List Int := placedL j.parts ++ (if j.k == 4 then [j.d.l] else [])

/-- The order of tests that the program's check of a jump takes. -/
def GJump.ok2 (j : GJump) : Bool :=
  let call := j.k == 4
  let branch := j.k == 2
  let next := call || branch || j.k == 1
  !((!next && j.k != 3 && j.k != 5) || (!next && j.nx != 0) || !blk j.nx ||
    (!branch && (j.el != 0 || !j.a.eqB .zero)) || !blk j.el || (branch && !j.a.ok) ||
    (!call && (j.fn != 0 || !j.args.isEmpty || !j.d.eqB .zero)) ||
    decide (j.fn < 0) || decide (8 ≤ j.fn) || decide (8 < j.args.length)) &&
  (!call || j.d.ok) && j.args.all GOper.ok

theorem blk_zero : blk 0 = true := rfl
private theorem z_cases (n : Int) : n = 0 ∨ (n == 0) = false := by
  by_cases h : n = 0
  · exact .inl h
  · exact .inr (by simp [h])
private theorem g_lt (n : Int) : decide (n < 0) = !decide (0 ≤ n) := by
  by_cases h : 0 ≤ n <;> simp [h] <;> omega
private theorem g_le (n : Int) : decide (8 ≤ n) = !decide (n < 8) := by
  by_cases h : n < 8 <;> simp [h] <;> omega
private theorem g_len (n : Nat) : decide (8 < n) = !decide (n ≤ 8) := by
  by_cases h : n ≤ 8 <;> simp [h] <;> omega
theorem GJump.ok2_eq (j : GJump) : j.ok2 = j.ok := by
  obtain ⟨k, a, fn, nx, el, args, d⟩ := j
  by_cases h4 : k = 4
  · subst h4
    simp only [ok2, ok, g_lt, g_le, g_len, bne, show ((4 : Int) == 1) = false from rfl, show ((4 : Int) == 2) = false from rfl, show ((4 : Int) == 3) = false from rfl, show ((4 : Int) == 4) = true from rfl, show ((4 : Int) == 5) = false from rfl]
    rcases z_cases el with he | he
    · subst he
      simp only [blk_zero, show ((0 : Int) == 0) = true from rfl]
      cases a.eqB .zero <;> cases decide (0 ≤ fn) <;> cases decide (fn < 8) <;> cases decide (args.length ≤ 8) <;> cases d.ok <;> cases blk nx <;> cases args.all GOper.ok <;> rfl
    · simp [he]
  have h4' : (k == 4) = false := by simp [h4]
  cases args with
  | cons x xs => simp [ok2, ok, bare, h4']
  | nil =>
    rcases z_cases fn with hf | hf
    · subst hf
      rcases z_cases el with he | he
      · subst he
        by_cases h1 : k = 1
        · subst h1; simp [ok2, ok, bare, blk_zero]
          cases a.eqB .zero <;> cases d.eqB .zero <;> cases blk nx <;> rfl
        by_cases h2 : k = 2
        · subst h2; simp [ok2, ok, bare, blk_zero]
          cases a.ok <;> cases d.eqB .zero <;> cases blk nx <;> rfl
        have h1' : (k == 1) = false := by simp [h1]
        have h2' : (k == 2) = false := by simp [h2]
        rcases z_cases nx with hn | hn
        · subst hn
          simp only [ok2, ok, bare, h1', h2', h4', blk_zero, bne]
          cases k == 3 <;> cases k == 5 <;> cases a.eqB .zero <;> cases d.eqB .zero <;> rfl
        · simp [ok2, ok, bare, h1', h2', h4', hn, bne]
      · by_cases h2 : k = 2
        · subst h2; simp [ok2, ok, bare]
          cases a.ok <;> cases d.eqB .zero <;> cases blk nx <;> cases blk el <;> rfl
        have h2' : (k == 2) = false := by simp [h2]
        simp [ok2, ok, bare, h2', h4', he, bne]
    · simp [ok2, ok, bare, h4', hf, bne]

/-! The program builds the one right value of its kind (`own`) and compares. -/
def clamp (n lo hi : Int) : Int := min (max n lo) hi
theorem clamp_eq (n lo hi : Int) (h : lo ≤ hi) : (clamp n lo hi == n) = (decide (lo ≤ n) && decide (n ≤ hi)) := by
  rw [Bool.eq_iff_iff]; simp only [beq_iff_eq, Bool.and_eq_true, decide_eq_true_eq, clamp]; omega
def GRv.own (r : GRv) : GRv :=
  ⟨r.k, if r.k = 2 then clamp r.op 1 6 else 0, if r.k = 4 then clamp r.bo 1 3 else 0,
   if r.k = 1 ∨ r.k = 2 ∨ r.k = 3 then r.a else .zero, if r.k = 2 ∨ r.k = 3 then r.b else .zero, if r.k = 4 ∨ r.k = 5 then r.p else .zero⟩
theorem GPlace.eqB_comm (p q : GPlace) : p.eqB q = q.eqB p := by
  rw [Bool.eq_iff_iff, eqB_iff, eqB_iff]; exact eq_comm
theorem GOper.eqB_comm (p q : GOper) : p.eqB q = q.eqB p := by
  rw [Bool.eq_iff_iff, eqB_iff, eqB_iff]; exact eq_comm
theorem GRv.eqB_comm (p q : GRv) : p.eqB q = q.eqB p := by
  rw [Bool.eq_iff_iff, eqB_iff, eqB_iff]; exact eq_comm
theorem GPlace.eqB_self (p : GPlace) : p.eqB p = true := eqB_iff.2 rfl
theorem GOper.eqB_self (p : GOper) : p.eqB p = true := eqB_iff.2 rfl
theorem GRv.eqB_self (p : GRv) : p.eqB p = true := eqB_iff.2 rfl
private theorem z_comm (n : Int) : ((0 : Int) == n) = (n == 0) := by
  rw [Bool.eq_iff_iff]; simp only [beq_iff_eq]; exact eq_comm
theorem GRv.ok_own (r : GRv) : r.ok = (r.parts.all GOper.ok && (decide (1 ≤ r.k) && decide (r.k ≤ 5)) &&
    (!(r.k == 4 || r.k == 5) || r.p.ok) && r.own.eqB r) := by
  obtain ⟨k, op, bo, a, b, p⟩ := r
  have e (x : GOper) := GOper.eqB_comm .zero x
  have f := GPlace.eqB_comm .zero p
  have c2 := clamp_eq op 1 6 (by decide)
  have c4 := clamp_eq bo 1 3 (by decide)
  by_cases h1 : k = 1
  · subst h1
    simp [ok, own, parts, eqB, GPlace.eqB_self, GOper.eqB_self, e, f, z_comm]
    cases a.ok <;> cases b.eqB .zero <;> cases p.eqB .zero <;> cases op == 0 <;> cases bo == 0 <;> rfl
  by_cases h2 : k = 2
  · subst h2
    simp [ok, own, parts, eqB, GPlace.eqB_self, GOper.eqB_self, e, f, z_comm, c2]
    cases a.ok <;> cases b.ok <;> cases p.eqB .zero <;> cases decide (1 ≤ op) <;> cases decide (op ≤ 6) <;> cases bo == 0 <;> rfl
  by_cases h3 : k = 3
  · subst h3
    simp [ok, own, parts, eqB, GPlace.eqB_self, GOper.eqB_self, e, f, z_comm]
    cases a.ok <;> cases b.ok <;> cases p.eqB .zero <;> cases op == 0 <;> cases bo == 0 <;> rfl
  by_cases h4 : k = 4
  · subst h4
    simp [ok, own, parts, eqB, GPlace.eqB_self, GOper.eqB_self, e, f, z_comm, c4]
    cases a.eqB .zero <;> cases b.eqB .zero <;> cases p.ok <;> cases op == 0 <;> cases decide (1 ≤ bo) <;> cases decide (bo ≤ 3) <;> rfl
  by_cases h5 : k = 5
  · subst h5
    simp [ok, own, parts, eqB, GPlace.eqB_self, GOper.eqB_self, e, f, z_comm]
    cases a.eqB .zero <;> cases b.eqB .zero <;> cases p.ok <;> cases op == 0 <;> cases bo == 0 <;> rfl
  have h : (decide (1 ≤ k) && decide (k ≤ 5)) = false := by
    rw [← Bool.not_eq_true]; simp only [Bool.and_eq_true, decide_eq_true_eq]; omega
  rw [h]
  simp [ok, h1, h2, h3, h4, h5]

def GStmt.own (s : GStmt) : GStmt :=
  ⟨s.k, if s.k = 1 then s.p else .zero, if s.k = 1 then s.r else .zero, if s.k = 2 ∨ s.k = 4 then s.a else .zero, if s.k = 3 then s.l else 0⟩
/-- What is asked of the parts that a statement of its kind has. -/
def GStmt.in_ (s : GStmt) : Bool :=
  if s.k = 1 then s.p.ok && s.r.ok else if s.k = 2 ∨ s.k = 4 then s.a.ok else if s.k = 3 then (GPlace.mk s.l false 0).ok else false
theorem GStmt.ok_own (s : GStmt) : s.ok = (s.own.eqB s && s.in_) := by
  obtain ⟨k, p, r, a, l⟩ := s
  have e := GOper.eqB_comm .zero a
  have f := GPlace.eqB_comm .zero p
  have g := GRv.eqB_comm .zero r
  by_cases h1 : k = 1
  · subst h1
    simp [ok, own, in_, eqB, GPlace.eqB_self, GRv.eqB_self, GOper.eqB_self, e, f, g, z_comm]
    cases p.ok <;> cases r.ok <;> cases a.eqB .zero <;> cases l == 0 <;> rfl
  by_cases h2 : k = 2
  · subst h2
    simp [ok, own, in_, eqB, GPlace.eqB_self, GRv.eqB_self, GOper.eqB_self, e, f, g, z_comm]
    cases p.eqB .zero <;> cases r.eqB .zero <;> cases a.ok <;> cases l == 0 <;> rfl
  by_cases h3 : k = 3
  · subst h3
    simp [ok, own, in_, eqB, GPlace.ok, GPlace.eqB_self, GRv.eqB_self, GOper.eqB_self, e, f, g, z_comm, Bool.and_assoc]
  by_cases h4 : k = 4
  · subst h4
    simp [ok, own, in_, eqB, GPlace.eqB_self, GRv.eqB_self, GOper.eqB_self, e, f, g, z_comm]
    cases p.eqB .zero <;> cases r.eqB .zero <;> cases a.ok <;> cases l == 0 <;> rfl
  simp [ok, own, in_, h1, h2, h3, h4]

end Go.Proofs.Ytbimggeapaaliaa
