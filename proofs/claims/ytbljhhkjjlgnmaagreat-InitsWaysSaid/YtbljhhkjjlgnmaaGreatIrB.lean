/- Layer 15 of the reference: which points are reached. No condition. -/
import Derived.Test.YtbljhhkjjlgnmaaGreatIrA
import Derived.Test.YtbljhhkjjlgnmaaGreatSpA
namespace Go.Proofs.YtbljhhkjjlgnmaaGreat
open Go.RowKit
set_option linter.unusedVariables false
set_option linter.unusedSimpArgs false

def reG (F : GFun) : SwG := ⟨stN F.sn F.bn, rsucc F, fun _ b => b, fun n => decide (n = 0)⟩

theorem reG_eq {F : GFun} (hO : F.Ok) {n : Nat} (hn : n < stN F.sn F.bn) : (reG F).sB n = reachB F (pbN F n) := by
  have key : Cl (reG F).Z (reG F).R n ↔ ReachG (succN F) n := by
    constructor
    · intro h
      induction h with
      | zero h =>
        rcases h with h | ⟨m, _, h, _⟩
        · have := of_decide_eq_true h.2
          rw [this]; exact .zero
        · cases h
      | step _ h ih => exact .step (ih h.1) ((rsucc_mem h.1).1 h.2.2)
    · intro h
      have hlt : ∀ j, ReachG (succN F) j → j < stN F.sn F.bn := fun j h => by
        induction h with
        | zero => exact pts_pos hO
        | step _ hn ih => exact succN_lt hO ih _ hn
      clear hn
      induction h with
      | zero => exact .zero (.inl ⟨pts_pos hO, rfl⟩)
      | step hb hn ih => exact .step ih ⟨hlt _ hb, rfl, (rsucc_mem (hlt _ hb)).2 hn⟩
  have h2 := reachG_pt hO hn
  unfold SwG.sB
  have h1 := clB_iff (Z := (reG F).Z) (R := (reG F).R) (n := n)
  rw [key, h2] at h1
  cases hs : clB (reG F).Z (reG F).R n <;> cases hr : reachB F (pbN F n) <;> simp_all

set_option maxRecDepth 100000 in
set_option maxHeartbeats 8000000 in
theorem rReachedC (F : GFun) (w : World) (hF : F.At w) (hO : F.Ok) :
    Calls Tryz.prog 115 #[F.val] w (RetR w (funX F) (.pt (.one (.rs 0))) [⟨stN F.sn F.bn, 1, fun j => [.bool (reachB F (pbN F j))]⟩]) := by
  have h1 (wc : World) (hk : KB ⟨w, []⟩ wc) := sizeC F wc (hF.later hk) hO.small
  have h20 (wc : World) (hk : KB ⟨w, []⟩ wc) (n : Nat) (hn : n < stN F.sn F.bn) := rNextC F wc (hF.later hk) hO n hn
  have hN9 := hO.pts
  have hN0 := pts_pos hO
  obtain ⟨G, hG⟩ : ∃ G, G = reG F := ⟨_, rfl⟩
  have gN : G.N = stN F.sn F.bn := by rw [hG]; rfl
  have gs : G.sc = rsucc F := by rw [hG]; rfl
  have gf : ∀ n b, G.fire n b = b := fun n b => by rw [hG]; rfl
  have gi : ∀ n, G.i0 n = decide (n = 0) := fun n => by rw [hG]; rfl
  have hlt : ∀ m, m < G.N → ∀ q ∈ G.sc m, q < G.N := fun m hm => by rw [gN] at hm ⊢; rw [gs]; exact rsucc_lt hO hm
  have hff : ∀ m, G.fire m false = true → G.fire m true = true := fun m _ => gf m true
  obtain ⟨N, hN⟩ : ∃ N, N = stN F.sn F.bn := ⟨_, rfl⟩
  obtain ⟨dn, hdn⟩ : ∃ f : Nat → Nat, f = fun n => (rsucc F n).length := ⟨_, rfl⟩
  obtain ⟨ld, hld⟩ : ∃ f : Nat → Nat → Nat, f = fun n j => (rsucc F n).getD j 0 := ⟨_, rfl⟩
  have h2 (wc : World) (hk : KB ⟨w, []⟩ wc) (n : Nat) (hn : n < N) : Calls Tryz.prog 32 #[F.val, .int .i64 (.ofNat n)] wc (RetR wc (funX F) (.pt (.one (.rs 0))) [⟨dn n, 1, fun j => [.int .i64 (.ofNat (ld n j))]⟩]) := by
    have := h20 wc hk n (hN ▸ hn)
    rw [hdn, hld]; exact this
  have hlb : ∀ {n k}, n < N → k < dn n → ld n k < N := fun {n k} hn hk => by
    rw [hdn] at hk; rw [hN] at hn ⊢; rw [hld]
    simp only [List.getD, List.getElem?_eq_getElem hk, Option.getD_some]
    exact rsucc_lt hO hn _ (List.getElem_mem hk)
  have dnb : ∀ n, dn n ≤ 2 := fun n => by rw [hdn]; exact rsucc_len F n
  obtain ⟨A1, hA1⟩ : ∃ f : SwG.SS → Nat → Bool, f = fun x => x.1 := ⟨_, rfl⟩
  obtain ⟨A2, hA2⟩ : ∃ f : SwG.SS → Bool, f = fun x => x.2 := ⟨_, rfl⟩
  obtain ⟨W, hW⟩ : ∃ f : SwG.SS → Nat → SwG.SS, f = fun x n => SwG.sweep G x.1 n := ⟨_, rfl⟩
  obtain ⟨P, hP⟩ : ∃ f : SwG.SS → Nat → Nat → SwG.SS, f = fun x n k => SwG.part G (W x n) n k := ⟨_, rfl⟩
  obtain ⟨Hd, hHd⟩ : ∃ f : SwG.SS → Prop, f = SwG.Head G := ⟨_, rfl⟩
  obtain ⟨mu, hmu⟩ : ∃ f : SwG.SS → Nat, f = SwG.mu G := ⟨_, rfl⟩
  obtain ⟨x0, hx0⟩ : ∃ x : SwG.SS, x = (fun j => decide (j = 0), true) := ⟨_, rfl⟩
  obtain ⟨rb, hrb⟩ : ∃ f : Nat → Bool, f = fun j => reachB F (pbN F j) := ⟨_, rfl⟩
  have q0 : Hd x0 := by rw [hHd, hx0]; exact SwG.head_first _ (fun n _ => (gi n).symm)
  have qs : ∀ {x}, Hd x → A2 x = true → Hd (W x N) ∧ mu (W x N) < mu x := fun {x} h h2 => by
    rw [hHd] at h; rw [hA2] at h2
    rw [hHd, hmu, hW, hN, ← gN]; exact SwG.head_step hff hlt h h2
  have qe : ∀ {x}, Hd x → A2 x = false → ∀ j, j < N → A1 x j = rb j := fun {x} h h2 j hj => by
    rw [hHd] at h; rw [hA2] at h2
    rw [hN, ← gN] at hj
    rw [hA1, hrb]
    have := SwG.head_end hff hlt h h2 hj
    rw [gN] at hj
    show x.1 j = _
    rw [this, hG]; exact reG_eq hO hj
  have a0 : (∀ j, A1 x0 j = decide (j = 0)) ∧ A2 x0 = true := by rw [hA1, hA2, hx0]; exact ⟨fun _ => rfl, rfl⟩
  have w0 : ∀ {x}, A1 (W x 0) = A1 x ∧ A2 (W x 0) = false := fun {x} => by rw [hA1, hA2, hW]; exact ⟨rfl, rfl⟩
  have p0 : ∀ {x n}, P x n 0 = W x n := fun {x n} => by rw [hP]; exact SwG.part_zero G _ n
  have hsl : ∀ n, (G.sc n).length = dn n := fun n => by rw [gs, hdn]
  have ps : ∀ {x n k}, k < dn n → (∀ j, A1 (P x n (k + 1)) j = if j = ld n k then true else A1 (P x n k) j) ∧ A2 (P x n (k + 1)) = (A2 (P x n k) || !A1 (P x n k) (ld n k)) := fun {x n k} hk => by
    rw [← hsl] at hk
    have := SwG.part_succ G (x := W x n) hk
    rw [hA1, hA2, hP, hld, ← gs]
    simp only [this]
    exact ⟨fun j => rfl, rfl⟩
  have w1 : ∀ {x n}, W x (n + 1) = SwG.node G (W x n) n := fun {x n} => by rw [hW]; rfl
  have pup : ∀ {x n k}, A1 (W x n) n = true → A1 (P x n k) n = true := fun {x n k} h => by rw [hA1] at h ⊢; rw [hP]; exact SwG.part_up G _ n k h
  have x1 : ∀ {x n k}, k ≤ dn n → dn n ≤ k → (k = 0 ∨ A1 (W x n) n = true) → P x n k = W x (n + 1) := fun {x n k} h1 h2 h3 => by
    have e : k = dn n := Nat.le_antisymm h1 h2
    rw [w1]
    unfold SwG.node
    rw [gf]
    have e2 : P x n k = (G.sc n).foldl SwG.put (W x n) := by rw [e, ← hsl, hP]; exact SwG.part_end G _ n
    rcases h3 with h3 | h3
    · have e3 : G.sc n = [] := List.eq_nil_of_length_eq_zero (by rw [hsl]; omega)
      rw [e2, e3]; simp
    · rw [hA1] at h3
      rw [if_pos h3, e2]
  have x2 : ∀ {x n k}, (k = 0 ∨ A1 (W x n) n = true) → A1 (P x n k) n = false → P x n k = W x (n + 1) := fun {x n k} h3 h4 => by
    have h5 : ¬ A1 (W x n) n = true := fun g => by rw [pup g] at h4; cases h4
    rcases h3 with rfl | h3
    · rw [p0, w1]
      unfold SwG.node
      rw [gf]
      rw [hA1] at h5
      rw [if_neg h5]
    · exact absurd h3 h5
  have hRB : (fun j => [SC.bool (reachB F (pbN F j))]) = fun j => [SC.bool (rb j)] := by rw [hrb]
  rw [hRB, ← hN]
  rw [← hN] at h1 hN9 hN0
  clear hRB hrb hN hdn hld h20 hG gN gs gf gi hlt hff hHd hmu hx0 hP hW hA1 hA2 hsl w1 hO
  obtain ⟨pa, un, lA, ln, lc, lk, lt, bA, bn, bc, sA, sn, sc, s, jA, jn, jc, ja, jk, jo, jf, jx, je, jd⟩ := F
  obtain ⟨hX, hl, hb, hs, hj⟩ := hF
  simp only at hl hb hs hj
  try simp only at h1 h2
  refine go_start (args := [.pt (.agg (GFun.dat ⟨pa, un, lA, ln, lc, lk, lt, bA, bn, bc, sA, sn, sc, s, jA, jn, jc, ja, jk, jo, jf, jx, je, jd⟩))]) (c := (funX ⟨pa, un, lA, ln, lc, lk, lt, bA, bn, bc, sA, sn, sc, s, jA, jn, jc, ja, jk, jo, jf, jx, je, jd⟩)) Tryz.func115 rfl hX rfl rfl ?_
  obtain ⟨nd, hnd⟩ : ∃ f : Bool → Bool → Bool, f = and := ⟨_, rfl⟩
  obtain ⟨nt, hnt⟩ : ∃ f : Bool → Bool, f = not := ⟨_, rfl⟩
  obtain ⟨ar, har⟩ : ∃ f : BinOp → IntKind → Int → Int → Int, f = rAr := ⟨_, rfl⟩
  obtain ⟨cm, hcm⟩ : ∃ f : BinOp → Int → Int → Bool, f = rCm := ⟨_, rfl⟩
  obtain ⟨mx, hmx⟩ : ∃ f : Int → Int → Int, f = rMx := ⟨_, rfl⟩
  obtain ⟨mn, hmn⟩ : ∃ f : Int → Int → Int, f = rMn := ⟨_, rfl⟩
  have ar01 : ar .add .i64 0 1 = 1 := by rw [har]; decide
  have ar12 : ar .add .i64 1 1 = 2 := by rw [har]; decide
  obtain ⟨zpl, hzpl⟩ : ∃ f : Nat → Nat → Nat, f = fun x y => x + y := ⟨_, rfl⟩
  obtain ⟨zjn, hzjn⟩ : ∃ f : Nat → (Nat → List SC) → (Nat → List SC) → Nat → List SC, f = rJn := ⟨_, rfl⟩
  obtain ⟨zup, hzup⟩ : ∃ f : (Nat → List SC) → Nat → Nat → List SC → Nat → List SC, f = rUp := ⟨_, rfl⟩
  obtain ⟨zmi, hzmi⟩ : ∃ f : Nat → Nat → Nat, f = fun x y => x - y := ⟨_, rfl⟩
  obtain ⟨zdp, hzdp⟩ : ∃ f : Nat → (Nat → List SC) → Nat → List SC, f = rDp := ⟨_, rfl⟩
  have hT := T0_ok hnd hnt har hcm hmx hmn hzpl hzjn hzup hzmi hzdp
  have r0 : RowLe ⟨N, 1, zup (fun x => [SC.lit false]) 0 0 [SC.lit true]⟩ ⟨N, 1, fun j => [SC.bool (A1 x0 j)]⟩ := by
    refine rowLe_up hzup rfl (fun j hj h => ⟨?_, trivial⟩) (fun _ => ⟨?_, trivial⟩)
    · rw [a0.1, decide_eq_false h]; show false = false; rfl
    · rw [a0.1]; exact rfl
  have r1 : ∀ {x}, RowLe ⟨N, 1, fun j => [SC.bool (A1 x j)]⟩ ⟨N, 1, fun j => [SC.bool (A1 (W x 0) j)]⟩ := fun {x} => by rw [w0.1]; exact RowLe.rfl' _
  have r2 : ∀ {x n}, RowLe ⟨N, 1, fun j => [SC.bool (A1 (W x n) j)]⟩ ⟨N, 1, fun j => [SC.bool (A1 (P x n 0) j)]⟩ := fun {x n} => by rw [p0]; exact RowLe.rfl' _
  have r3 : ∀ {x n k}, k < dn n → RowLe ⟨N, 1, zup (fun j => [SC.bool (A1 (P x n k) j)]) (ld n k) 0 [SC.lit true]⟩ ⟨N, 1, fun j => [SC.bool (A1 (P x n (k + 1)) j)]⟩ := fun {x n k} hk => by
    refine rowLe_up hzup rfl (fun j hj h => ⟨?_, trivial⟩) (fun _ => ⟨?_, trivial⟩)
    · rw [(ps hk).1, if_neg h]; exact rfl
    · rw [(ps hk).1, if_pos rfl]; show true = true; rfl
  have b3 : ∀ {x n k}, k < dn n → A2 (P x n k) = true → true = A2 (P x n (k + 1)) := fun {x n k} hk h => by rw [(ps hk).2, h]; rfl
  have b4 : ∀ {x n k}, k < dn n → A2 (P x n k) = false → nt (A1 (P x n k) (ld n k)) = A2 (P x n (k + 1)) := fun {x n k} hk h => by rw [(ps hk).2, h, hnt]; rfl
  have r4 : ∀ {x n k}, k ≤ dn n → dn n ≤ k → (k = 0 ∨ A1 (W x n) n = true) → RowLe ⟨N, 1, fun j => [SC.bool (A1 (P x n k) j)]⟩ ⟨N, 1, fun j => [SC.bool (A1 (W x (n + 1)) j)]⟩ := fun {x n k} a b c => by rw [x1 a b c]; exact RowLe.rfl' _
  have b5 : ∀ {x n k}, k ≤ dn n → dn n ≤ k → (k = 0 ∨ A1 (W x n) n = true) → A2 (P x n k) = A2 (W x (n + 1)) := fun {x n k} a b c => by rw [x1 a b c]
  have r6 : ∀ {x n k}, (k = 0 ∨ A1 (W x n) n = true) → A1 (P x n k) n = false → RowLe ⟨N, 1, fun j => [SC.bool (A1 (P x n k) j)]⟩ ⟨N, 1, fun j => [SC.bool (A1 (W x (n + 1)) j)]⟩ := fun {x n k} a b => by rw [x2 a b]; exact RowLe.rfl' _
  have b7 : ∀ {x n k}, (k = 0 ∨ A1 (W x n) n = true) → A1 (P x n k) n = false → A2 (P x n k) = A2 (W x (n + 1)) := fun {x n k} a b => by rw [x2 a b]
  have r8 : ∀ {x n}, n ≤ N → N ≤ n → RowLe ⟨N, 1, fun j => [SC.bool (A1 (W x n) j)]⟩ ⟨N, 1, fun j => [SC.bool (A1 (W x N) j)]⟩ := fun {x n} a b => by rw [Nat.le_antisymm a b]; exact RowLe.rfl' _
  have b8 : ∀ {x n}, n ≤ N → N ≤ n → A2 (W x n) = A2 (W x N) := fun {x n} a b => by rw [Nat.le_antisymm a b]
  have r9 : ∀ {x}, Hd x → A2 x = false → RowLe ⟨N, 1, fun j => [SC.bool (A1 x j)]⟩ ⟨N, 1, fun j => [SC.bool (rb j)]⟩ := fun {x} a b => rowLe_of rfl fun j hj => ⟨by rw [qe a b j hj]; exact rfl, trivial⟩
  have pk : ∀ {x n k}, (k = 0 ∨ A1 (W x n) n = true) → A1 (P x n k) n = true → (k + 1 = 0 ∨ A1 (W x n) n = true) := fun {x n k} a b => by
    rcases a with rfl | a
    · rw [p0] at b; exact .inr b
    · exact .inr a
  have bt : true = A2 x0 := a0.2.symm
  have bf : ∀ {x}, false = A2 (W x 0) := fun {x} => w0.2.symm
  have bp : ∀ {x n}, A2 (W x n) = A2 (P x n 0) := fun {x n} => by rw [p0]
  clear a0 w0 p0 ps x1 x2 qe pup
  repeat' (first
    | ((with_reducible apply go_ev hT 400); (· (cbv; try rfl)); (fail_if_success with_reducible apply stuck_id))
    | (with_reducible refine go_brl hcm (fun hlt => ?_) (fun hge => ?_))
    | (with_reducible refine go_br (fun h => ?_) (fun h => ?_))
    | ((with_reducible refine go_need ?_ ?_ ?_); (· first | omega | (simp only [Int.ofNat_eq_natCast]; omega)); (· first | omega | (simp only [Int.ofNat_eq_natCast]; omega)))
    | ((with_reducible refine go_ob ?_ ?_); (· first | trivial | (refine ⟨trivial, ?_⟩; omega) | (rw [hzpl]; refine ⟨trivial, ?_⟩; show _ + _ ≤ 1073741824; omega) | (rw [hzpl]; show _ + _ ≤ 1073741824; omega) | ((exact ⟨Int.natCast_nonneg N, (show (N : Int) ≤ 1073741824 by omega)⟩))))
    | ((with_reducible apply go_ret_rows hT); (· (cbv; try rfl)); (· (cbv; try rfl)); (· (cbv; (try simp only [true_and, and_true]); (try ((repeat' apply And.intro) <;> (first | trivial | rfl | decide  | ((rw [wrap_nat har _ (by have := dnb n; have h9 : k < dn n := (by assumption); omega)])) | ((exact r1)) | ((exact r2)) | ((exact r3 (by assumption))) | ((exact b3 (by assumption) (by assumption))) | ((exact b4 (by assumption) (by assumption))) | ((exact r4 hk (by assumption) hk2)) | ((exact b5 hk (by assumption) hk2)) | ((exact r6 hk2 (by assumption))) | ((exact b7 hk2 (by assumption))) | ((exact r8 hn (by assumption))) | ((exact b8 hn (by assumption))) | ((exact r9 hH (by assumption))) | ((exact bf)) | ((exact bp))))))); (· (cbv; (try simp only [true_and, and_true]); (try ((repeat' apply And.intro) <;> (first | trivial | rfl | exact RowLe.rfl' _  | ((rw [wrap_nat har _ (by have := dnb n; have h9 : k < dn n := (by assumption); omega)])) | ((exact r1)) | ((exact r2)) | ((exact r3 (by assumption))) | ((exact b3 (by assumption) (by assumption))) | ((exact b4 (by assumption) (by assumption))) | ((exact r4 hk (by assumption) hk2)) | ((exact b5 hk (by assumption) hk2)) | ((exact r6 hk2 (by assumption))) | ((exact b7 hk2 (by assumption))) | ((exact r8 hn (by assumption))) | ((exact b8 hn (by assumption))) | ((exact r9 hH (by assumption))) | ((exact bf)) | ((exact bp))))))); (· rfl))
    | ((with_reducible apply go_call (f := 24) (hf := Tryz.call24)); (· (cbv; try rfl)); (· intro wc hbc hxc; exact h1 wc hbc))
    | ((with_reducible apply go_callR (f := 32) (hf := Tryz.call32)); (· intro S; cbv; try rfl); (· intro wc S hbc hxc hrc; exact h2 wc hbc n (by assumption)); (· rfl))
    | ((with_reducible refine go_loopk (σ := {x : SwG.SS // Hd x}) [5, 6, 7, 13, 14, 15, 16, 17, 18, 19, 20, 21, 22, 23, 24, 25, 26, 27, 28, 29, 30, 31, 32, 33, 34, 35, 36, 37, 38, 39, 40, 41, 42, 43, 44, 45, 46, 47, 48, 49, 50, 51] (fun x => [(4, .pt (.one (.bool (A2 x.1))))]) (fun x => []) (fun x => [(0, ⟨N, 1, fun j => [.bool (A1 x.1 j)]⟩)]) (fun x => mu x.1) ⟨x0, q0⟩ ?_ ?_ ?_ ?_); (· (refine le_mk ?_ ?_ ?_ ?_ <;> (cbv; (try simp only [true_and, and_true]); (try ((repeat' apply And.intro) <;> (first | trivial | rfl | exact RowLe.rfl' _ | (rw [wrap_nat har _ (by omega)]) | ((rw [wrap_nat har _ (by have := dnb n; have h9 : k < dn n := (by assumption); omega)])) | ((exact r1)) | ((exact r2)) | ((exact r3 (by assumption))) | ((exact b3 (by assumption) (by assumption))) | ((exact b4 (by assumption) (by assumption))) | ((exact r4 hk (by assumption) hk2)) | ((exact b5 hk (by assumption) hk2)) | ((exact r6 hk2 (by assumption))) | ((exact b7 hk2 (by assumption))) | ((exact r8 hn (by assumption))) | ((exact b8 hn (by assumption))) | ((exact r9 hH (by assumption))) | ((exact bf)) | ((exact bp)))))))); (· (cbv; try rfl)); (· simp); (rintro ⟨y, hH⟩ mm hmm))
    | ((with_reducible refine go_loopk (σ := {n : Nat // n ≤ N}) [6, 7, 14, 15, 16, 17, 18, 19, 20, 21, 22, 23, 24, 25, 26, 27, 28, 29, 30, 31, 32, 33, 34, 35, 36, 37, 38, 39, 40, 41, 42, 43, 44, 45, 46, 47, 48, 49, 50, 51] (fun x => [(5, .pt (.one (.int .i64 (.ofNat x.1)))), (4, .pt (.one (.bool (A2 (W y x.1)))))]) (fun x => []) (fun x => [(0, ⟨N, 1, fun j => [.bool (A1 (W y x.1) j)]⟩)]) (fun x => N - x.1) ⟨0, by omega⟩ ?_ ?_ ?_ ?_); (· (refine le_mk ?_ ?_ ?_ ?_ <;> (cbv; (try simp only [true_and, and_true]); (try ((repeat' apply And.intro) <;> (first | trivial | rfl | exact RowLe.rfl' _ | (rw [wrap_nat har _ (by omega)]) | ((rw [wrap_nat har _ (by have := dnb n; have h9 : k < dn n := (by assumption); omega)])) | ((exact r1)) | ((exact r2)) | ((exact r3 (by assumption))) | ((exact b3 (by assumption) (by assumption))) | ((exact b4 (by assumption) (by assumption))) | ((exact r4 hk (by assumption) hk2)) | ((exact b5 hk (by assumption) hk2)) | ((exact r6 hk2 (by assumption))) | ((exact b7 hk2 (by assumption))) | ((exact r8 hn (by assumption))) | ((exact b8 hn (by assumption))) | ((exact r9 hH (by assumption))) | ((exact bf)) | ((exact bp)))))))); (· (cbv; try rfl)); (· simp); (rintro ⟨n, hn⟩ mm hmm))
    | ((with_reducible refine go_loopk (σ := {k : Nat // k ≤ dn n ∧ (k = 0 ∨ A1 (W y n) n = true)}) [23, 24, 25, 26, 27, 28, 29, 30, 31, 32, 33, 34, 35, 36, 37, 38, 39, 40, 41, 42, 43, 44, 45, 46, 47, 48, 49, 50, 51] (fun x => [(7, .pt (.one (.int .i64 (.ofNat x.1)))), (4, .pt (.one (.bool (A2 (P y n x.1)))))]) (fun x => []) (fun x => [(0, ⟨N, 1, fun j => [.bool (A1 (P y n x.1) j)]⟩)]) (fun x => dn n - x.1) ⟨0, by omega, .inl rfl⟩ ?_ ?_ ?_ ?_); (· (refine le_mk ?_ ?_ ?_ ?_ <;> (cbv; (try simp only [true_and, and_true]); (try ((repeat' apply And.intro) <;> (first | trivial | rfl | exact RowLe.rfl' _ | (rw [wrap_nat har _ (by omega)]) | ((rw [wrap_nat har _ (by have := dnb n; have h9 : k < dn n := (by assumption); omega)])) | ((exact r1)) | ((exact r2)) | ((exact r3 (by assumption))) | ((exact b3 (by assumption) (by assumption))) | ((exact b4 (by assumption) (by assumption))) | ((exact r4 hk (by assumption) hk2)) | ((exact b5 hk (by assumption) hk2)) | ((exact r6 hk2 (by assumption))) | ((exact b7 hk2 (by assumption))) | ((exact r8 hn (by assumption))) | ((exact b8 hn (by assumption))) | ((exact r9 hH (by assumption))) | ((exact bf)) | ((exact bp)))))))); (· (cbv; try rfl)); (· simp); (rintro ⟨k, hk, hk2⟩ mm hmm))
    | (((with_reducible apply go_need); (· exact Int.natCast_nonneg _); (· exact Int.ofNat_lt.2 (hlb (by assumption) (by assumption)))))
    | ((with_reducible refine go_stop (⟨n + 1, by omega⟩ : {n : Nat // n ≤ N}) ?_ ?_ ?_ ?_); (· exact Nat.lt_of_lt_of_eq (show N - (n + 1) < N - n from by omega) (Eq.symm (by assumption))); (· (refine le_mk ?_ ?_ ?_ ?_ <;> (cbv; (try simp only [true_and, and_true]); (try ((repeat' apply And.intro) <;> (first | trivial | rfl | exact RowLe.rfl' _ | (rw [wrap_nat har _ (by omega)]) | ((rw [wrap_nat har _ (by have := dnb n; have h9 : k < dn n := (by assumption); omega)])) | ((exact r1)) | ((exact r2)) | ((exact r3 (by assumption))) | ((exact b3 (by assumption) (by assumption))) | ((exact b4 (by assumption) (by assumption))) | ((exact r4 hk (by assumption) hk2)) | ((exact b5 hk (by assumption) hk2)) | ((exact r6 hk2 (by assumption))) | ((exact b7 hk2 (by assumption))) | ((exact r8 hn (by assumption))) | ((exact b8 hn (by assumption))) | ((exact r9 hH (by assumption))) | ((exact bf)) | ((exact bp)))))))); (· (cbv; try rfl)); (· simp))
    | ((with_reducible refine go_stop (⟨k + 1, Nat.succ_le_of_lt (by assumption), pk hk2 (by assumption)⟩ : {k : Nat // k ≤ dn n ∧ (k = 0 ∨ A1 (W y n) n = true)}) ?_ ?_ ?_ ?_); (· subst hmm; (have hlt2 : k < dn n := (by assumption); show dn n - (k + 1) < dn n - k; omega)); (· (refine le_mk ?_ ?_ ?_ ?_ <;> (cbv; (try simp only [true_and, and_true]); (try ((repeat' apply And.intro) <;> (first | trivial | rfl | exact RowLe.rfl' _ | (rw [wrap_nat har _ (by omega)]) | ((rw [wrap_nat har _ (by have := dnb n; have h9 : k < dn n := (by assumption); omega)])) | ((exact r1)) | ((exact r2)) | ((exact r3 (by assumption))) | ((exact b3 (by assumption) (by assumption))) | ((exact b4 (by assumption) (by assumption))) | ((exact r4 hk (by assumption) hk2)) | ((exact b5 hk (by assumption) hk2)) | ((exact r6 hk2 (by assumption))) | ((exact b7 hk2 (by assumption))) | ((exact r8 hn (by assumption))) | ((exact b8 hn (by assumption))) | ((exact r9 hH (by assumption))) | ((exact bf)) | ((exact bp)))))))); (· (cbv; try rfl)); (· simp))
    | ((with_reducible refine go_stop (⟨W y N, (qs hH (by assumption)).1⟩ : {x : SwG.SS // Hd x}) ?_ ?_ ?_ ?_); (· subst hmm; (exact Nat.lt_of_lt_of_eq (qs hH (by assumption)).2 (Eq.symm (by assumption)))); (· (refine le_mk ?_ ?_ ?_ ?_ <;> (cbv; (try simp only [true_and, and_true]); (try ((repeat' apply And.intro) <;> (first | trivial | rfl | exact RowLe.rfl' _ | (rw [wrap_nat har _ (by omega)]) | ((rw [wrap_nat har _ (by have := dnb n; have h9 : k < dn n := (by assumption); omega)])) | ((exact r1)) | ((exact r2)) | ((exact r3 (by assumption))) | ((exact b3 (by assumption) (by assumption))) | ((exact b4 (by assumption) (by assumption))) | ((exact r4 hk (by assumption) hk2)) | ((exact b5 hk (by assumption) hk2)) | ((exact r6 hk2 (by assumption))) | ((exact b7 hk2 (by assumption))) | ((exact r8 hn (by assumption))) | ((exact b8 hn (by assumption))) | ((exact r9 hH (by assumption))) | ((exact bf)) | ((exact bp)))))))); (· (cbv; try rfl)); (· simp))
    )
  all_goals trace_state

end Go.Proofs.YtbljhhkjjlgnmaaGreat
