/- Layer 15 of the reference: where a local may be unset; masks. No condition. -/
import Derived.Test.YtbljhhkjjlgnmaaGreatInE
import Derived.Test.YtbljhhkjjlgnmaaGreatIrD
import Derived.Test.YtbljhhkjjlgnmaaGreatIdG
namespace Go.Proofs.YtbljhhkjjlgnmaaGreat
open Go.RowKit
set_option linter.unusedVariables false
set_option linter.unusedSimpArgs false

set_option maxRecDepth 100000 in
set_option maxHeartbeats 8000000 in
theorem rUnsetC (F : GFun) (w : World) (hF : F.At w) (hO : F.Ok) (l : Nat) (hl : l < F.ln) :
    Calls Tryz.prog 82 #[F.val, .int .i64 (.ofNat l)] w (RetR w (funX F) (.pt (.one (.rs 0))) [⟨stN F.sn F.bn, 1, fun j => [.bool ((flowF F).unB l j)]⟩]) := by
  have h10 (wc : World) (hk : KB ⟨w, []⟩ wc) := rReachedC F wc (hF.later hk) hO
  have h20 (wc : World) (hk : KB ⟨w, []⟩ wc) (n : Nat) (hn : n < stN F.sn F.bn) := rNextC F wc (hF.later hk) hO n hn
  have h30 (wc : World) (hk : KB ⟨w, []⟩ wc) (n : Nat) (hn : n < stN F.sn F.bn) := rUnsetsC F wc (hF.later hk) hO n hn (.ofNat l)
  have h40 (wc : World) (hk : KB ⟨w, []⟩ wc) (n : Nat) (hn : n < stN F.sn F.bn) := rSetsC F wc (hF.later hk) hO n hn (.ofNat l)
  have hN9 := hO.pts
  have hN0 := pts_pos hO
  obtain ⟨G, hG⟩ : ∃ G, G = unG F l := ⟨_, rfl⟩
  have gN : G.N = stN F.sn F.bn := by rw [hG]; rfl
  have gs : G.sc = rsucc F := by rw [hG]; rfl
  have gf : ∀ n b, G.fire n b = (reachB F (pbN F n) && (unsB F n (.ofNat l) || (b && !stB F n (.ofNat l)))) := fun n b => by rw [hG]; rfl
  have gi : ∀ n, G.i0 n = (decide (n = 0) && (decide (l < 1) || decide (F.pa < Int.ofNat l))) := fun n => by rw [hG]; rfl
  have hlt : ∀ m, m < G.N → ∀ q ∈ G.sc m, q < G.N := fun m hm => by rw [gN] at hm ⊢; rw [gs]; exact rsucc_lt hO hm
  have hff : ∀ m, G.fire m false = true → G.fire m true = true := fun m h => by
    rw [gf] at h ⊢
    simp only [Bool.and_eq_true, Bool.or_eq_true, Bool.false_and, Bool.or_false] at h ⊢
    exact ⟨h.1, .inl (by simpa using h.2)⟩
  obtain ⟨N, hN⟩ : ∃ N, N = stN F.sn F.bn := ⟨_, rfl⟩
  obtain ⟨dn, hdn⟩ : ∃ f : Nat → Nat, f = fun n => (rsucc F n).length := ⟨_, rfl⟩
  obtain ⟨ld, hld⟩ : ∃ f : Nat → Nat → Nat, f = fun n j => (rsucc F n).getD j 0 := ⟨_, rfl⟩
  obtain ⟨rb, hrb⟩ : ∃ f : Nat → Bool, f = fun j => reachB F (pbN F j) := ⟨_, rfl⟩
  obtain ⟨uz, huz⟩ : ∃ f : Nat → Bool, f = fun j => unsB F j (.ofNat l) := ⟨_, rfl⟩
  obtain ⟨se, hse⟩ : ∃ f : Nat → Bool, f = fun j => stB F j (.ofNat l) := ⟨_, rfl⟩
  obtain ⟨ub, hub⟩ : ∃ f : Nat → Bool, f = fun j => (flowF F).unB l j := ⟨_, rfl⟩
  have h1 (wc : World) (hk : KB ⟨w, []⟩ wc) : Calls Tryz.prog 115 #[F.val] wc (RetR wc (funX F) (.pt (.one (.rs 0))) [⟨N, 1, fun j => [.bool (rb j)]⟩]) := by
    rw [hN, hrb]; exact h10 wc hk
  have h2 (wc : World) (hk : KB ⟨w, []⟩ wc) (n : Nat) (hn : n < N) : Calls Tryz.prog 32 #[F.val, .int .i64 (.ofNat n)] wc (RetR wc (funX F) (.pt (.one (.rs 0))) [⟨dn n, 1, fun j => [.int .i64 (.ofNat (ld n j))]⟩]) := by
    have := h20 wc hk n (hN ▸ hn)
    rw [hdn, hld]; exact this
  have h3 (wc : World) (hk : KB ⟨w, []⟩ wc) (n : Nat) (hn : n < N) : Calls Tryz.prog 61 #[F.val, .int .i64 (.ofNat n), .int .i64 (.ofNat l)] wc (Ret wc (.bool (uz n))) := by
    rw [huz]; exact h30 wc hk n (hN ▸ hn)
  have h4 (wc : World) (hk : KB ⟨w, []⟩ wc) (n : Nat) (hn : n < N) : Calls Tryz.prog 60 #[F.val, .int .i64 (.ofNat n), .int .i64 (.ofNat l)] wc (Ret wc (.bool (se n))) := by
    rw [hse]; exact h40 wc hk n (hN ▸ hn)
  have hlb : ∀ {n k}, n < N → k < dn n → ld n k < N := fun {n k} hn hk => by
    rw [hdn] at hk; rw [hN] at hn ⊢; rw [hld]
    simp only [List.getD, List.getElem?_eq_getElem hk, Option.getD_some]
    exact rsucc_lt hO hn _ (List.getElem_mem hk)
  have dnb : ∀ n, dn n ≤ 2 := fun n => by rw [hdn]; exact rsucc_len F n
  have gf : ∀ n b, G.fire n b = (rb n && (uz n || (b && !se n))) := fun n b => by rw [gf, hrb, huz, hse]
  obtain ⟨A1, hA1⟩ : ∃ f : SwG.SS → Nat → Bool, f = fun x => x.1 := ⟨_, rfl⟩
  obtain ⟨A2, hA2⟩ : ∃ f : SwG.SS → Bool, f = fun x => x.2 := ⟨_, rfl⟩
  obtain ⟨W, hW⟩ : ∃ f : SwG.SS → Nat → SwG.SS, f = fun x n => SwG.sweep G x.1 n := ⟨_, rfl⟩
  obtain ⟨P, hP⟩ : ∃ f : SwG.SS → Nat → Nat → SwG.SS, f = fun x n k => SwG.part G (W x n) n k := ⟨_, rfl⟩
  obtain ⟨Hd, hHd⟩ : ∃ f : SwG.SS → Prop, f = SwG.Head G := ⟨_, rfl⟩
  obtain ⟨mu, hmu⟩ : ∃ f : SwG.SS → Nat, f = SwG.mu G := ⟨_, rfl⟩
  obtain ⟨x0, hx0⟩ : ∃ x : SwG.SS, x = (G.i0, true) := ⟨_, rfl⟩
  have q0 : Hd x0 := by rw [hHd, hx0]; exact SwG.head_first _ (fun n _ => rfl)
  have qs : ∀ {x}, Hd x → A2 x = true → Hd (W x N) ∧ mu (W x N) < mu x := fun {x} h h2 => by
    rw [hHd] at h; rw [hA2] at h2
    rw [hHd, hmu, hW, hN, ← gN]; exact SwG.head_step hff hlt h h2
  have qe : ∀ {x}, Hd x → A2 x = false → ∀ j, j < N → A1 x j = ub j := fun {x} h h2 j hj => by
    rw [hHd] at h; rw [hA2] at h2
    rw [hN, ← gN] at hj
    rw [hA1, hub]
    have := SwG.head_end hff hlt h h2 hj
    rw [gN] at hj
    show x.1 j = _
    rw [this, hG]; exact unG_eq hO hj
  have a0 : (∀ j, j ≠ 0 → A1 x0 j = false) ∧ A1 x0 0 = (decide (l < 1) || decide (F.pa < Int.ofNat l)) ∧ A2 x0 = true := by
    rw [hA1, hA2, hx0]
    refine ⟨fun j hj => ?_, ?_, rfl⟩
    · show G.i0 j = false
      rw [gi, decide_eq_false hj]; rfl
    · show G.i0 0 = _
      rw [gi]; rfl
  have w0 : ∀ {x}, A1 (W x 0) = A1 x ∧ A2 (W x 0) = false := fun {x} => by rw [hA1, hA2, hW]; exact ⟨rfl, rfl⟩
  have p0 : ∀ {x n}, P x n 0 = W x n := fun {x n} => by rw [hP]; exact SwG.part_zero G _ n
  have hsl : ∀ n, (G.sc n).length = dn n := fun n => by rw [gs, hdn]
  have ps : ∀ {x n k}, k < dn n → (∀ j, A1 (P x n (k + 1)) j = if j = ld n k then true else A1 (P x n k) j) ∧ A2 (P x n (k + 1)) = (A2 (P x n k) || !A1 (P x n k) (ld n k)) := fun {x n k} hk => by
    rw [← hsl] at hk
    have := SwG.part_succ G (x := W x n) hk
    rw [hA1, hA2, hP, hld, ← gs]
    simp only [this]
    exact ⟨fun j => rfl, rfl⟩
  have w1 : ∀ {x n}, W x (n + 1) = SwG.node G (W x n) n := fun {x n} => by rw [hW]; rfl
  have nf : ∀ {x n}, G.fire n (A1 (W x n) n) = false → W x n = W x (n + 1) := fun {x n} h => by
    rw [w1]; unfold SwG.node; rw [hA1] at h; rw [if_neg (by rw [h]; exact Bool.noConfusion)]
  have nt_ : ∀ {x n}, G.fire n (A1 (W x n) n) = true → P x n (dn n) = W x (n + 1) := fun {x n} h => by
    rw [w1]; unfold SwG.node; rw [hA1] at h; rw [if_pos h, ← hsl, hP]; exact SwG.part_end G _ n
  have z0 : ∀ {x n}, uz n = false → (A1 (W x n) n = false ∨ se n = true) → W x n = W x (n + 1) := fun {x n} h1 h2 => nf (by
    rw [gf, h1]
    rcases h2 with h2 | h2 <;> rw [h2] <;> simp)
  have z1 : ∀ {x n k}, (uz n = true ∨ (A1 (W x n) n = true ∧ se n = false)) → k ≤ dn n → dn n ≤ k → (k = 0 ∨ rb n = true) → P x n k = W x (n + 1) := fun {x n k} h1 h2 h3 h4 => by
    have e : k = dn n := Nat.le_antisymm h2 h3
    by_cases hr : rb n = true
    · rw [e]
      refine nt_ ?_
      rw [gf, hr]
      rcases h1 with h1 | ⟨h1, h5⟩
      · rw [h1]; rfl
      · rw [h1, h5]; simp
    · have hk : k = 0 := h4.resolve_right hr
      subst hk
      rw [p0]
      refine nf ?_
      rw [gf, show rb n = false by simpa using hr]; rfl
  have z2 : ∀ {x n k}, (k = 0 ∨ rb n = true) → rb n = false → P x n k = W x (n + 1) := fun {x n k} h1 h2 => by
    have hk : k = 0 := h1.resolve_right (by rw [h2]; exact Bool.noConfusion)
    subst hk
    rw [p0]
    refine nf ?_
    rw [gf, h2]; rfl
  have hRB : (fun j => [SC.bool ((flowF F).unB l j)]) = fun j => [SC.bool (ub j)] := by rw [hub]
  rw [hRB, ← hN]
  rw [← hN] at hN9 hN0
  have hl16 : l < 16 := by have := hO.ln16; omega
  clear hRB hub hrb huz hse hN hdn hld h10 h20 h30 h40 hG gN gs gf gi hlt hff hHd hmu hx0 hP hW hA1 hA2 hsl w1 nf nt_ hO hl
  obtain ⟨pa, un, lA, ln, lc, lk, lt, bA, bn, bc, sA, sn, sc, s, jA, jn, jc, ja, jk, jo, jf, jx, je, jd⟩ := F
  obtain ⟨hX, hl, hb, hs, hj⟩ := hF
  simp only at hl hb hs hj
  try simp only at h1 h2 h3 h4 a0
  refine go_start (args := [.pt (.agg (GFun.dat ⟨pa, un, lA, ln, lc, lk, lt, bA, bn, bc, sA, sn, sc, s, jA, jn, jc, ja, jk, jo, jf, jx, je, jd⟩)), .pt (.one (.int .i64 (.ofNat l)))]) (c := (funX ⟨pa, un, lA, ln, lc, lk, lt, bA, bn, bc, sA, sn, sc, s, jA, jn, jc, ja, jk, jo, jf, jx, je, jd⟩)) Tryz.func82 rfl hX rfl rfl ?_
  obtain ⟨nd, hnd⟩ : ∃ f : Bool → Bool → Bool, f = and := ⟨_, rfl⟩
  obtain ⟨nt, hnt⟩ : ∃ f : Bool → Bool, f = not := ⟨_, rfl⟩
  obtain ⟨ar, har⟩ : ∃ f : BinOp → IntKind → Int → Int → Int, f = rAr := ⟨_, rfl⟩
  obtain ⟨cm, hcm⟩ : ∃ f : BinOp → Int → Int → Bool, f = rCm := ⟨_, rfl⟩
  obtain ⟨mx, hmx⟩ : ∃ f : Int → Int → Int, f = rMx := ⟨_, rfl⟩
  obtain ⟨mn, hmn⟩ : ∃ f : Int → Int → Int, f = rMn := ⟨_, rfl⟩
  have ar01 : ar .add .i64 0 1 = 1 := by rw [har]; decide
  have ar12 : ar .add .i64 1 1 = 2 := by rw [har]; decide
  obtain ⟨zpl, hzpl⟩ : ∃ f : Nat → Nat → Nat, f = fun x y => x + y := ⟨_, rfl⟩
  obtain ⟨zjn, hzjn⟩ : ∃ f : Nat → (Nat → List SC) → (Nat → List SC) → Nat → List SC, f = rJn := ⟨_, rfl⟩
  obtain ⟨zup, hzup⟩ : ∃ f : (Nat → List SC) → Nat → Nat → List SC → Nat → List SC, f = rUp := ⟨_, rfl⟩
  obtain ⟨zmi, hzmi⟩ : ∃ f : Nat → Nat → Nat, f = fun x y => x - y := ⟨_, rfl⟩
  obtain ⟨zdp, hzdp⟩ : ∃ f : Nat → (Nat → List SC) → Nat → List SC, f = rDp := ⟨_, rfl⟩
  have hT := T0_ok hnd hnt har hcm hmx hmn hzpl hzjn hzup hzmi hzdp
  have r0 : ∀ c, leCell c (.bool (A1 x0 0)) → RowLe ⟨N, 1, zup (fun x => [SC.lit false]) 0 0 [c]⟩ ⟨N, 1, fun j => [SC.bool (A1 x0 j)]⟩ := fun c hc => by
    refine rowLe_up hzup rfl (fun j hj h => ⟨?_, trivial⟩) (fun _ => ⟨hc, trivial⟩)
    rw [a0.1 j h]; show false = false; rfl
  have c1 : cm .lss (.ofNat l) 1 = true → leCell (.lit true) (.bool (A1 x0 0)) := fun h => by
    show true = A1 x0 0
    rw [hcm] at h
    have h : (l : Int) < 1 := of_decide_eq_true h
    rw [a0.2.1, decide_eq_true (show l < 1 by omega)]; rfl
  have c2 : cm .lss (.ofNat l) 1 = false → leCell (.bool (cm .gtr (.ofNat l) pa)) (.bool (A1 x0 0)) := fun h => by
    show cm .gtr (.ofNat l) pa = A1 x0 0
    rw [hcm] at h ⊢
    have h : ¬ (l : Int) < 1 := of_decide_eq_false h
    rw [a0.2.1, decide_eq_false (show ¬ l < 1 by omega)]; rfl
  have r1 : ∀ {x}, RowLe ⟨N, 1, fun j => [SC.bool (A1 x j)]⟩ ⟨N, 1, fun j => [SC.bool (A1 (W x 0) j)]⟩ := fun {x} => by rw [w0.1]; exact RowLe.rfl' _
  have r2 : ∀ {x n}, RowLe ⟨N, 1, fun j => [SC.bool (A1 (W x n) j)]⟩ ⟨N, 1, fun j => [SC.bool (A1 (P x n 0) j)]⟩ := fun {x n} => by rw [p0]; exact RowLe.rfl' _
  have r3 : ∀ {x n k}, k < dn n → RowLe ⟨N, 1, zup (fun j => [SC.bool (A1 (P x n k) j)]) (ld n k) 0 [SC.lit true]⟩ ⟨N, 1, fun j => [SC.bool (A1 (P x n (k + 1)) j)]⟩ := fun {x n k} hk => by
    refine rowLe_up hzup rfl (fun j hj h => ⟨?_, trivial⟩) (fun _ => ⟨?_, trivial⟩)
    · rw [(ps hk).1, if_neg h]; exact rfl
    · rw [(ps hk).1, if_pos rfl]; show true = true; rfl
  have b3 : ∀ {x n k}, k < dn n → A2 (P x n k) = true → true = A2 (P x n (k + 1)) := fun {x n k} hk h => by rw [(ps hk).2, h]; rfl
  have b4 : ∀ {x n k}, k < dn n → A2 (P x n k) = false → nt (A1 (P x n k) (ld n k)) = A2 (P x n (k + 1)) := fun {x n k} hk h => by rw [(ps hk).2, h, hnt]; rfl
  have r4 : ∀ {x n k}, (uz n = true ∨ (A1 (W x n) n = true ∧ se n = false)) → k ≤ dn n → dn n ≤ k → (k = 0 ∨ rb n = true) → RowLe ⟨N, 1, fun j => [SC.bool (A1 (P x n k) j)]⟩ ⟨N, 1, fun j => [SC.bool (A1 (W x (n + 1)) j)]⟩ := fun {x n k} a b c d => by rw [z1 a b c d]; exact RowLe.rfl' _
  have b5 : ∀ {x n k}, (uz n = true ∨ (A1 (W x n) n = true ∧ se n = false)) → k ≤ dn n → dn n ≤ k → (k = 0 ∨ rb n = true) → A2 (P x n k) = A2 (W x (n + 1)) := fun {x n k} a b c d => by rw [z1 a b c d]
  have r6 : ∀ {x n k}, (k = 0 ∨ rb n = true) → rb n = false → RowLe ⟨N, 1, fun j => [SC.bool (A1 (P x n k) j)]⟩ ⟨N, 1, fun j => [SC.bool (A1 (W x (n + 1)) j)]⟩ := fun {x n k} a b => by rw [z2 a b]; exact RowLe.rfl' _
  have b7 : ∀ {x n k}, (k = 0 ∨ rb n = true) → rb n = false → A2 (P x n k) = A2 (W x (n + 1)) := fun {x n k} a b => by rw [z2 a b]
  have r10 : ∀ {x n}, uz n = false → (A1 (W x n) n = false ∨ se n = true) → RowLe ⟨N, 1, fun j => [SC.bool (A1 (W x n) j)]⟩ ⟨N, 1, fun j => [SC.bool (A1 (W x (n + 1)) j)]⟩ := fun {x n} a b => by rw [← z0 a b]; exact RowLe.rfl' _
  have b10 : ∀ {x n}, uz n = false → (A1 (W x n) n = false ∨ se n = true) → A2 (W x n) = A2 (W x (n + 1)) := fun {x n} a b => by rw [← z0 a b]
  have r8 : ∀ {x n}, n ≤ N → N ≤ n → RowLe ⟨N, 1, fun j => [SC.bool (A1 (W x n) j)]⟩ ⟨N, 1, fun j => [SC.bool (A1 (W x N) j)]⟩ := fun {x n} a b => by rw [Nat.le_antisymm a b]; exact RowLe.rfl' _
  have b8 : ∀ {x n}, n ≤ N → N ≤ n → A2 (W x n) = A2 (W x N) := fun {x n} a b => by rw [Nat.le_antisymm a b]
  have r9 : ∀ {x}, Hd x → A2 x = false → RowLe ⟨N, 1, fun j => [SC.bool (A1 x j)]⟩ ⟨N, 1, fun j => [SC.bool (ub j)]⟩ := fun {x} a b => rowLe_of rfl fun j hj => ⟨by rw [qe a b j hj]; exact rfl, trivial⟩
  have bt : true = A2 x0 := a0.2.2.symm
  have bf : ∀ {x}, false = A2 (W x 0) := fun {x} => w0.2.symm
  have bp : ∀ {x n}, A2 (W x n) = A2 (P x n 0) := fun {x n} => by rw [p0]
  clear a0 w0 p0 ps z0 z1 z2 qe
  repeat' (first
    | ((with_reducible apply go_ev hT 400); (· (cbv; try rfl)); (fail_if_success with_reducible apply stuck_id))
    | (with_reducible refine go_brn hnt (fun h => ?_) (fun h => ?_))
    | (with_reducible refine go_brl hcm (fun hlt => ?_) (fun hge => ?_))
    | (with_reducible refine go_br (fun h => ?_) (fun h => ?_))
    | ((with_reducible refine go_need ?_ ?_ ?_); (· first | omega | (simp only [Int.ofNat_eq_natCast]; omega)); (· first | omega | (simp only [Int.ofNat_eq_natCast]; omega)))
    | ((with_reducible refine go_ob ?_ ?_); (· first | trivial | (refine ⟨trivial, ?_⟩; omega) | (rw [hzpl]; refine ⟨trivial, ?_⟩; show _ + _ ≤ 1073741824; omega) | (rw [hzpl]; show _ + _ ≤ 1073741824; omega) | ((exact ⟨Int.natCast_nonneg N, (show (N : Int) ≤ 1073741824 by omega)⟩))))
    | ((with_reducible apply go_ret_rows hT); (· (cbv; try rfl)); (· (cbv; try rfl)); (· (cbv; (try simp only [true_and, and_true]); (try ((repeat' apply And.intro) <;> (first | trivial | rfl | decide  | ((rw [wrap_nat har _ (by have := dnb n; have h9 : k < dn n := (by assumption); omega)])) | ((exact r0 _ (c1 (by assumption)))) | ((exact r0 _ (c2 (by assumption)))) | ((exact r1)) | ((exact r2)) | ((exact r3 (by assumption))) | ((exact b3 (by assumption) (by assumption))) | ((exact b4 (by assumption) (by assumption))) | ((exact r4 (by first | exact .inl (by assumption) | exact .inr ⟨by assumption, by assumption⟩) hk (by assumption) hk2)) | ((exact b5 (by first | exact .inl (by assumption) | exact .inr ⟨by assumption, by assumption⟩) hk (by assumption) hk2)) | ((exact r6 hk2 (by assumption))) | ((exact b7 hk2 (by assumption))) | ((exact r10 (by assumption) (by first | exact .inl (by assumption) | exact .inr (by assumption)))) | ((exact b10 (by assumption) (by first | exact .inl (by assumption) | exact .inr (by assumption)))) | ((exact r8 hn (by assumption))) | ((exact b8 hn (by assumption))) | ((exact r9 hH (by assumption))) | ((exact bf)) | ((exact bp))))))); (· (cbv; (try simp only [true_and, and_true]); (try ((repeat' apply And.intro) <;> (first | trivial | rfl | exact RowLe.rfl' _  | ((rw [wrap_nat har _ (by have := dnb n; have h9 : k < dn n := (by assumption); omega)])) | ((exact r0 _ (c1 (by assumption)))) | ((exact r0 _ (c2 (by assumption)))) | ((exact r1)) | ((exact r2)) | ((exact r3 (by assumption))) | ((exact b3 (by assumption) (by assumption))) | ((exact b4 (by assumption) (by assumption))) | ((exact r4 (by first | exact .inl (by assumption) | exact .inr ⟨by assumption, by assumption⟩) hk (by assumption) hk2)) | ((exact b5 (by first | exact .inl (by assumption) | exact .inr ⟨by assumption, by assumption⟩) hk (by assumption) hk2)) | ((exact r6 hk2 (by assumption))) | ((exact b7 hk2 (by assumption))) | ((exact r10 (by assumption) (by first | exact .inl (by assumption) | exact .inr (by assumption)))) | ((exact b10 (by assumption) (by first | exact .inl (by assumption) | exact .inr (by assumption)))) | ((exact r8 hn (by assumption))) | ((exact b8 hn (by assumption))) | ((exact r9 hH (by assumption))) | ((exact bf)) | ((exact bp))))))); (· rfl))
    | ((with_reducible apply go_callR (f := 115) (hf := Tryz.call115)); (· intro S; cbv; try rfl); (· intro wc S hbc hxc hrc; exact h1 wc hbc); (· rfl))
    | ((with_reducible apply go_callR (f := 32) (hf := Tryz.call32)); (· intro S; cbv; try rfl); (· intro wc S hbc hxc hrc; exact h2 wc hbc n (by assumption)); (· rfl))
    | ((with_reducible apply go_call (f := 61) (hf := Tryz.call61)); (· (cbv; try rfl)); (· intro wc hbc hxc; exact h3 wc hbc n (by assumption)))
    | ((with_reducible apply go_call (f := 60) (hf := Tryz.call60)); (· (cbv; try rfl)); (· intro wc hbc hxc; exact h4 wc hbc n (by assumption)))
    | ((with_reducible refine go_loopk (σ := {x : SwG.SS // Hd x}) [8, 9, 10, 26, 27, 28, 29, 30, 31, 32, 33, 34, 35, 36, 37, 38, 39, 40, 41, 42, 43, 44, 45, 46, 47, 48, 49, 50, 51, 52, 53, 54, 55, 56, 57, 58, 59, 60, 61, 62, 63, 64, 65, 66, 67, 68, 69, 70, 71, 72, 73, 74, 75, 76, 77, 78, 79, 80, 81, 82] (fun x => [(7, .pt (.one (.bool (A2 x.1))))]) (fun x => []) (fun x => [(1, ⟨N, 1, fun j => [.bool (A1 x.1 j)]⟩)]) (fun x => mu x.1) ⟨x0, q0⟩ ?_ ?_ ?_ ?_); (· (refine le_mk ?_ ?_ ?_ ?_ <;> (cbv; (try simp only [true_and, and_true]); (try ((repeat' apply And.intro) <;> (first | trivial | rfl | exact RowLe.rfl' _ | (rw [wrap_nat har _ (by omega)]) | ((rw [wrap_nat har _ (by have := dnb n; have h9 : k < dn n := (by assumption); omega)])) | ((exact r0 _ (c1 (by assumption)))) | ((exact r0 _ (c2 (by assumption)))) | ((exact r1)) | ((exact r2)) | ((exact r3 (by assumption))) | ((exact b3 (by assumption) (by assumption))) | ((exact b4 (by assumption) (by assumption))) | ((exact r4 (by first | exact .inl (by assumption) | exact .inr ⟨by assumption, by assumption⟩) hk (by assumption) hk2)) | ((exact b5 (by first | exact .inl (by assumption) | exact .inr ⟨by assumption, by assumption⟩) hk (by assumption) hk2)) | ((exact r6 hk2 (by assumption))) | ((exact b7 hk2 (by assumption))) | ((exact r10 (by assumption) (by first | exact .inl (by assumption) | exact .inr (by assumption)))) | ((exact b10 (by assumption) (by first | exact .inl (by assumption) | exact .inr (by assumption)))) | ((exact r8 hn (by assumption))) | ((exact b8 hn (by assumption))) | ((exact r9 hH (by assumption))) | ((exact bf)) | ((exact bp)))))))); (· (cbv; try rfl)); (· simp); (rintro ⟨y, hH⟩ mm hmm))
    | ((with_reducible refine go_loopk (σ := {n : Nat // n ≤ N}) [9, 10, 27, 28, 29, 30, 31, 32, 33, 34, 35, 36, 37, 38, 39, 40, 41, 42, 43, 44, 45, 46, 47, 48, 49, 50, 51, 52, 53, 54, 55, 56, 57, 58, 59, 60, 61, 62, 63, 64, 65, 66, 67, 68, 69, 70, 71, 72, 73, 74, 75, 76, 77, 78, 79, 80, 81, 82] (fun x => [(8, .pt (.one (.int .i64 (.ofNat x.1)))), (7, .pt (.one (.bool (A2 (W y x.1)))))]) (fun x => []) (fun x => [(1, ⟨N, 1, fun j => [.bool (A1 (W y x.1) j)]⟩)]) (fun x => N - x.1) ⟨0, by omega⟩ ?_ ?_ ?_ ?_); (· (refine le_mk ?_ ?_ ?_ ?_ <;> (cbv; (try simp only [true_and, and_true]); (try ((repeat' apply And.intro) <;> (first | trivial | rfl | exact RowLe.rfl' _ | (rw [wrap_nat har _ (by omega)]) | ((rw [wrap_nat har _ (by have := dnb n; have h9 : k < dn n := (by assumption); omega)])) | ((exact r0 _ (c1 (by assumption)))) | ((exact r0 _ (c2 (by assumption)))) | ((exact r1)) | ((exact r2)) | ((exact r3 (by assumption))) | ((exact b3 (by assumption) (by assumption))) | ((exact b4 (by assumption) (by assumption))) | ((exact r4 (by first | exact .inl (by assumption) | exact .inr ⟨by assumption, by assumption⟩) hk (by assumption) hk2)) | ((exact b5 (by first | exact .inl (by assumption) | exact .inr ⟨by assumption, by assumption⟩) hk (by assumption) hk2)) | ((exact r6 hk2 (by assumption))) | ((exact b7 hk2 (by assumption))) | ((exact r10 (by assumption) (by first | exact .inl (by assumption) | exact .inr (by assumption)))) | ((exact b10 (by assumption) (by first | exact .inl (by assumption) | exact .inr (by assumption)))) | ((exact r8 hn (by assumption))) | ((exact b8 hn (by assumption))) | ((exact r9 hH (by assumption))) | ((exact bf)) | ((exact bp)))))))); (· (cbv; try rfl)); (· simp); (rintro ⟨n, hn⟩ mm hmm))
    | ((with_reducible refine go_loopk (σ := {k : Nat // k ≤ dn n ∧ (k = 0 ∨ rb n = true)}) [54, 55, 56, 57, 58, 59, 60, 61, 62, 63, 64, 65, 66, 67, 68, 69, 70, 71, 72, 73, 74, 75, 76, 77, 78, 79, 80, 81, 82] (fun x => [(10, .pt (.one (.int .i64 (.ofNat x.1)))), (7, .pt (.one (.bool (A2 (P y n x.1)))))]) (fun x => []) (fun x => [(1, ⟨N, 1, fun j => [.bool (A1 (P y n x.1) j)]⟩)]) (fun x => dn n - x.1) ⟨0, by omega, .inl rfl⟩ ?_ ?_ ?_ ?_); (· (refine le_mk ?_ ?_ ?_ ?_ <;> (cbv; (try simp only [true_and, and_true]); (try ((repeat' apply And.intro) <;> (first | trivial | rfl | exact RowLe.rfl' _ | (rw [wrap_nat har _ (by omega)]) | ((rw [wrap_nat har _ (by have := dnb n; have h9 : k < dn n := (by assumption); omega)])) | ((exact r0 _ (c1 (by assumption)))) | ((exact r0 _ (c2 (by assumption)))) | ((exact r1)) | ((exact r2)) | ((exact r3 (by assumption))) | ((exact b3 (by assumption) (by assumption))) | ((exact b4 (by assumption) (by assumption))) | ((exact r4 (by first | exact .inl (by assumption) | exact .inr ⟨by assumption, by assumption⟩) hk (by assumption) hk2)) | ((exact b5 (by first | exact .inl (by assumption) | exact .inr ⟨by assumption, by assumption⟩) hk (by assumption) hk2)) | ((exact r6 hk2 (by assumption))) | ((exact b7 hk2 (by assumption))) | ((exact r10 (by assumption) (by first | exact .inl (by assumption) | exact .inr (by assumption)))) | ((exact b10 (by assumption) (by first | exact .inl (by assumption) | exact .inr (by assumption)))) | ((exact r8 hn (by assumption))) | ((exact b8 hn (by assumption))) | ((exact r9 hH (by assumption))) | ((exact bf)) | ((exact bp)))))))); (· (cbv; try rfl)); (· simp); (rintro ⟨k, hk, hk2⟩ mm hmm))
    | (((with_reducible apply go_need); (· exact Int.natCast_nonneg _); (· exact Int.ofNat_lt.2 (hlb (by assumption) (by assumption)))))
    | ((with_reducible refine go_stop (⟨n + 1, by omega⟩ : {n : Nat // n ≤ N}) ?_ ?_ ?_ ?_); (· exact Nat.lt_of_lt_of_eq (show N - (n + 1) < N - n from by omega) (Eq.symm (by assumption))); (· (refine le_mk ?_ ?_ ?_ ?_ <;> (cbv; (try simp only [true_and, and_true]); (try ((repeat' apply And.intro) <;> (first | trivial | rfl | exact RowLe.rfl' _ | (rw [wrap_nat har _ (by omega)]) | ((rw [wrap_nat har _ (by have := dnb n; have h9 : k < dn n := (by assumption); omega)])) | ((exact r0 _ (c1 (by assumption)))) | ((exact r0 _ (c2 (by assumption)))) | ((exact r1)) | ((exact r2)) | ((exact r3 (by assumption))) | ((exact b3 (by assumption) (by assumption))) | ((exact b4 (by assumption) (by assumption))) | ((exact r4 (by first | exact .inl (by assumption) | exact .inr ⟨by assumption, by assumption⟩) hk (by assumption) hk2)) | ((exact b5 (by first | exact .inl (by assumption) | exact .inr ⟨by assumption, by assumption⟩) hk (by assumption) hk2)) | ((exact r6 hk2 (by assumption))) | ((exact b7 hk2 (by assumption))) | ((exact r10 (by assumption) (by first | exact .inl (by assumption) | exact .inr (by assumption)))) | ((exact b10 (by assumption) (by first | exact .inl (by assumption) | exact .inr (by assumption)))) | ((exact r8 hn (by assumption))) | ((exact b8 hn (by assumption))) | ((exact r9 hH (by assumption))) | ((exact bf)) | ((exact bp)))))))); (· (cbv; try rfl)); (· simp))
    | ((with_reducible refine go_stop (⟨k + 1, Nat.succ_le_of_lt (by assumption), .inr (by assumption)⟩ : {k : Nat // k ≤ dn n ∧ (k = 0 ∨ rb n = true)}) ?_ ?_ ?_ ?_); (· subst hmm; (have hlt2 : k < dn n := (by assumption); show dn n - (k + 1) < dn n - k; omega)); (· (refine le_mk ?_ ?_ ?_ ?_ <;> (cbv; (try simp only [true_and, and_true]); (try ((repeat' apply And.intro) <;> (first | trivial | rfl | exact RowLe.rfl' _ | (rw [wrap_nat har _ (by omega)]) | ((rw [wrap_nat har _ (by have := dnb n; have h9 : k < dn n := (by assumption); omega)])) | ((exact r0 _ (c1 (by assumption)))) | ((exact r0 _ (c2 (by assumption)))) | ((exact r1)) | ((exact r2)) | ((exact r3 (by assumption))) | ((exact b3 (by assumption) (by assumption))) | ((exact b4 (by assumption) (by assumption))) | ((exact r4 (by first | exact .inl (by assumption) | exact .inr ⟨by assumption, by assumption⟩) hk (by assumption) hk2)) | ((exact b5 (by first | exact .inl (by assumption) | exact .inr ⟨by assumption, by assumption⟩) hk (by assumption) hk2)) | ((exact r6 hk2 (by assumption))) | ((exact b7 hk2 (by assumption))) | ((exact r10 (by assumption) (by first | exact .inl (by assumption) | exact .inr (by assumption)))) | ((exact b10 (by assumption) (by first | exact .inl (by assumption) | exact .inr (by assumption)))) | ((exact r8 hn (by assumption))) | ((exact b8 hn (by assumption))) | ((exact r9 hH (by assumption))) | ((exact bf)) | ((exact bp)))))))); (· (cbv; try rfl)); (· simp))
    | ((with_reducible refine go_stop (⟨W y N, (qs hH (by assumption)).1⟩ : {x : SwG.SS // Hd x}) ?_ ?_ ?_ ?_); (· subst hmm; (exact Nat.lt_of_lt_of_eq (qs hH (by assumption)).2 (Eq.symm (by assumption)))); (· (refine le_mk ?_ ?_ ?_ ?_ <;> (cbv; (try simp only [true_and, and_true]); (try ((repeat' apply And.intro) <;> (first | trivial | rfl | exact RowLe.rfl' _ | (rw [wrap_nat har _ (by omega)]) | ((rw [wrap_nat har _ (by have := dnb n; have h9 : k < dn n := (by assumption); omega)])) | ((exact r0 _ (c1 (by assumption)))) | ((exact r0 _ (c2 (by assumption)))) | ((exact r1)) | ((exact r2)) | ((exact r3 (by assumption))) | ((exact b3 (by assumption) (by assumption))) | ((exact b4 (by assumption) (by assumption))) | ((exact r4 (by first | exact .inl (by assumption) | exact .inr ⟨by assumption, by assumption⟩) hk (by assumption) hk2)) | ((exact b5 (by first | exact .inl (by assumption) | exact .inr ⟨by assumption, by assumption⟩) hk (by assumption) hk2)) | ((exact r6 hk2 (by assumption))) | ((exact b7 hk2 (by assumption))) | ((exact r10 (by assumption) (by first | exact .inl (by assumption) | exact .inr (by assumption)))) | ((exact b10 (by assumption) (by first | exact .inl (by assumption) | exact .inr (by assumption)))) | ((exact r8 hn (by assumption))) | ((exact b8 hn (by assumption))) | ((exact r9 hH (by assumption))) | ((exact bf)) | ((exact bp)))))))); (· (cbv; try rfl)); (· simp))
    )
  all_goals trace_state

set_option maxRecDepth 100000 in
set_option maxHeartbeats 8000000 in
theorem rMasksC (F : GFun) (w : World) (hF : F.At w) (hO : F.Ok) :
    Calls Tryz.prog 48 #[F.val] w (RetR w (funX F) (.pt (.one (.rs 0))) [⟨stN F.sn F.bn, 1, fun j => [.int .u32 (.ofNat (mk (setM F j) F.ln))]⟩]) := by
  have h1 (wc : World) (hk : KB ⟨w, []⟩ wc) := sizeC F wc (hF.later hk) hO.small
  have h20 (wc : World) (hk : KB ⟨w, []⟩ wc) (l : Nat) (hl : l < F.ln) := rUnsetC F wc (hF.later hk) hO l hl
  have hN9 := hO.pts
  have hl16 := hO.ln16
  obtain ⟨N, hN⟩ : ∃ N, N = stN F.sn F.bn := ⟨_, rfl⟩
  obtain ⟨ub, hub⟩ : ∃ f : Nat → Nat → Bool, f = fun l j => (flowF F).unB l j := ⟨_, rfl⟩
  obtain ⟨mq, hmq⟩ : ∃ f : Nat → Nat → Nat, f = fun l j => mk (setM F j) l := ⟨_, rfl⟩
  have h2 (wc : World) (hk : KB ⟨w, []⟩ wc) (l : Nat) (hl : l < F.ln) : Calls Tryz.prog 82 #[F.val, .int .i64 (.ofNat l)] wc (RetR wc (funX F) (.pt (.one (.rs 0))) [⟨N, 1, fun j => [.bool (ub l j)]⟩]) := by
    rw [hN, hub]; exact h20 wc hk l hl
  have m0 : ∀ j, (0 : Int) = .ofNat (mq 0 j) := fun j => by rw [hmq]; rfl
  have m1 : ∀ l j, ub l j = false → mq l j + 2 ^ l = mq (l + 1) j := fun l j h => by
    rw [hub] at h; rw [hmq]
    have h : (flowF F).unB l j = false := h
    simp only [mk]
    rw [if_pos (by unfold setM; rw [h]; rfl)]
  have m2 : ∀ l j, ub l j = true → mq l j = mq (l + 1) j := fun l j h => by
    rw [hub] at h; rw [hmq]
    have h : (flowF F).unB l j = true := h
    simp only [mk]
    rw [if_neg (by unfold setM; rw [h]; exact Bool.noConfusion)]; rfl
  have mlt : ∀ l j, mq l j < 2 ^ l := fun l j => by rw [hmq]; exact mk_lt _ l
  have hRB : (⟨stN F.sn F.bn, 1, fun j => [SC.int .u32 (.ofNat (mk (setM F j) F.ln))]⟩ : ORow) = ⟨N, 1, fun j => [SC.int .u32 (.ofNat (mq F.ln j))]⟩ := by rw [hmq, hN]
  rw [hRB]
  rw [← hN] at h1 hN9
  obtain ⟨fl, hfl⟩ : ∃ f : Nat → Nat → Nat → Nat, f = fun l k j => if j < k then mq (l + 1) j else mq l j := ⟨_, rfl⟩
  clear hRB hub hmq hN h20 hO
  obtain ⟨pa, un, lA, ln, lc, lk, lt, bA, bn, bc, sA, sn, sc, s, jA, jn, jc, ja, jk, jo, jf, jx, je, jd⟩ := F
  obtain ⟨hX, hl, hb, hs, hj⟩ := hF
  simp only at hl hb hs hj
  try simp only at h1 h2 hl16
  refine go_start (args := [.pt (.agg (GFun.dat ⟨pa, un, lA, ln, lc, lk, lt, bA, bn, bc, sA, sn, sc, s, jA, jn, jc, ja, jk, jo, jf, jx, je, jd⟩))]) (c := (funX ⟨pa, un, lA, ln, lc, lk, lt, bA, bn, bc, sA, sn, sc, s, jA, jn, jc, ja, jk, jo, jf, jx, je, jd⟩)) Tryz.func48 rfl hX rfl rfl ?_
  obtain ⟨nd, hnd⟩ : ∃ f : Bool → Bool → Bool, f = and := ⟨_, rfl⟩
  obtain ⟨nt, hnt⟩ : ∃ f : Bool → Bool, f = not := ⟨_, rfl⟩
  obtain ⟨ar, har⟩ : ∃ f : BinOp → IntKind → Int → Int → Int, f = rAr := ⟨_, rfl⟩
  obtain ⟨cm, hcm⟩ : ∃ f : BinOp → Int → Int → Bool, f = rCm := ⟨_, rfl⟩
  obtain ⟨mx, hmx⟩ : ∃ f : Int → Int → Int, f = rMx := ⟨_, rfl⟩
  obtain ⟨mn, hmn⟩ : ∃ f : Int → Int → Int, f = rMn := ⟨_, rfl⟩
  have ar01 : ar .add .i64 0 1 = 1 := by rw [har]; decide
  have ar12 : ar .add .i64 1 1 = 2 := by rw [har]; decide
  obtain ⟨zpl, hzpl⟩ : ∃ f : Nat → Nat → Nat, f = fun x y => x + y := ⟨_, rfl⟩
  obtain ⟨zjn, hzjn⟩ : ∃ f : Nat → (Nat → List SC) → (Nat → List SC) → Nat → List SC, f = rJn := ⟨_, rfl⟩
  obtain ⟨zup, hzup⟩ : ∃ f : (Nat → List SC) → Nat → Nat → List SC → Nat → List SC, f = rUp := ⟨_, rfl⟩
  obtain ⟨zmi, hzmi⟩ : ∃ f : Nat → Nat → Nat, f = fun x y => x - y := ⟨_, rfl⟩
  obtain ⟨zdp, hzdp⟩ : ∃ f : Nat → (Nat → List SC) → Nat → List SC, f = rDp := ⟨_, rfl⟩
  have hT := T0_ok hnd hnt har hcm hmx hmn hzpl hzjn hzup hzmi hzdp
  have r0 : RowLe ⟨N, 1, fun x => [SC.int .u32 0]⟩ ⟨N, 1, fun j => [SC.int .u32 (.ofNat (mq 0 j))]⟩ := rowLe_of rfl fun j _ => ⟨⟨rfl, m0 j⟩, trivial⟩
  have r1 : ∀ l, RowLe ⟨N, 1, fun j => [SC.int .u32 (.ofNat (mq l j))]⟩ ⟨N, 1, fun j => [SC.int .u32 (.ofNat (fl l 0 j))]⟩ := fun l => rowLe_of rfl fun j _ => ⟨⟨rfl, by rw [hfl]; simp⟩, trivial⟩
  have r2 : ∀ {l k}, N ≤ k → RowLe ⟨N, 1, fun j => [SC.int .u32 (.ofNat (fl l k j))]⟩ ⟨N, 1, fun j => [SC.int .u32 (.ofNat (mq (l + 1) j))]⟩ := fun {l k} h => rowLe_of rfl fun j hj => ⟨⟨rfl, by rw [hfl]; simp only; rw [if_pos (by omega)]⟩, trivial⟩
  have hk : ∀ {l k : Nat}, fl l k k = mq l k := fun {l k} => by rw [hfl]; simp
  have r3 : ∀ {l k}, l < ln → ub l k = false → RowLe ⟨N, 1, zup (fun j => [SC.int .u32 (.ofNat (fl l k j))]) k 0 [SC.int .u32 (ar .add .u32 (.ofNat (fl l k k)) (ar .shl .u32 1 (ar .quo .u64 (.ofNat l) 0)))]⟩ ⟨N, 1, fun j => [SC.int .u32 (.ofNat (fl l (k + 1) j))]⟩ := fun {l k} hl h => by
    have e : ar .add .u32 (.ofNat (fl l k k)) (ar .shl .u32 1 (ar .quo .u64 (.ofNat l) 0)) = .ofNat (mq (l + 1) k) := by
      rw [quo_u64 har (x := Int.ofNat l) (Int.natCast_nonneg l) (by simp only [Int.ofNat_eq_natCast]; omega), show (Int.ofNat l).toNat = l from rfl, u32_shl har (by omega), hk]
      have h1 := mlt l k
      have h2 := Nat.pow_le_pow_right (n := 2) (by decide) (show l ≤ 15 by omega)
      rw [u32_add har (by omega), m1 l k h]
    rw [e]
    refine rowLe_up hzup rfl (fun j hj h => ⟨⟨rfl, ?_⟩, trivial⟩) (fun _ => ⟨⟨rfl, ?_⟩, trivial⟩)
    · rw [hfl]; simp only
      by_cases g : j < k
      · rw [if_pos g, if_pos (by omega)]
      · rw [if_neg g, if_neg (by omega)]
    · rw [hfl]; simp only; rw [if_pos (by omega)]
  have r4 : ∀ {l k}, ub l k = true → RowLe ⟨N, 1, fun j => [SC.int .u32 (.ofNat (fl l k j))]⟩ ⟨N, 1, fun j => [SC.int .u32 (.ofNat (fl l (k + 1) j))]⟩ := fun {l k} h => rowLe_of rfl fun j hj => ⟨⟨rfl, by
    rw [hfl]; simp only
    by_cases g : j < k
    · rw [if_pos g, if_pos (by omega)]
    · rw [if_neg g]
      by_cases g2 : j = k
      · subst g2; rw [if_pos (by omega), m2 l j h]
      · rw [if_neg (by omega)]⟩, trivial⟩
  have r5 : ∀ {l}, l ≤ ln → ln ≤ l → RowLe ⟨N, 1, fun j => [SC.int .u32 (.ofNat (mq l j))]⟩ ⟨N, 1, fun j => [SC.int .u32 (.ofNat (mq ln j))]⟩ := fun {l} a b => by rw [Nat.le_antisymm a b]; exact RowLe.rfl' _
  have qn : ∀ {l : Nat}, l < ln → ar .quo .u64 (.ofNat l) 0 = .ofNat l := fun {l} h => quo_u64 har (x := Int.ofNat l) (Int.natCast_nonneg l) (by simp only [Int.ofNat_eq_natCast]; omega)
  clear hfl mlt m0 m1 m2
  repeat' (first
    | ((with_reducible apply go_ev hT 400); (· (cbv; try rfl)); (fail_if_success with_reducible apply stuck_id))
    | (with_reducible refine go_brn hnt (fun h => ?_) (fun h => ?_))
    | (with_reducible refine go_brl hcm (fun hlt => ?_) (fun hge => ?_))
    | ((with_reducible refine go_need ?_ ?_ ?_); (· first | omega | (simp only [Int.ofNat_eq_natCast]; omega)); (· first | omega | (simp only [Int.ofNat_eq_natCast]; omega)))
    | ((with_reducible refine go_ob ?_ ?_); (· first | trivial | (refine ⟨trivial, ?_⟩; omega) | (rw [hzpl]; refine ⟨trivial, ?_⟩; show _ + _ ≤ 1073741824; omega) | (rw [hzpl]; show _ + _ ≤ 1073741824; omega) | ((exact ⟨Int.natCast_nonneg N, (show (N : Int) ≤ 1073741824 by omega)⟩))))
    | ((with_reducible apply go_ret_rows hT); (· (cbv; try rfl)); (· (cbv; try rfl)); (· (cbv; (try simp only [true_and, and_true]); (try ((repeat' apply And.intro) <;> (first | trivial | rfl | decide  | ((exact r1 _)) | ((exact r2 (by assumption))) | ((exact r3 (by assumption) (by assumption))) | ((exact r4 (by assumption))) | ((exact r5 hl0 (by assumption)))))))); (· (cbv; (try simp only [true_and, and_true]); (try ((repeat' apply And.intro) <;> (first | trivial | rfl | exact RowLe.rfl' _  | ((exact r1 _)) | ((exact r2 (by assumption))) | ((exact r3 (by assumption) (by assumption))) | ((exact r4 (by assumption))) | ((exact r5 hl0 (by assumption)))))))); (· rfl))
    | ((with_reducible apply go_call (f := 24) (hf := Tryz.call24)); (· (cbv; try rfl)); (· intro wc hbc hxc; exact h1 wc hbc))
    | ((with_reducible apply go_callR (f := 82) (hf := Tryz.call82)); (· intro S; cbv; try rfl); (· intro wc S hbc hxc hrc; exact h2 wc hbc l (by assumption)); (· rfl))
    | ((with_reducible refine go_loopk (σ := {l : Nat // l ≤ ln}) [5, 6, 10, 11, 12, 13, 14, 15, 16, 17, 18, 19, 20, 21, 22, 23, 24, 25, 26, 27, 28, 29, 30, 31, 32, 33, 34, 35, 36, 37, 38, 39] (fun x => [(4, .pt (.one (.int .i64 (.ofNat x.1))))]) (fun x => []) (fun x => [(0, ⟨N, 1, fun j => [.int .u32 (.ofNat (mq x.1 j))]⟩)]) (fun x => ln - x.1) ⟨0, by omega⟩ ?_ ?_ ?_ ?_); (· (refine le_mk ?_ ?_ ?_ ?_ <;> (cbv; (try simp only [true_and, and_true]); (try ((repeat' apply And.intro) <;> (first | trivial | rfl | exact RowLe.rfl' _ | (rw [wrap_nat har _ (by omega)]) | ((exact r1 _)) | ((exact r2 (by assumption))) | ((exact r3 (by assumption) (by assumption))) | ((exact r4 (by assumption))) | ((exact r5 hl0 (by assumption))))))))); (· (cbv; try rfl)); (· simp); (rintro ⟨l, hl0⟩ mm hmm))
    | ((with_reducible refine go_loopk (σ := {k : Nat // k ≤ N}) [20, 21, 22, 23, 24, 25, 26, 27, 28, 29, 30, 31, 32, 33, 34, 35, 36, 37, 38, 39] (fun x => [(6, .pt (.one (.int .i64 (.ofNat x.1))))]) (fun x => []) (fun x => [(0, ⟨N, 1, fun j => [.int .u32 (.ofNat (fl l x.1 j))]⟩)]) (fun x => N - x.1) ⟨0, by omega⟩ ?_ ?_ ?_ ?_); (· (refine le_mk ?_ ?_ ?_ ?_ <;> (cbv; (try simp only [true_and, and_true]); (try ((repeat' apply And.intro) <;> (first | trivial | rfl | exact RowLe.rfl' _ | (rw [wrap_nat har _ (by omega)]) | ((exact r1 _)) | ((exact r2 (by assumption))) | ((exact r3 (by assumption) (by assumption))) | ((exact r4 (by assumption))) | ((exact r5 hl0 (by assumption))))))))); (· (cbv; try rfl)); (· simp); (rintro ⟨k, hk⟩ mm hmm))
    | (((with_reducible apply go_need); (· rw [qn (by assumption)]; exact Int.natCast_nonneg _); (· rw [qn (by assumption)]; exact (show ((l : Nat) : Int) < ((l + 1 : Nat) : Int) by omega))))
    | ((with_reducible refine go_stop (⟨l + 1, by omega⟩ : {l : Nat // l ≤ ln}) ?_ ?_ ?_ ?_); (· exact Nat.lt_of_lt_of_eq (show ln - (l + 1) < ln - l from by omega) (Eq.symm (by assumption))); (· (refine le_mk ?_ ?_ ?_ ?_ <;> (cbv; (try simp only [true_and, and_true]); (try ((repeat' apply And.intro) <;> (first | trivial | rfl | exact RowLe.rfl' _ | (rw [wrap_nat har _ (by omega)]) | ((exact r1 _)) | ((exact r2 (by assumption))) | ((exact r3 (by assumption) (by assumption))) | ((exact r4 (by assumption))) | ((exact r5 hl0 (by assumption))))))))); (· (cbv; try rfl)); (· simp))
    | ((with_reducible refine go_stop (⟨k + 1, by omega⟩ : {k : Nat // k ≤ N}) ?_ ?_ ?_ ?_); (· exact Nat.lt_of_lt_of_eq (show N - (k + 1) < N - k from by omega) (Eq.symm (by assumption))); (· (refine le_mk ?_ ?_ ?_ ?_ <;> (cbv; (try simp only [true_and, and_true]); (try ((repeat' apply And.intro) <;> (first | trivial | rfl | exact RowLe.rfl' _ | (rw [wrap_nat har _ (by omega)]) | ((exact r1 _)) | ((exact r2 (by assumption))) | ((exact r3 (by assumption) (by assumption))) | ((exact r4 (by assumption))) | ((exact r5 hl0 (by assumption))))))))); (· (cbv; try rfl)); (· simp))
    )
  all_goals trace_state

set_option maxRecDepth 100000 in
set_option maxHeartbeats 4000000 in
theorem rSetC (F : GFun) (w : World) (hF : F.At w) (hK : F.Ty8) (hO : F.Ok) :
    Calls Tryz.prog 16 #[F.val] w (RetR w (funX F) (.tup [.one (.rs 0), .one (.int .i64 0)]) [⟨stN F.sn F.bn, 1, fun j => [.int .u32 (.ofNat (mk (setM F j) F.ln))]⟩]) := by
  have h1 (wc : World) (hk : KB ⟨w, []⟩ wc) := rFnChk F wc (hF.later hk) hK
  rw [show rchkV F = 0 from (rchk_eq F).trans hO] at h1
  have h2 (wc : World) (hk : KB ⟨w, []⟩ wc) := rMasksC F wc (hF.later hk) hO
  obtain ⟨g, hg⟩ : ∃ f : Nat → Nat, f = fun j => mk (setM F j) F.ln := ⟨_, rfl⟩
  have hR : (⟨stN F.sn F.bn, 1, fun j => [SC.int .u32 (.ofNat (mk (setM F j) F.ln))]⟩ : ORow) = ⟨stN F.sn F.bn, 1, fun j => [SC.int .u32 (.ofNat (g j))]⟩ := by rw [hg]
  rw [hR] at h2 ⊢
  generalize stN F.sn F.bn = N at h2 ⊢
  clear hR hg hO hK
  obtain ⟨pa, un, lA, ln, lc, lk, lt, bA, bn, bc, sA, sn, sc, s, jA, jn, jc, ja, jk, jo, jf, jx, je, jd⟩ := F
  obtain ⟨hX, hl, hb, hs, hj⟩ := hF
  simp only at hl hb hs hj
  refine go_start (args := [.pt (.agg (GFun.dat ⟨pa, un, lA, ln, lc, lk, lt, bA, bn, bc, sA, sn, sc, s, jA, jn, jc, ja, jk, jo, jf, jx, je, jd⟩))]) (c := (funX ⟨pa, un, lA, ln, lc, lk, lt, bA, bn, bc, sA, sn, sc, s, jA, jn, jc, ja, jk, jo, jf, jx, je, jd⟩)) Tryz.func16 rfl hX rfl rfl ?_
  obtain ⟨nd, hnd⟩ : ∃ f : Bool → Bool → Bool, f = and := ⟨_, rfl⟩
  obtain ⟨nt, hnt⟩ : ∃ f : Bool → Bool, f = not := ⟨_, rfl⟩
  obtain ⟨ar, har⟩ : ∃ f : BinOp → IntKind → Int → Int → Int, f = rAr := ⟨_, rfl⟩
  obtain ⟨cm, hcm⟩ : ∃ f : BinOp → Int → Int → Bool, f = rCm := ⟨_, rfl⟩
  obtain ⟨mx, hmx⟩ : ∃ f : Int → Int → Int, f = rMx := ⟨_, rfl⟩
  obtain ⟨mn, hmn⟩ : ∃ f : Int → Int → Int, f = rMn := ⟨_, rfl⟩
  have ar01 : ar .add .i64 0 1 = 1 := by rw [har]; decide
  have ar12 : ar .add .i64 1 1 = 2 := by rw [har]; decide
  obtain ⟨zpl, hzpl⟩ : ∃ f : Nat → Nat → Nat, f = fun x y => x + y := ⟨_, rfl⟩
  obtain ⟨zjn, hzjn⟩ : ∃ f : Nat → (Nat → List SC) → (Nat → List SC) → Nat → List SC, f = rJn := ⟨_, rfl⟩
  obtain ⟨zup, hzup⟩ : ∃ f : (Nat → List SC) → Nat → Nat → List SC → Nat → List SC, f = rUp := ⟨_, rfl⟩
  obtain ⟨zmi, hzmi⟩ : ∃ f : Nat → Nat → Nat, f = fun x y => x - y := ⟨_, rfl⟩
  obtain ⟨zdp, hzdp⟩ : ∃ f : Nat → (Nat → List SC) → Nat → List SC, f = rDp := ⟨_, rfl⟩
  have hT := T0_ok hnd hnt har hcm hmx hmn hzpl hzjn hzup hzmi hzdp
  repeat' (first
    | ((with_reducible apply go_ev hT 400); (· (cbv; try rfl)); (fail_if_success with_reducible apply stuck_id))
    | ((with_reducible refine go_brnf hnt ?_ ?_); (· first | rfl | assumption))
    | ((with_reducible apply go_ret_rows hT); (· (cbv; try rfl)); (· (cbv; try rfl)); (· (cbv; (try simp only [true_and, and_true]); (try ((repeat' apply And.intro) <;> (first | trivial | rfl | decide ))))); (· (cbv; (try simp only [true_and, and_true]); (try ((repeat' apply And.intro) <;> (first | trivial | rfl | exact RowLe.rfl' _ ))))); (· rfl))
    | ((with_reducible apply go_call (f := 23) (hf := Tryz.call23)); (· (cbv; try rfl)); (· intro wc hbc hxc; exact h1 wc hbc))
    | ((with_reducible apply go_callR (f := 48) (hf := Tryz.call48)); (· intro S; cbv; try rfl); (· intro wc S hbc hxc hrc; exact h2 wc hbc); (· rfl))
    )

set_option maxRecDepth 100000 in
set_option maxHeartbeats 4000000 in
theorem rSetBad (F : GFun) (w : World) (hF : F.At w) (hK : F.Ty8) (hz : rchkV F ≠ 0) :
    Calls Tryz.prog 16 #[F.val] w (Ret w (.tuple #[.slice none 0 0, .int .i64 (rchkV F)])) := by
  have h1 (wc : World) (hk : KB ⟨w, []⟩ wc) := rFnChk F wc (hF.later hk) hK
  generalize rchkV F = z at h1 hz ⊢
  have hq : decide (z = 0) = false := decide_eq_false hz
  clear hK hz
  obtain ⟨pa, un, lA, ln, lc, lk, lt, bA, bn, bc, sA, sn, sc, s, jA, jn, jc, ja, jk, jo, jf, jx, je, jd⟩ := F
  obtain ⟨hX, hl, hb, hs, hj⟩ := hF
  simp only at hl hb hs hj
  refine go_start (args := [.pt (.agg (GFun.dat ⟨pa, un, lA, ln, lc, lk, lt, bA, bn, bc, sA, sn, sc, s, jA, jn, jc, ja, jk, jo, jf, jx, je, jd⟩))]) (c := (funX ⟨pa, un, lA, ln, lc, lk, lt, bA, bn, bc, sA, sn, sc, s, jA, jn, jc, ja, jk, jo, jf, jx, je, jd⟩)) Tryz.func16 rfl hX rfl rfl ?_
  obtain ⟨nd, hnd⟩ : ∃ f : Bool → Bool → Bool, f = and := ⟨_, rfl⟩
  obtain ⟨nt, hnt⟩ : ∃ f : Bool → Bool, f = not := ⟨_, rfl⟩
  obtain ⟨ar, har⟩ : ∃ f : BinOp → IntKind → Int → Int → Int, f = rAr := ⟨_, rfl⟩
  obtain ⟨cm, hcm⟩ : ∃ f : BinOp → Int → Int → Bool, f = rCm := ⟨_, rfl⟩
  obtain ⟨mx, hmx⟩ : ∃ f : Int → Int → Int, f = rMx := ⟨_, rfl⟩
  obtain ⟨mn, hmn⟩ : ∃ f : Int → Int → Int, f = rMn := ⟨_, rfl⟩
  have ar01 : ar .add .i64 0 1 = 1 := by rw [har]; decide
  have ar12 : ar .add .i64 1 1 = 2 := by rw [har]; decide
  obtain ⟨zpl, hzpl⟩ : ∃ f : Nat → Nat → Nat, f = fun x y => x + y := ⟨_, rfl⟩
  obtain ⟨zjn, hzjn⟩ : ∃ f : Nat → (Nat → List SC) → (Nat → List SC) → Nat → List SC, f = rJn := ⟨_, rfl⟩
  obtain ⟨zup, hzup⟩ : ∃ f : (Nat → List SC) → Nat → Nat → List SC → Nat → List SC, f = rUp := ⟨_, rfl⟩
  obtain ⟨zmi, hzmi⟩ : ∃ f : Nat → Nat → Nat, f = fun x y => x - y := ⟨_, rfl⟩
  obtain ⟨zdp, hzdp⟩ : ∃ f : Nat → (Nat → List SC) → Nat → List SC, f = rDp := ⟨_, rfl⟩
  have hT := T0_ok hnd hnt har hcm hmx hmn hzpl hzjn hzup hzmi hzdp
  repeat' (first
    | ((with_reducible apply go_ev hT 400); (· (cbv; try rfl)); (fail_if_success with_reducible apply stuck_id))
    | ((with_reducible refine go_brnt hnt ?_ ?_); (· first | rfl | assumption))
    | ((with_reducible apply go_ret_val hT); (· (cbv; try rfl)); (· (cbv; try rfl)))
    | ((with_reducible apply go_call (f := 23) (hf := Tryz.call23)); (· (cbv; try rfl)); (· intro wc hbc hxc; exact h1 wc hbc))
    )
  all_goals rfl

set_option maxRecDepth 100000 in
set_option maxHeartbeats 4000000 in
theorem rFirstBad (F : GFun) (w : World) (hF : F.At w) (hK : F.Ty8) (hz : rchkV F ≠ 0) :
    Calls Tryz.prog 18 #[F.val] w (Ret w (.tuple #[.int .i64 0, .int .i64 0, .int .i64 (rchkV F)])) := by
  have h1 (wc : World) (hk : KB ⟨w, []⟩ wc) := rSetBad F wc (hF.later hk) hK hz
  generalize rchkV F = z at h1 hz ⊢
  have hq : decide (z = 0) = false := decide_eq_false hz
  clear hK hz
  obtain ⟨pa, un, lA, ln, lc, lk, lt, bA, bn, bc, sA, sn, sc, s, jA, jn, jc, ja, jk, jo, jf, jx, je, jd⟩ := F
  obtain ⟨hX, hl, hb, hs, hj⟩ := hF
  simp only at hl hb hs hj
  refine go_start (args := [.pt (.agg (GFun.dat ⟨pa, un, lA, ln, lc, lk, lt, bA, bn, bc, sA, sn, sc, s, jA, jn, jc, ja, jk, jo, jf, jx, je, jd⟩))]) (c := (funX ⟨pa, un, lA, ln, lc, lk, lt, bA, bn, bc, sA, sn, sc, s, jA, jn, jc, ja, jk, jo, jf, jx, je, jd⟩)) Tryz.func18 rfl hX rfl rfl ?_
  obtain ⟨nd, hnd⟩ : ∃ f : Bool → Bool → Bool, f = and := ⟨_, rfl⟩
  obtain ⟨nt, hnt⟩ : ∃ f : Bool → Bool, f = not := ⟨_, rfl⟩
  obtain ⟨ar, har⟩ : ∃ f : BinOp → IntKind → Int → Int → Int, f = rAr := ⟨_, rfl⟩
  obtain ⟨cm, hcm⟩ : ∃ f : BinOp → Int → Int → Bool, f = rCm := ⟨_, rfl⟩
  obtain ⟨mx, hmx⟩ : ∃ f : Int → Int → Int, f = rMx := ⟨_, rfl⟩
  obtain ⟨mn, hmn⟩ : ∃ f : Int → Int → Int, f = rMn := ⟨_, rfl⟩
  have ar01 : ar .add .i64 0 1 = 1 := by rw [har]; decide
  have ar12 : ar .add .i64 1 1 = 2 := by rw [har]; decide
  obtain ⟨zpl, hzpl⟩ : ∃ f : Nat → Nat → Nat, f = fun x y => x + y := ⟨_, rfl⟩
  obtain ⟨zjn, hzjn⟩ : ∃ f : Nat → (Nat → List SC) → (Nat → List SC) → Nat → List SC, f = rJn := ⟨_, rfl⟩
  obtain ⟨zup, hzup⟩ : ∃ f : (Nat → List SC) → Nat → Nat → List SC → Nat → List SC, f = rUp := ⟨_, rfl⟩
  obtain ⟨zmi, hzmi⟩ : ∃ f : Nat → Nat → Nat, f = fun x y => x - y := ⟨_, rfl⟩
  obtain ⟨zdp, hzdp⟩ : ∃ f : Nat → (Nat → List SC) → Nat → List SC, f = rDp := ⟨_, rfl⟩
  have hT := T0_ok hnd hnt har hcm hmx hmn hzpl hzjn hzup hzmi hzdp
  repeat' (first
    | ((with_reducible apply go_ev hT 400); (· (cbv; try rfl)); (fail_if_success with_reducible apply stuck_id))
    | ((with_reducible refine go_brnt hnt ?_ ?_); (· first | rfl | assumption))
    | ((with_reducible apply go_ret_val hT); (· (cbv; try rfl)); (· (cbv; try rfl)))
    | ((with_reducible apply go_call (f := 16) (hf := Tryz.call16)); (· (cbv; try rfl)); (· intro wc hbc hxc; exact h1 wc hbc))
    )
  all_goals rfl

set_option maxRecDepth 100000 in
set_option maxHeartbeats 8000000 in
theorem rFirstC (F : GFun) (w : World) (hF : F.At w) (hK : F.Ty8) (hO : F.Ok) :
    Calls Tryz.prog 18 #[F.val] w (Ret w (.tuple #[.int .i64 (.ofNat (firstI F).1), .int .i64 (firstI F).2.1, .int .i64 (firstI F).2.2])) := by
  have h1 (wc : World) (hk : KB ⟨w, []⟩ wc) := rSetC F wc (hF.later hk) hK hO
  have h30 (wc : World) (hk : KB ⟨w, []⟩ wc) (a : Nat) (ha : a < stN F.sn F.bn) := rBadC F wc (hF.later hk) hO a ha (setM F a)
  have hN9 := hO.pts
  obtain ⟨N, hN⟩ : ∃ N, N = stN F.sn F.bn := ⟨_, rfl⟩
  obtain ⟨rm, hrm⟩ : ∃ f : Nat → Nat, f = fun j => mk (setM F j) F.ln := ⟨_, rfl⟩
  have hRM : (⟨stN F.sn F.bn, 1, fun j => [SC.int .u32 (.ofNat (mk (setM F j) F.ln))]⟩ : ORow) = ⟨N, 1, fun j => [SC.int .u32 (.ofNat (rm j))]⟩ := by rw [hrm, hN]
  rw [hRM] at h1
  obtain ⟨ba, hba⟩ : ∃ f : Nat → Int, f = badAt F := ⟨_, rfl⟩
  have h3 (wc : World) (hk : KB ⟨w, []⟩ wc) (a : Nat) (ha : a < N) : Calls Tryz.prog 25 #[F.val, .int .i64 (.ofNat a), .int .u32 (.ofNat (rm a))] wc (Ret wc (.int .i64 (ba a))) := by
    rw [hrm, hba]; exact h30 wc hk a (hN ▸ ha)
  have hz1 : ∀ k, k < N → 0 ≤ ba k → (∀ j, j < k → ba j < 0) → firstI F = (k, ba k, 0) := fun k hk g1 g2 => by rw [hba] at g1 g2 ⊢; exact firstI_of (hN ▸ hk) g1 g2
  have hz2 : (∀ j, j < N → ba j < 0) → firstI F = (0, 0, 6) := fun g => by rw [hba] at g; exact firstI_no (hN ▸ g)
  obtain ⟨f1, hf1⟩ : ∃ x, x = firstI F := ⟨_, rfl⟩
  rw [← hf1] at hz1 hz2 ⊢
  rw [← hN] at hN9
  clear hRM hrm hba h30 hN hf1 hO hK
  obtain ⟨pa, un, lA, ln, lc, lk, lt, bA, bn, bc, sA, sn, sc, s, jA, jn, jc, ja, jk, jo, jf, jx, je, jd⟩ := F
  obtain ⟨hX, hl, hb, hs, hj⟩ := hF
  simp only at hl hb hs hj
  refine go_start (args := [.pt (.agg (GFun.dat ⟨pa, un, lA, ln, lc, lk, lt, bA, bn, bc, sA, sn, sc, s, jA, jn, jc, ja, jk, jo, jf, jx, je, jd⟩))]) (c := (funX ⟨pa, un, lA, ln, lc, lk, lt, bA, bn, bc, sA, sn, sc, s, jA, jn, jc, ja, jk, jo, jf, jx, je, jd⟩)) Tryz.func18 rfl hX rfl rfl ?_
  obtain ⟨nd, hnd⟩ : ∃ f : Bool → Bool → Bool, f = and := ⟨_, rfl⟩
  obtain ⟨nt, hnt⟩ : ∃ f : Bool → Bool, f = not := ⟨_, rfl⟩
  obtain ⟨ar, har⟩ : ∃ f : BinOp → IntKind → Int → Int → Int, f = rAr := ⟨_, rfl⟩
  obtain ⟨cm, hcm⟩ : ∃ f : BinOp → Int → Int → Bool, f = rCm := ⟨_, rfl⟩
  obtain ⟨mx, hmx⟩ : ∃ f : Int → Int → Int, f = rMx := ⟨_, rfl⟩
  obtain ⟨mn, hmn⟩ : ∃ f : Int → Int → Int, f = rMn := ⟨_, rfl⟩
  have ar01 : ar .add .i64 0 1 = 1 := by rw [har]; decide
  have ar12 : ar .add .i64 1 1 = 2 := by rw [har]; decide
  obtain ⟨zpl, hzpl⟩ : ∃ f : Nat → Nat → Nat, f = fun x y => x + y := ⟨_, rfl⟩
  obtain ⟨zjn, hzjn⟩ : ∃ f : Nat → (Nat → List SC) → (Nat → List SC) → Nat → List SC, f = rJn := ⟨_, rfl⟩
  obtain ⟨zup, hzup⟩ : ∃ f : (Nat → List SC) → Nat → Nat → List SC → Nat → List SC, f = rUp := ⟨_, rfl⟩
  obtain ⟨zmi, hzmi⟩ : ∃ f : Nat → Nat → Nat, f = fun x y => x - y := ⟨_, rfl⟩
  obtain ⟨zdp, hzdp⟩ : ∃ f : Nat → (Nat → List SC) → Nat → List SC, f = rDp := ⟨_, rfl⟩
  have hT := T0_ok hnd hnt har hcm hmx hmn hzpl hzjn hzup hzmi hzdp
  have hlo : ∀ {a}, cm .geq (ba a) 0 = false → ba a < 0 := fun {a} h => by
    rw [hcm] at h
    have h : decide (0 ≤ ba a) = false := h
    have := of_decide_eq_false h
    omega
  have hhi : ∀ {a}, cm .geq (ba a) 0 = true → 0 ≤ ba a := fun {a} h => by
    rw [hcm] at h
    exact of_decide_eq_true (show decide (0 ≤ ba a) = true from h)
  repeat' (first
    | ((with_reducible apply go_ev hT 400); (· (cbv; try rfl)); (fail_if_success with_reducible apply stuck_id))
    | ((with_reducible refine go_brnf hnt ?_ ?_); (· first | rfl | assumption))
    | (with_reducible refine go_brl hcm (fun hlt => ?_) (fun hge => ?_))
    | (with_reducible refine go_br (fun h => ?_) (fun h => ?_))
    | ((with_reducible apply go_ret_val hT); (· (cbv; try rfl)); (· (cbv; try rfl)))
    | ((with_reducible apply go_draw); (· rfl); (· kernel_rfl); (· kernel_rfl))
    | ((with_reducible refine go_need ?_ ?_ ?_); (· first | omega | (simp only [Int.ofNat_eq_natCast]; omega)); (· first | omega | (simp only [Int.ofNat_eq_natCast]; omega)))
    | ((with_reducible apply go_callR (f := 16) (hf := Tryz.call16)); (· intro S; cbv; try rfl); (· intro wc S hbc hxc hrc; exact h1 wc hbc); (· rfl))
    | ((with_reducible apply go_callq (f := 25) (hf := Tryz.call25)); (· (cbv; try rfl)); (· intro wc hbc hxc; exact h3 wc hbc a (by assumption)))
    | ((with_reducible refine go_loopk (σ := {a : Nat // a ≤ N ∧ ∀ j, j < a → ba j < 0}) [8, 17, 18, 19, 20, 21, 22, 23, 24, 25, 26, 27, 28, 29, 30, 31, 32, 33] (fun x => [(7, .pt (.one (.int .i64 (.ofNat x.1))))]) (fun x => []) (fun x => []) (fun x => N - x.1) ⟨0, by omega, fun j hj => by omega⟩ ?_ ?_ ?_ ?_); (· (refine le_mk ?_ ?_ ?_ ?_ <;> (cbv; (try simp only [true_and, and_true]); (try ((repeat' apply And.intro) <;> (first | trivial | rfl | exact RowLe.rfl' _ | (rw [wrap_nat har _ (by omega)]))))))); (· (cbv; try rfl)); (· simp); (rintro ⟨a, ha, hok⟩ mm hmm))
    | ((with_reducible refine go_stop ⟨a + 1, by omega, all_succ hok (hlo (by assumption))⟩ ?_ ?_ ?_ ?_); (· exact Nat.lt_of_lt_of_eq (show N - (a + 1) < N - a from by omega) (Eq.symm (by assumption))); (· (refine le_mk ?_ ?_ ?_ ?_ <;> (cbv; (try simp only [true_and, and_true]); (try ((repeat' apply And.intro) <;> (first | trivial | rfl | exact RowLe.rfl' _ | (rw [wrap_nat har _ (by omega)]))))))); (· (cbv; try rfl)); (· simp))
    )
  all_goals first
    | (rw [hz1 a (by assumption) (hhi (by assumption)) hok])
    | (have e : a = N := by omega
       subst e
       rw [hz2 hok]; rfl)

set_option maxRecDepth 100000 in
set_option maxHeartbeats 4000000 in
theorem rInitsC (F : GFun) (w : World) (hF : F.At w) (hK : F.Ty8) (hO : F.Ok) :
    Calls Tryz.prog 21 #[F.val] w (Ret w (.int .i64 (initI F))) := by
  have h1 (wc : World) (hk : KB ⟨w, []⟩ wc) := rFirstC F wc (hF.later hk) hK hO
  have hz : (firstI F).2.2 = 0 ∨ (firstI F).2.2 = 6 := by
    rcases firstI_is F with ⟨k, h, _⟩ | ⟨h, _⟩ <;> rw [h]
    · exact .inl rfl
    · exact .inr rfl
  have hi : ((firstI F).2.2 = 0 → initI F = 44) ∧ ((firstI F).2.2 = 6 → initI F = 0) := ⟨fun h => by unfold initI; rw [h]; rfl, fun h => by unfold initI; rw [h]; rfl⟩
  obtain ⟨u, hu⟩ : ∃ u, u = initI F := ⟨_, rfl⟩
  rw [← hu] at hi ⊢
  generalize firstI F = f1 at h1 hz hi
  obtain ⟨x, y, z⟩ := f1
  simp only at h1 hz hi
  clear hO hu hK
  obtain ⟨pa, un, lA, ln, lc, lk, lt, bA, bn, bc, sA, sn, sc, s, jA, jn, jc, ja, jk, jo, jf, jx, je, jd⟩ := F
  obtain ⟨hX, hl, hb, hs, hj⟩ := hF
  simp only at hl hb hs hj
  try simp only at h1
  rcases hz with rfl | rfl
  · rw [hi.1 rfl]
    refine go_start (args := [.pt (.agg (GFun.dat ⟨pa, un, lA, ln, lc, lk, lt, bA, bn, bc, sA, sn, sc, s, jA, jn, jc, ja, jk, jo, jf, jx, je, jd⟩))]) (c := (funX ⟨pa, un, lA, ln, lc, lk, lt, bA, bn, bc, sA, sn, sc, s, jA, jn, jc, ja, jk, jo, jf, jx, je, jd⟩)) Tryz.func21 rfl hX rfl rfl ?_
    obtain ⟨nd, hnd⟩ : ∃ f : Bool → Bool → Bool, f = and := ⟨_, rfl⟩
    obtain ⟨nt, hnt⟩ : ∃ f : Bool → Bool, f = not := ⟨_, rfl⟩
    obtain ⟨ar, har⟩ : ∃ f : BinOp → IntKind → Int → Int → Int, f = rAr := ⟨_, rfl⟩
    obtain ⟨cm, hcm⟩ : ∃ f : BinOp → Int → Int → Bool, f = rCm := ⟨_, rfl⟩
    obtain ⟨mx, hmx⟩ : ∃ f : Int → Int → Int, f = rMx := ⟨_, rfl⟩
    obtain ⟨mn, hmn⟩ : ∃ f : Int → Int → Int, f = rMn := ⟨_, rfl⟩
    have ar01 : ar .add .i64 0 1 = 1 := by rw [har]; decide
    have ar12 : ar .add .i64 1 1 = 2 := by rw [har]; decide
    obtain ⟨zpl, hzpl⟩ : ∃ f : Nat → Nat → Nat, f = fun x y => x + y := ⟨_, rfl⟩
    obtain ⟨zjn, hzjn⟩ : ∃ f : Nat → (Nat → List SC) → (Nat → List SC) → Nat → List SC, f = rJn := ⟨_, rfl⟩
    obtain ⟨zup, hzup⟩ : ∃ f : (Nat → List SC) → Nat → Nat → List SC → Nat → List SC, f = rUp := ⟨_, rfl⟩
    obtain ⟨zmi, hzmi⟩ : ∃ f : Nat → Nat → Nat, f = fun x y => x - y := ⟨_, rfl⟩
    obtain ⟨zdp, hzdp⟩ : ∃ f : Nat → (Nat → List SC) → Nat → List SC, f = rDp := ⟨_, rfl⟩
    have hT := T0_ok hnd hnt har hcm hmx hmn hzpl hzjn hzup hzmi hzdp
    repeat' (first
      | ((with_reducible apply go_ev hT 400); (· (cbv; try rfl)); (fail_if_success with_reducible apply stuck_id))
      | ((with_reducible refine go_brt ?_ ?_); (· first | rfl | assumption | (rw [hcm]; decide)))
      | ((with_reducible apply go_ret_val hT); (· (cbv; try rfl)); (· (cbv; try rfl)))
      | ((with_reducible apply go_call (f := 18) (hf := Tryz.call18)); (· (cbv; try rfl)); (· intro wc hbc hxc; exact h1 wc hbc))
      )
    all_goals rfl
  · rw [hi.2 rfl]
    refine go_start (args := [.pt (.agg (GFun.dat ⟨pa, un, lA, ln, lc, lk, lt, bA, bn, bc, sA, sn, sc, s, jA, jn, jc, ja, jk, jo, jf, jx, je, jd⟩))]) (c := (funX ⟨pa, un, lA, ln, lc, lk, lt, bA, bn, bc, sA, sn, sc, s, jA, jn, jc, ja, jk, jo, jf, jx, je, jd⟩)) Tryz.func21 rfl hX rfl rfl ?_
    obtain ⟨nd, hnd⟩ : ∃ f : Bool → Bool → Bool, f = and := ⟨_, rfl⟩
    obtain ⟨nt, hnt⟩ : ∃ f : Bool → Bool, f = not := ⟨_, rfl⟩
    obtain ⟨ar, har⟩ : ∃ f : BinOp → IntKind → Int → Int → Int, f = rAr := ⟨_, rfl⟩
    obtain ⟨cm, hcm⟩ : ∃ f : BinOp → Int → Int → Bool, f = rCm := ⟨_, rfl⟩
    obtain ⟨mx, hmx⟩ : ∃ f : Int → Int → Int, f = rMx := ⟨_, rfl⟩
    obtain ⟨mn, hmn⟩ : ∃ f : Int → Int → Int, f = rMn := ⟨_, rfl⟩
    have ar01 : ar .add .i64 0 1 = 1 := by rw [har]; decide
    have ar12 : ar .add .i64 1 1 = 2 := by rw [har]; decide
    obtain ⟨zpl, hzpl⟩ : ∃ f : Nat → Nat → Nat, f = fun x y => x + y := ⟨_, rfl⟩
    obtain ⟨zjn, hzjn⟩ : ∃ f : Nat → (Nat → List SC) → (Nat → List SC) → Nat → List SC, f = rJn := ⟨_, rfl⟩
    obtain ⟨zup, hzup⟩ : ∃ f : (Nat → List SC) → Nat → Nat → List SC → Nat → List SC, f = rUp := ⟨_, rfl⟩
    obtain ⟨zmi, hzmi⟩ : ∃ f : Nat → Nat → Nat, f = fun x y => x - y := ⟨_, rfl⟩
    obtain ⟨zdp, hzdp⟩ : ∃ f : Nat → (Nat → List SC) → Nat → List SC, f = rDp := ⟨_, rfl⟩
    have hT := T0_ok hnd hnt har hcm hmx hmn hzpl hzjn hzup hzmi hzdp
    repeat' (first
      | ((with_reducible apply go_ev hT 400); (· (cbv; try rfl)); (fail_if_success with_reducible apply stuck_id))
      | ((with_reducible refine go_brt ?_ ?_); (· first | rfl | assumption | (rw [hcm]; decide)))
      | ((with_reducible refine go_brf ?_ ?_); (· first | rfl | assumption | (rw [hcm]; decide)))
      | ((with_reducible apply go_ret_val hT); (· (cbv; try rfl)); (· (cbv; try rfl)))
      | ((with_reducible apply go_call (f := 18) (hf := Tryz.call18)); (· (cbv; try rfl)); (· intro wc hbc hxc; exact h1 wc hbc))
      )
    all_goals rfl

set_option maxRecDepth 100000 in
set_option maxHeartbeats 4000000 in
theorem rInitsBad (F : GFun) (w : World) (hF : F.At w) (hK : F.Ty8) (hz : rchkV F ≠ 0) (h6 : rchkV F ≠ 6) :
    Calls Tryz.prog 21 #[F.val] w (Ret w (.int .i64 (rchkV F))) := by
  have h1 (wc : World) (hk : KB ⟨w, []⟩ wc) := rFirstBad F wc (hF.later hk) hK hz
  generalize rchkV F = z at h1 hz h6 ⊢
  have hq : decide (z = 0) = false := decide_eq_false hz
  have hq6 : decide (z = 6) = false := decide_eq_false h6
  clear hz h6 hK
  obtain ⟨pa, un, lA, ln, lc, lk, lt, bA, bn, bc, sA, sn, sc, s, jA, jn, jc, ja, jk, jo, jf, jx, je, jd⟩ := F
  obtain ⟨hX, hl, hb, hs, hj⟩ := hF
  simp only at hl hb hs hj
  refine go_start (args := [.pt (.agg (GFun.dat ⟨pa, un, lA, ln, lc, lk, lt, bA, bn, bc, sA, sn, sc, s, jA, jn, jc, ja, jk, jo, jf, jx, je, jd⟩))]) (c := (funX ⟨pa, un, lA, ln, lc, lk, lt, bA, bn, bc, sA, sn, sc, s, jA, jn, jc, ja, jk, jo, jf, jx, je, jd⟩)) Tryz.func21 rfl hX rfl rfl ?_
  obtain ⟨nd, hnd⟩ : ∃ f : Bool → Bool → Bool, f = and := ⟨_, rfl⟩
  obtain ⟨nt, hnt⟩ : ∃ f : Bool → Bool, f = not := ⟨_, rfl⟩
  obtain ⟨ar, har⟩ : ∃ f : BinOp → IntKind → Int → Int → Int, f = rAr := ⟨_, rfl⟩
  obtain ⟨cm, hcm⟩ : ∃ f : BinOp → Int → Int → Bool, f = rCm := ⟨_, rfl⟩
  obtain ⟨mx, hmx⟩ : ∃ f : Int → Int → Int, f = rMx := ⟨_, rfl⟩
  obtain ⟨mn, hmn⟩ : ∃ f : Int → Int → Int, f = rMn := ⟨_, rfl⟩
  have ar01 : ar .add .i64 0 1 = 1 := by rw [har]; decide
  have ar12 : ar .add .i64 1 1 = 2 := by rw [har]; decide
  obtain ⟨zpl, hzpl⟩ : ∃ f : Nat → Nat → Nat, f = fun x y => x + y := ⟨_, rfl⟩
  obtain ⟨zjn, hzjn⟩ : ∃ f : Nat → (Nat → List SC) → (Nat → List SC) → Nat → List SC, f = rJn := ⟨_, rfl⟩
  obtain ⟨zup, hzup⟩ : ∃ f : (Nat → List SC) → Nat → Nat → List SC → Nat → List SC, f = rUp := ⟨_, rfl⟩
  obtain ⟨zmi, hzmi⟩ : ∃ f : Nat → Nat → Nat, f = fun x y => x - y := ⟨_, rfl⟩
  obtain ⟨zdp, hzdp⟩ : ∃ f : Nat → (Nat → List SC) → Nat → List SC, f = rDp := ⟨_, rfl⟩
  have hT := T0_ok hnd hnt har hcm hmx hmn hzpl hzjn hzup hzmi hzdp
  repeat' (first
    | ((with_reducible apply go_ev hT 400); (· (cbv; try rfl)); (fail_if_success with_reducible apply stuck_id))
    | ((with_reducible refine go_brf ?_ ?_); (· first | rfl | assumption | (rw [hcm]; decide)))
    | ((with_reducible apply go_ret_val hT); (· (cbv; try rfl)); (· (cbv; try rfl)))
    | ((with_reducible apply go_call (f := 18) (hf := Tryz.call18)); (· (cbv; try rfl)); (· intro wc hbc hxc; exact h1 wc hbc))
    )
  all_goals rfl

end Go.Proofs.YtbljhhkjjlgnmaaGreat
