/- SolveNames, the walk. No condition. -/
import Derived.Test.YtmceonmlgcbcmaaGreatSolveX
import Derived.Test.YtmceonmlgcbcmaaGreatS5
import Derived.Test.YtmceonmlgcbcmaaGreatN6
namespace Go.Proofs.YtmceonmlgcbcmaaGreat
open Go.RowKit
set_option linter.unusedVariables false
set_option linter.unusedSimpArgs false
def conP : List CK := [.i .i64, .i .i64, .i .i64, .i .u8]
def setsLit (h : List (Option (List SC))) (x : SC) : Bool := rowOk h [.s] x && (List.range (lenC x)).all fun i => rowOk h [.b] (nthC (cellsOf h x) i)
def lenL (h : List (Option (List SC))) (x : SC) (i : Nat) : Nat := lenC (nthC (cellsOf h x) i)
def booL (h : List (Option (List SC))) (x : SC) (i j : Nat) : Bool := booC (nthC (cellsOf h (nthC (cellsOf h x) i)) j)
def conL4 (h : List (Option (List SC))) (y : SC) (t i : Nat) : Int := numC (nthC (cellsOf h y) (i * 4 + t))
theorem setsLit_at {c : Nat → Nat → Row} {w : World} {S : Nat → Value} {B : Nat → Nat} {st : St} (hM : MemIs c w S B st) {x : SC} (h : setsLit st.h x = true) : Sets w (adrC B x) (lenC x) (lenL st.h x) (booL st.h x) := by
 simp only [setsLit, Bool.and_eq_true, List.all_eq_true, List.mem_range] at h
 intro hn
 obtain ⟨b, p, ha, hlt, _⟩ := rowOk_at hM h.1 (j := 0) hn
 refine ⟨b, p, ha, hlt, fun i hi => ?_⟩
 obtain ⟨b', p', ha', _, hc⟩ := rowOk_at hM h.1 (j := i) hi
 rw [ha] at ha'; cases ha'
 have h2 := h.2 i hi
 refine ⟨adrC B (nthC (cellsOf st.h x) i), capC (nthC (cellsOf st.h x) i), ?_, ?_, fun hm => ?_⟩
 · have := hc 0 (CK.s.val B (nthC (cellsOf st.h x) (i * 1))) rfl
   simpa [CK.val, lenL] using this
 · have := rowOk_n h2; unfold lenL maxLen; omega
 · obtain ⟨b2, p2, ha2, hlt2, _⟩ := rowOk_at hM h2 (j := 0) hm
   refine ⟨b2, p2, ha2, hlt2, fun j hj => ?_⟩
   obtain ⟨b3, p3, ha3, _, hc3⟩ := rowOk_at hM h2 (j := j) hj
   rw [ha2] at ha3; cases ha3
   have := hc3 0 (CK.b.val B (nthC (cellsOf st.h (nthC (cellsOf st.h x) i)) (j * 1))) rfl
   simpa [CK.val, booL] using this
theorem consLit_at {c : Nat → Nat → Row} {w : World} {S : Nat → Value} {B : Nat → Nat} {st : St} (hM : MemIs c w S B st) {y : SC} (h : rowOk st.h conP y = true) : Cons w (adrC B y) (lenC y) (conL4 st.h y 0) (conL4 st.h y 1) (conL4 st.h y 2) (conL4 st.h y 3) := by
 intro hn
 obtain ⟨b, p, ha, hlt, _⟩ := rowOk_at hM h (j := 0) hn
 refine ⟨b, p, ha, hlt, fun i hi => ?_⟩
 obtain ⟨b', p', ha', _, hc⟩ := rowOk_at hM h (j := i) hi
 rw [ha] at ha'; cases ha'
 have e0 := hc 0 _ rfl
 have e1 := hc 1 _ rfl
 have e2 := hc 2 _ rfl
 have e3 := hc 3 _ rfl
 simp only [conP, List.length_cons, List.length_nil] at e0 e1 e2 e3
 refine ⟨by simpa [CK.val, conL4] using e0, ?_, ?_, ?_⟩
 · simpa [CK.val, conL4, Nat.add_assoc] using e1
 · simpa [CK.val, conL4, Nat.add_assoc] using e2
 · simpa [CK.val, conL4, Nat.add_assoc] using e3
theorem sets_nil {c : Nat → Nat → Row} {w : World} {n : Nat} {v : Value} (hR : RowIs c w ⟨n, 1, fun _ => [.val (.slice none 0 0)]⟩ v) : ∃ a cap, v = .slice a n cap ∧ Sets w a n (fun _ => 0) (fun _ _ => false) := by
 obtain ⟨a, cap, rfl⟩ := hR.form
 refine ⟨a, cap, rfl, fun hn => ?_⟩
 obtain ⟨b, p, hb, hlt, -⟩ := hR.rowG (j := 0) hn
 refine ⟨b, p, hb, hlt, fun i hi => ?_⟩
 obtain ⟨b', p', hb', _, vs, h1, h2⟩ := hR.rowG (j := i) hi
 rw [hb] at hb'; cases hb'
 match vs, h1 with
 | [u], ⟨h1, _⟩ =>
   have h1 : u = .slice none 0 0 := h1
   subst h1
   exact ⟨none, 0, by simpa using h2 0 _ rfl, by simp [maxLen], Bits.of_none⟩
theorem cons_zero {c : Nat → Nat → Row} {w : World} {n : Nat} {v : Value} (hR : RowIs c w ⟨n, 4, fun _ => [.int .i64 0, .int .i64 0, .int .i64 0, .int .u8 0]⟩ v) : ∃ a cap, v = .slice a n cap ∧ Cons w a n (fun _ => 0) (fun _ => 0) (fun _ => 0) (fun _ => 0) := cons_row hR
set_option maxHeartbeats 1000000 in
theorem least_err (A A' : Option Addr) (n nl c c' : Nat) (L : Nat → Nat) (S : Nat → Nat → Bool) (F T N Y : Nat → Int) (z : Int) (w : World) (hn : n ≤ maxLen) (hl : nl ≤ maxLen) (hz : askV n nl L F T = z) (hz0 : z ≠ 0) (hX : Sets w A n L S) (hY : Cons w A' nl F T N Y) :
 Calls Tryz.prog 42 #[.slice A n c, .slice A' nl c'] w (Ret w (.tuple #[.slice none 0 0, .int .i64 z])) := by
 have C1 := fun W (h : Sets W A n L S) (h' : Cons W A' nl F T N Y) => scheck_any A A' n nl c c' L S F T N Y W hn hl h h'
 rw [hz] at C1
 have HX := Lib.hid hX
 have HY := Lib.hid hY
 have q1 : (z != 0) = true := by simpa using hz0
 have D1 := Lib.hid C1
 clear C1 hX hY hz
 go_enter Tryz.func42, Tryz.ntmps42
 go_wp2
 go_step3
 go_wp2_with fail
 refine (D1.out _ (HX.out.below' (by repeat (first | exact Below.refl _ _ | (refine Below.setCell ?_ (by first | omega | (simp; done) | (simp; omega)) _) | (refine Below.alloc ?_ (by first | omega | (simp; done) | (simp; omega)) _) | refine Below.drew ?_))) (HY.out.below' (by repeat (first | exact Below.refl _ _ | (refine Below.setCell ?_ (by first | omega | (simp; done) | (simp; omega)) _) | (refine Below.alloc ?_ (by first | omega | (simp; done) | (simp; omega)) _) | refine Below.drew ?_)))).mono ?_
 rintro e w1 ⟨rfl, hb1⟩
 have hB1 : Below w.heap.size w w1 := Below.call (by repeat (first | exact Below.refl _ _ | (refine Below.setCell ?_ (by first | omega | (simp; done) | (simp; omega)) _) | (refine Below.alloc ?_ (by first | omega | (simp; done) | (simp; omega)) _) | refine Below.drew ?_)) hb1
 have hS1 : w.heap.size ≤ w1.heap.size := hB1.size
 obtain ⟨hc1, hf1⟩ := bcell hb1
 clear hc1 hf1
 go_wp2
 try rw [Exit.noGoto_ret]
 go_ret2
 exact ⟨rfl, (by repeat (first | exact hB1 | exact Below.refl _ _ | (refine Below.setCell ?_ (by first | omega | (simp; done) | (simp; omega)) _) | (refine Below.alloc ?_ (by first | omega | (simp; done) | (simp; omega)) _) | refine Below.drew ?_))⟩
theorem leastN (A A' : Option Addr) (n nl c c' : Nat) (S : Nat → Nat → Bool) (F T N Y : Nat → Int) (w : World) (cc : Nat → Nat → Row) (hn : n ≤ 592) (hl : nl ≤ 1152) (hF : FitS n nl F T) (hX : Sets w A n (fun _ => 0) S) (hY : Cons w A' nl F T N Y) :
 Calls Tryz.prog 42 #[.slice A n c, .slice A' nl c'] w (RetR w cc (.tup [.one (.rs 0), .one (.int .i64 0)]) [⟨n, 1, fun _ => [.any]⟩]) := by
 refine (least_own A A' n nl c c' (fun _ => 0) S F T N Y w hn hl (fun _ _ => rfl) (fun _ _ => Nat.zero_le _) hF (Lib.hid (ask_ok hn hl (fun _ _ => Nat.zero_le _) (fun _ _ => rfl) hF)) hX hY).mono ?_
 rintro e w' ⟨v, V, X, rfl, hO, hS, hb⟩
 obtain ⟨h1, h2⟩ := own_R hO.top (fun u hu => by
  obtain ⟨j, hj, rfl⟩ := List.mem_map.1 hu
  obtain ⟨a2, c2, e2, _⟩ := slice_of_own (hO.row j (List.mem_range.1 hj))
  rw [e2]; rfl)
 obtain ⟨a2, c2, rfl, _⟩ := slice_of_own hO.top
 refine ⟨_, [_], rfl, hb, ⟨rfl, fun i R hi => ?_, fun i j b u u' hi hj _ _ => ?_⟩, ⟨_, rfl, ⟨rfl, rfl⟩, rfl, trivial⟩⟩
 · match i, hi with
   | 0, hi =>
     have hi : R = ⟨n, 1, fun _ => [.any]⟩ := (Option.some.inj hi).symm
     subst hi
     refine ⟨_, _, rfl, h1, fun j hj => ?_, h2⟩
     have hj : j < n := hj
     have e : (((List.range n).map V).drop (j * 1)).take 1 = [V j] := by
      rw [Nat.mul_one]
      refine List.ext_getElem? fun k => ?_
      rw [List.getElem?_take, List.getElem?_drop]
      cases k with
      | zero => simp [List.getElem?_range hj]
      | succ k => simp
     show isL _ _ ((((List.range n).map V).drop (j * 1)).take 1)
     rw [e]
     exact ⟨trivial, trivial⟩
 · match i, j, hi, hj with
   | 0, 0, _, _ => rfl
section
variable {Q : Exit → Act → World → Prop} {c : Nat → Nat → Row} {w0 : Base}
theorem go_leastLit (z : Int) {x y : SC} {dst : Option Nat} {k : List Item} {st : St} (hv : ∀ S B, toVsB S B c [.pt (.one x), .pt (.one y)] = some [.slice (adrC B x) (lenC x) (capC x), .slice (adrC B y) (lenC y) (capC y)]) (hx : setsLit st.h x = true) (hy : rowOk st.h conP y = true) (hz : askV (lenC x) (lenC y) (lenL st.h x) (conL4 st.h y 0) (conL4 st.h y 1) = z) (hz0 : z ≠ 0)
 (h : Goes Tryz.prog Q c w0 k (st.put dst (ofR (.tuple #[.slice none 0 0, .int .i64 z])))) : OutOk Tryz.prog Q c w0 (.call 42 [.pt (.one x), .pt (.one y)] dst k st) :=
 go_callBv (vs := fun S B => [.slice (adrC B x) (lenC x) (capC x), .slice (adrC B y) (lenC y) (capC y)]) hv Tryz.call42 (fun w S B hk hx' hM => by
  simp only [setsLit, Bool.and_eq_true] at hx
  have n1 := rowOk_n hx.1
  have n2 := rowOk_n hy
  exact least_err _ _ _ _ _ _ _ _ _ _ _ _ z w (by unfold maxLen; omega) (by unfold maxLen; omega) hz hz0 (setsLit_at hM (by simp only [setsLit, Bool.and_eq_true]; exact hx)) (consLit_at hM hy)) h
theorem go_holdsLit (b : Bool) (z : Int) {x y s : SC} {dst : Option Nat} {k : List Item} {st : St} (hv : ∀ S B, toVsB S B c [.pt (.one x), .pt (.one y), .pt (.one s)] = some [.slice (adrC B x) (lenC x) (capC x), .slice (adrC B y) (lenC y) (capC y), .slice (adrC B s) (lenC s) (capC s)]) (hx : setsLit st.h x = true) (hy : rowOk st.h conP y = true) (hs : setsLit st.h s = true)
 (hb : holdB (lenC x) (lenC y) (lenC s) (lenL st.h x) (lenL st.h s) (conL4 st.h y 0) (conL4 st.h y 1) (booL st.h x) (booL st.h s) = b) (hz : askV (lenC x) (lenC y) (lenL st.h x) (conL4 st.h y 0) (conL4 st.h y 1) = z)
 (h : Goes Tryz.prog Q c w0 k (st.put dst (ofR (.tuple #[.bool b, .int .i64 z])))) : OutOk Tryz.prog Q c w0 (.call 43 [.pt (.one x), .pt (.one y), .pt (.one s)] dst k st) :=
 go_callBv (vs := fun S B => [.slice (adrC B x) (lenC x) (capC x), .slice (adrC B y) (lenC y) (capC y), .slice (adrC B s) (lenC s) (capC s)]) hv Tryz.call43 (fun w S B hk hx' hM => by
  have n1 : lenC x ≤ 1000 := by have := hx; simp only [setsLit, Bool.and_eq_true] at this; exact rowOk_n this.1
  have n3 : lenC s ≤ 1000 := by have := hs; simp only [setsLit, Bool.and_eq_true] at this; exact rowOk_n this.1
  have n2 := rowOk_n hy
  have := holds_any (adrC B x) (adrC B y) (adrC B s) (lenC x) (lenC y) (lenC s) (capC x) (capC y) (capC s) _ _ _ _ _ _ _ _ w (by unfold maxLen; omega) (by unfold maxLen; omega) (by unfold maxLen; omega) (setsLit_at hM hx) (consLit_at hM hy) (setsLit_at hM hs)
  rw [hb, hz] at this
  exact this) h
theorem go_regionsNo (z : Int) {pa : Int} {un : Bool} {l b : SC} {dst : Option Nat} {k : List Item} {st : St} (hv : ∀ S B, toVsB S B c [.pt (.agg [.int .i64 pa, .lit un, l, b])] = some [(litF st.h B pa un l b).val]) (hok : litOk st.h l b = true) (hz : ∀ B, fchkV (litF st.h B pa un l b) = z) (hz0 : z ≠ 0) (h : Goes Tryz.prog Q c w0 k (st.put dst (ofR (.tuple #[.slice none 0 0, .int .i64 z])))) : OutOk Tryz.prog Q c w0 (.call 39 [.pt (.agg [.int .i64 pa, .lit un, l, b])] dst k st) :=
 go_callBv (vs := fun S B => [(litF st.h B pa un l b).val]) hv Tryz.call39 (fun w S B hk hx hM => by
  have := regionsBad (litF st.h B pa un l b) w (litF_at hM hok) (by rw [hz]; exact hz0)
  rw [hz] at this; exact this) h
theorem go_chkNo20 (z : Int) {pa : Int} {un : Bool} {l b : SC} {dst : Option Nat} {k : List Item} {st : St} (hv : ∀ S B, toVsB S B c [.pt (.agg [.int .i64 pa, .lit un, l, b])] = some [(litF st.h B pa un l b).val]) (hok : litOk st.h l b = true) (hz : ∀ B, fchkV (litF st.h B pa un l b) = z) (hn : ∀ B, (litF st.h B pa un l b).ln = 0) (h : Goes Tryz.prog Q c w0 k (st.put dst (ofR (.int .i64 z)))) : OutOk Tryz.prog Q c w0 (.call 36 [.pt (.agg [.int .i64 pa, .lit un, l, b])] dst k st) :=
 go_callBv (vs := fun S B => [(litF st.h B pa un l b).val]) hv Tryz.call36 (fun w S B hk hx hM => by
  have := rFnChk (litF st.h B pa un l b) w (litF_at hM hok) (fun i hi => by rw [hn] at hi; omega)
  rw [rchk_eq, hz] at this; exact this) h
end
end Go.Proofs.YtmceonmlgcbcmaaGreat
