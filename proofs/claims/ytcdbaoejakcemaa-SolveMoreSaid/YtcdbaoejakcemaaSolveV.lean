/- The statement SolveMore: its walk, where there is something to show. No condition. -/
import Derived.Test.YtcdbaoejakcemaaSolveU
import Derived.Deep.DrawnRows
import Derived.Deep.DeepCutAuto
namespace Go.Proofs.Ytcdbaoejakcemaa
open Go.RowKit
attribute [local go_sem ↓] Go.wp_at_zero Go.wp_at_succ

theorem ccells_ext {n : Nat} {F T N Y : Nat → Int} {f t a y : Int} : ccells n F T N Y ++ [.int .i64 f, .int .i64 t, .int .i64 a, .int .u8 y] = ccells (n + 1) (setAt F n f) (setAt T n t) (setAt N n a) (setAt Y n y) := by
  have h := ccells_succ n (setAt F n f) (setAt T n t) (setAt N n a) (setAt Y n y)
  rw [setAt_at, setAt_at, setAt_at, setAt_at] at h
  rw [← h, ccells_congr (F' := setAt F n f) (T' := setAt T n t) (N' := setAt N n a) (Y' := setAt Y n y) fun i hi => ⟨(setAt_ne (Nat.ne_of_lt hi)).symm, (setAt_ne (Nat.ne_of_lt hi)).symm, (setAt_ne (Nat.ne_of_lt hi)).symm, (setAt_ne (Nat.ne_of_lt hi)).symm⟩]

set_option maxRecDepth 100000 in
set_option maxHeartbeats 40000000 in
theorem more_good (A A' : Option Addr) (n nl c c' r p : Nat) (L : Nat → Nat) (S : Nat → Nat → Bool) (F T N Y : Nat → Int) (cf ct cn cy : Int) (w : World) (hn : n ≤ maxLen) (hl : nl ≤ maxLen) (hX : Sets w A n L S) (hY : Cons w A' nl F T N Y)
    (h80 : nl < 80) (h0 : Hid (askV n nl L F T = 0)) (hr : r < n) (hp : p < L r) :
    Calls Try.prog 5 #[.slice A n c, .slice A' nl c', .int .i64 r, .int .i64 p, .agg #[.int .i64 cf, .int .i64 ct, .int .i64 cn, .int .u8 cy]] w (Ret w (.bool true)) := by
  have HX := Lib.hid hX
  have HY := Lib.hid hY
  clear hX hY
  obtain ⟨y1, y2, y3, y4, y5⟩ := ask_zero h0.out
  have H6 := Lib.hid y3
  have HL := Lib.hid y4
  have HF := Lib.hid y5
  clear y3 y4 y5
  obtain ⟨i0, hi0, hz0, hz1, hz2⟩ := info_parts con_info
  have q1 : decide (80 ≤ (nl : Int)) = false := by simp; omega
  have q2 : decide ((n : Int) ≤ r) = false := by simp; omega
  have q3 : decide ((L r : Int) ≤ p) = false := by simp; omega
  have q4 : ¬ (r : Int) < 0 := by omega
  have q5 : ¬ (p : Int) < 0 := by omega
  go_enter Try.func5, Try.ntmps5
  go_wp2_with fail
  refine (alive_any _).mono ?_
  rintro e w1 ⟨rfl, hb1⟩
  have hB1 : Below w.heap.size w w1 := Below.call (by repeat (first | exact Below.refl _ _ | (refine Below.setCell ?_ (by first | omega | (simp; done) | (simp; omega)) _) | (refine Below.alloc ?_ (by first | omega | (simp; done) | (simp; omega)) _) | refine Below.drew ?_)) hb1
  have hS1 : w.heap.size ≤ w1.heap.size := hB1.size
  obtain ⟨hc1, hf1⟩ := bcell hb1
  have hz1_0 : w.heap.size < w1.heap.size := by have := hb1.size; first | omega | (simp at this; omega)
  have k1_0 : w1.cell? ⟨w.heap.size, 0, none⟩ = some (.int .i64 cf) := by go_simp
  have k1_1 : w1.cell? ⟨w.heap.size, 1, none⟩ = some (.int .i64 ct) := by go_simp
  have k1_2 : w1.cell? ⟨w.heap.size, 2, none⟩ = some (.int .i64 cn) := by go_simp
  have k1_3 : w1.cell? ⟨w.heap.size, 3, none⟩ = some (.int .u8 cy) := by go_simp
  clear hc1 hf1
  go_wp2_with fail
  refine (great_any A A' n nl c c' L S _ hn hl (HX.out.below' (by repeat (first | exact hB1 | exact Below.refl _ _ | (refine Below.setCell ?_ (by first | omega | (simp; done) | (simp; omega)) _) | (refine Below.alloc ?_ (by first | omega | (simp; done) | (simp; omega)) _) | refine Below.drew ?_)))).mono ?_
  rintro e w2 ⟨g, rfl, hg, hb2⟩
  have hB2 : Below w.heap.size w w2 := Below.call (by repeat (first | exact hB1 | exact Below.refl _ _ | (refine Below.setCell ?_ (by first | omega | (simp; done) | (simp; omega)) _) | (refine Below.alloc ?_ (by first | omega | (simp; done) | (simp; omega)) _) | refine Below.drew ?_)) hb2
  have hC2 : Below w1.heap.size w1 w2 := hb2
  cases g
  · clear hg
    go_wp2_with fail
    refine (asked_any A A' n nl c c' L S F T N Y _ hn hl (HX.out.below' (by repeat (first | exact hB2 | exact Below.refl _ _ | (refine Below.setCell ?_ (by first | omega | (simp; done) | (simp; omega)) _) | (refine Below.alloc ?_ (by first | omega | (simp; done) | (simp; omega)) _) | refine Below.drew ?_))) (HY.out.below' (by repeat (first | exact hB2 | exact Below.refl _ _ | (refine Below.setCell ?_ (by first | omega | (simp; done) | (simp; omega)) _) | (refine Below.alloc ?_ (by first | omega | (simp; done) | (simp; omega)) _) | refine Below.drew ?_)))).mono ?_
    rintro e w3 ⟨rfl, hb3⟩
    have hB3 : Below w.heap.size w w3 := Below.call (by repeat (first | exact hB2 | exact Below.refl _ _ | (refine Below.setCell ?_ (by first | omega | (simp; done) | (simp; omega)) _) | (refine Below.alloc ?_ (by first | omega | (simp; done) | (simp; omega)) _) | refine Below.drew ?_)) hb3
    have hC3 : Below w1.heap.size w1 w3 := Below.call hC2 hb3
    rw [h0.out]
    obtain ⟨b, off, rfl, hb, hc⟩ := HX.out (by omega)
    obtain ⟨R, C, e0, hl0, hX0⟩ := hc r hr
    have c0 := (hB3.cell (p := ⟨b, _, none⟩) hb).trans e0
    clear hc e0 hX0 hl0
    go_wp2
    clear c0 q1 q2 q3
    go_loopw [12, 13] (fun u v wr => ∃ (k : Nat) (z : Int), k ≤ nl ∧ v = .int .i64 z ∧ z = nl - 1 - k ∧ wr.ownsRow w1.heap.size 42 4 u k (ccells k (fun i => F (nl - 1 - i)) (fun i => T (nl - 1 - i)) (fun _ => 0) (fun _ => 0)) ∧ Below w1.heap.size w1 wr) (fun _ v _ => (intOf v + 1).toNat)
    case atStart => exact ⟨0, _, by omega, rfl, by omega, World.ownsRow_nil _ _ _ _, hC3⟩
    case round =>
      obtain ⟨k, z, hk, rfl, hzk, hO, hC⟩ := hrel
      have hB := Below.call hB1 hC
      have hz := hB.size
      have hzc := hC.size
      have HO := Lib.hid hO
      clear hO
      by_cases hlt : k < nl
      · obtain ⟨m, hm⟩ : ∃ m : Nat, nl - 1 - k = m := ⟨_, rfl⟩
        have hzm : z = (m : Int) := by omega
        subst hzm
        have hml : m < nl := by omega
        have HM := Lib.hid hm
        clear hm
        have HZK := Lib.hid hzk
        clear hzk
        obtain ⟨b', off', rfl, hb', hc'⟩ := HY.out (by omega)
        obtain ⟨e0, e1, _, _⟩ := hc' m hml
        have c0 := (hB.cell (p := ⟨b', _, none⟩) hb').trans e0
        have c1 := (hB.cell (p := ⟨b', _, none⟩) hb').trans e1
        have hbz : b' < wr.heap.size := by omega
        clear hc' e0 e1
        go_wp2
        go_region_held3 (fun w' => w'.cell? ⟨b', off' + m * 4, none⟩ = some (.int .i64 (F m)) ∧ w'.cell? ⟨b', off' + m * 4 + 1, none⟩ = some (.int .i64 (T m))) (first | go_keep | ((try dsimp only); (repeat' apply And.intro) <;> (first | assumption | (go_simp; done))))
          (first
            | (refine step_append_any _ (by rfl) (.tmp 79) (.tmp 91) _ (by rfl) w1.heap.size 42 i0 _ 4 32 Try.underlying23 hi0 hz0 hz1 hz2 (by rfl) (by omega) u12 k (ccells k (fun i => F (nl - 1 - i)) (fun i => T (nl - 1 - i)) (fun _ => 0) (fun _ => 0)) (by rfl) (by first | exact HO.out.alloc _ | exact own_drew (HO.out.alloc _))
                 _ (some ⟨_, 0, none⟩) 1 1 [.int .i64 (F m), .int .i64 (T m), .int .i64 0, .int .u8 0] (by rfl) (con_at (by go_simp) (by go_simp) (by go_simp) (by go_simp)) con_cells (by simp only [maxLen]; omega) (by omega) (by first | omega | (simp; done) | (simp; omega)) ?_
               intro v2 w2' hown2 hg2 hat2
               have HW2 : Hid (w2'.ownsRow w1.heap.size 42 4 v2 (k + 1) (ccells (k + 1) (fun i => F (nl - 1 - i)) (fun i => T (nl - 1 - i)) (fun _ => 0) (fun _ => 0))) := by
                 rw [← ccells_succ, HM.out]
                 exact hown2
               have hne : ∀ o, w2'.cell? ⟨b', o, none⟩ = wr.cell? ⟨b', o, none⟩ := fun o => by
                 have h1 := World.cell?_of_block (a := ⟨b', o, none⟩) (hg2.block b' (by simp; omega) (fun q => by have := (HO.out.lt _ q.symm).1; omega))
                 rw [h1]
                 go_simp
               have d0 : w2'.cell? ⟨b', off' + m * 4, none⟩ = some (.int .i64 (F m)) := (hne _).trans c0
               have d1 : w2'.cell? ⟨b', off' + m * 4 + 1, none⟩ = some (.int .i64 (T m)) := (hne _).trans c1
               have hC4 : Below w1.heap.size w1 w2' := Below.grown (by repeat (first | exact hC | (refine Below.alloc ?_ (by first | omega | (simp; done) | (simp; omega)) _) | refine Below.drew ?_)) hg2 (by first | omega | (simp; done) | (simp; omega)) (fun g hg => (HO.out.lt g hg).1)
               clear hown2 hg2 hat2 hne)
            | fail)
        all_goals
          go_wp2
          go_roundw
          case rel => first | exact ⟨k + 1, by omega, (by have h := HZK.out; (try simp only [Value.int.injEq, true_and]); omega), HW2.out⟩ | exact ⟨k + 1, by omega, (by have h := HZK.out; (try simp only [Value.int.injEq, true_and]); omega), HW2.out, hC4⟩
          case measure => simp [intOf]; omega
      · have hke : nl = k := by omega
        have hzz : z = -1 := by omega
        subst hzz
        subst hke
        obtain ⟨At, ct2, rfl, -, -, hT⟩ := cons_of_own HO.out
        obtain ⟨w4, ho⟩ : ∃ w4 : World, w4 = wr := ⟨_, rfl⟩
        rw [← ho] at hC hT hB ⊢
        clear ho HO hzk hlt hz hzc
        have HT := Lib.hid hT
        have hB4 := hB
        have hC4 := hC
        clear hT hB hC
        have HFt := Lib.hid (fit_turned HF.out)
        have HAt := Lib.hid (ask_ok y1 y2 H6.out HL.out HFt.out)
        go_wp2_with fail
        refine (least_any _ A' n nl c c' L S F T N Y _ hn hl (HX.out.below' hB4) (HY.out.below' hB4)).mono ?_
        rintro e w5 ⟨A8, c8, m8, X8, rfl, _, hs8, hok8, _, hb5⟩
        obtain ⟨hm8, hsol8⟩ := hok8 h0.out
        have hm8' := hm8.symm
        subst hm8'
        have hB5 : Below w.heap.size w w5 := Below.call hB4 hb5
        have hC5 : Below w1.heap.size w1 w5 := Below.call hC4 hb5
        have H8 := Lib.hid hs8
        have HS8 := Lib.hid hsol8
        rw [h0.out]
        clear hs8 hok8 hm8 hsol8
        go_wp2_with fail
        refine (least_any _ At n nl c ct2 L S _ _ _ _ _ hn hl (HX.out.below' hB5) (HT.out.below' hb5)).mono ?_
        rintro e w6 ⟨A9, c9, m9, X9, rfl, _, hs9, hok9, _, hb6⟩
        obtain ⟨hm9, hsol9⟩ := hok9 HAt.out
        have hm9' := hm9.symm
        subst hm9'
        have hB6 : Below w.heap.size w w6 := Below.call hB5 hb6
        have hC6 : Below w1.heap.size w1 w6 := Below.call hC5 hb6
        have H9 := Lib.hid hs9
        have HSA := Lib.hid (sameAllB_ok (n := n) (m := n) (L := L) (L' := L) (S := X8) (S' := X9) rfl (fun _ _ => rfl) (fun i hi j hj => sol_turned HS8.out hsol9 i hi j (by rw [← HL.out i hi]; exact hj)))
        rw [HAt.out]
        clear hs9 hok9 hm9 hsol9
        go_wp2_with fail
        refine (sameAll_any A8 A9 n n c8 c9 L L X8 X9 _ hn hn (H8.out.below' hb6) (H9.out.below' (Below.refl _ _))).mono ?_
        rintro e w7 ⟨rfl, hb7⟩
        have hB7 : Below w.heap.size w w7 := Below.call hB6 hb7
        have hC7 : Below w1.heap.size w1 w7 := Below.call hC6 hb7
        have hD7 : Below w5.heap.size w5 w7 := Below.call hb6 hb7
        rw [HSA.out]
        go_wp2_with fail
        refine (twin_any _ n c L S _ (by omega) (fun i hi => Nat.le_trans (H6.out i hi) (by omega)) (HX.out.below' hB7)).mono ?_
        rintro e w8 ⟨v7, V7, S7, rfl, hO7, hS7, hb8⟩
        have hB8 : Below w.heap.size w w8 := Below.call hB7 hb8
        have hC8 : Below w1.heap.size w1 w8 := Below.call hC7 hb8
        have hD8 : Below w5.heap.size w5 w8 := Below.call hD7 hb8
        have hS8' := hb8.size
        -- the point is set
        obtain ⟨g7, c7, rfl, e7, f7, hg71, hg72, _, _⟩ := Own2.at_ hO7 hr
        obtain ⟨gr, cr, hVr, hgr1, hgr2, _, _⟩ := own_form (hO7.row r hr) (by omega)
        have hOB : OB w8 w7.heap.size gr (L r) cr (S7 r) := by
          have h := hO7.row r hr
          rw [hVr] at h
          exact h
        have c5 := hOB.cell hp
        have f5 := hOB.frozen p
        rw [hVr] at e7
        have hst := (World.ownsRow.stored hOB p (.bool true)).2
        have HO9 : Hid (OS (w8.setCell ⟨gr, p, none⟩ (.bool true)) w7.heap.size (.slice (some ⟨g7, 0, none⟩) n c7) n V7 L (setAt S7 r (upd (S7 r) p true))) :=
          (Own2.turn hO7 hr (by rw [hVr]; exact hst) (ys := bl (L r) (upd (S7 r) p true)) (by rw [hVr]; exact hOB.set p true)).congr fun x hx => by
            by_cases e : x = r
            · subst e; rw [setAt_at, setAt_at]
            · rw [setAt_ne e, setAt_ne e]
        obtain ⟨A7', c7', e7', _, _, hs7⟩ := HO9.out.sets
        cases e7'
        have H7 := Lib.hid hs7
        have hmono7 : ∀ k, k < n → ∀ j, j < L 0 → S k j = true → setAt S7 r (upd (S7 r) p true) k j = true := by
          intro k hk j hj hs
          have h1 : S7 k j = true := by rw [hS7 k hk j (by rw [HL.out k hk]; exact hj)]; exact hs
          by_cases e : k = r
          · subst e
            rw [setAt_at]
            by_cases e2 : j = p
            · subst e2; rw [upd_at]
            · rw [upd_ne e2]; exact h1
          · rw [setAt_ne e]; exact h1
        have HM7 := Lib.hid hmono7
        have hSp : setAt S7 r (upd (S7 r) p true) r p = true := by rw [setAt_at, upd_at]
        have HSp := Lib.hid hSp
        have hB9' : Below w.heap.size w (w8.setCell ⟨gr, p, none⟩ (.bool true)) := hB8.setCell (p := ⟨gr, p, none⟩) (Nat.le_trans hB7.size hgr1) _
        have hC9' : Below w1.heap.size w1 (w8.setCell ⟨gr, p, none⟩ (.bool true)) := hC8.setCell (p := ⟨gr, p, none⟩) (Nat.le_trans hC7.size hgr1) _
        have hD9' : Below w5.heap.size w5 (w8.setCell ⟨gr, p, none⟩ (.bool true)) := hD8.setCell (p := ⟨gr, p, none⟩) (Nat.le_trans hD7.size hgr1) _
        clear hO7 hVr hOB hst hs7 hmono7 hSp hS7 HO9
        go_wp2_with fail
        refine (least_any _ A' n nl c7 c' L (setAt S7 r (upd (S7 r) p true)) F T N Y _ hn hl (H7.out.below' (Below.refl _ _)) (HY.out.below' hB9')).mono ?_
        rintro e w9 ⟨A10, c10, m10, X10, rfl, _, hs10, hok10, _, hb9⟩
        obtain ⟨hm10, hsol10⟩ := hok10 h0.out
        have hm10' := hm10.symm
        subst hm10'
        have hB9 : Below w.heap.size w w9 := Below.call hB9' hb9
        have hC9 : Below w1.heap.size w1 w9 := Below.call hC9' hb9
        have hD9 : Below w5.heap.size w5 w9 := Below.call hD9' hb9
        have H10 := Lib.hid hs10
        have HI10 := Lib.hid (fun i hi => sol_within HL.out H6.out (HS8.out.mono hsol10 HM7.out (fun _ _ q => q)) (i := i) hi)
        have HX10 := Lib.hid (hsol10.has hr (by rw [← HL.out r hr]; exact hp) HSp.out)
        rw [h0.out]
        clear hs10 hok10 hm10 hsol10 e7 f7 c5 f5
        have k9_0 : w9.cell? ⟨w.heap.size, 0, none⟩ = some (.int .i64 cf) := (hC9.cell (p := ⟨w.heap.size, 0, none⟩) hz1_0).trans k1_0
        have k9_1 : w9.cell? ⟨w.heap.size, 1, none⟩ = some (.int .i64 ct) := (hC9.cell (p := ⟨w.heap.size, 1, none⟩) hz1_0).trans k1_1
        have k9_2 : w9.cell? ⟨w.heap.size, 2, none⟩ = some (.int .i64 cn) := (hC9.cell (p := ⟨w.heap.size, 2, none⟩) hz1_0).trans k1_2
        have k9_3 : w9.cell? ⟨w.heap.size, 3, none⟩ = some (.int .u8 cy) := (hC9.cell (p := ⟨w.heap.size, 3, none⟩) hz1_0).trans k1_3
        have U9 := Lib.hid (HY.out.below' hB9)
        go_upto_region 18 with fail
        go_cut [21] (fun s21 wx => ∃ (Ax : Option Addr) (cx : Nat), s21 = .slice Ax (nl + 1) cx ∧ nl + 1 ≤ cx ∧ cx ≤ maxLen ∧ Cons wx Ax (nl + 1) (setAt F nl cf) (setAt T nl ct) (setAt N nl cn) (setAt Y nl cy) ∧ Below w9.heap.size w9 wx)
        case first =>
          have hzw : w.heap.size < w9.heap.size := Nat.lt_of_lt_of_le hz1_0 hC9.size
          go_region_held3 (fun w' => w'.cell? ⟨w.heap.size, 0, none⟩ = some (.int .i64 cf) ∧ w'.cell? ⟨w.heap.size, 1, none⟩ = some (.int .i64 ct) ∧ w'.cell? ⟨w.heap.size, 2, none⟩ = some (.int .i64 cn) ∧ w'.cell? ⟨w.heap.size, 3, none⟩ = some (.int .u8 cy)) (first | go_keep | ((try dsimp only); (repeat' apply And.intro) <;> (first | assumption | (go_simp; done))))
            (first
              | (refine step_append_any _ (by rfl) (.tmp 149) (.tmp 151) _ (by rfl) w9.heap.size 42 i0 _ 4 32 Try.underlying23 hi0 hz0 hz1 hz2 (by rfl) (by omega) v4 (0 + nl) ([] ++ ccells nl F T N Y) (by rfl) (by first | exact hown4 | exact hown4.alloc _)
                   _ (some ⟨_, 0, none⟩) 1 1 [.int .i64 cf, .int .i64 ct, .int .i64 cn, .int .u8 cy] (by rfl) (con_at (by first | (go_simp; done) | exact E4.out _ _ _ (by simp [Value.ownBlock]) (by go_simp)) (by first | (go_simp; done) | exact E4.out _ _ _ (by simp [Value.ownBlock]) (by go_simp)) (by first | (go_simp; done) | exact E4.out _ _ _ (by simp [Value.ownBlock]) (by go_simp)) (by first | (go_simp; done) | exact E4.out _ _ _ (by simp [Value.ownBlock]) (by go_simp))) con_cells (by simp only [maxLen]; omega) (by omega) (by first | omega | (simp; done) | (simp; omega)) ?_
                 intro v5 wz hown5 hg5 hat5
                 have hs5 : wy.heap.size ≤ wz.heap.size := by have := hg5.size; (try simp at this); omega
                 have d0 : wz.cell? ⟨w.heap.size, 0, none⟩ = some (.int .i64 cf) := hg5.cell (by go_simp) (by intro h; have := (hown4.lt _ h.symm).1; (try simp at this); omega)
                 have d1 : wz.cell? ⟨w.heap.size, 1, none⟩ = some (.int .i64 ct) := hg5.cell (by go_simp) (by intro h; have := (hown4.lt _ h.symm).1; (try simp at this); omega)
                 have d2 : wz.cell? ⟨w.heap.size, 2, none⟩ = some (.int .i64 cn) := hg5.cell (by go_simp) (by intro h; have := (hown4.lt _ h.symm).1; (try simp at this); omega)
                 have d3 : wz.cell? ⟨w.heap.size, 3, none⟩ = some (.int .u8 cy) := hg5.cell (by go_simp) (by intro h; have := (hown4.lt _ h.symm).1; (try simp at this); omega)
                 have hB5z : Below w9.heap.size w9 wz := Below.grown (by first | exact hB4y | exact hB4y.alloc (by omega) _) hg5 (by first | omega | (simp; done) | (simp; omega)) (fun g hg => (hown4.lt g hg).1)
                 simp only [Nat.zero_add, List.nil_append, ccells_ext] at hown5
                 obtain ⟨Ax, cx, rfl, hnc, hcm, hT5⟩ := cons_of_own hown5
                 clear hown5 hg5 hat5
                 have H5 := Lib.hid hT5
                 clear hT5)
              | (refine step_append_any _ (by rfl) (.tmp 147) (.tmp 148) _ (by rfl) w9.heap.size 42 i0 _ 4 32 Try.underlying23 hi0 hz0 hz1 hz2 (by rfl) (by omega) (.slice (some ⟨_, 0, none⟩) 0 0) 0 [] (by rfl) (by first | exact made_drew (by simp) (by first | omega | (simp; done) | (simp; omega)) | exact (made_drew (by simp) (by first | omega | (simp; done) | (simp; omega))).alloc _ | exact made_at (by simp) (by first | omega | (simp; done) | (simp; omega)) | exact (made_at (by simp) (by first | omega | (simp; done) | (simp; omega))).alloc _)
                   w9.heap.size A' nl c' (ccells nl F T N Y) (by rfl) (by repeat (first | exact U9.out.reads | exact (U9.out.reads).drew | refine Reads.alloc ?_ (by first | omega | (simp; done) | (simp; omega)) _)) ccells_one (by simp only [maxLen]; omega) (by omega) (by first | omega | (simp; done) | (simp; omega)) ?_
                 intro v4 wy hown4 hg4 hat4
                 have hs4 : w9.heap.size < wy.heap.size := by have := hg4.size; simp at this; omega
                 have hB4y : Below w9.heap.size w9 wy := Below.grown (by repeat (first | exact Below.refl _ _ | (refine Below.alloc ?_ (by first | omega | (simp; done) | (simp; omega)) _) | refine Below.drew ?_)) hg4 (by first | omega | (simp; done) | (simp; omega)) (by simp [Value.ownBlock])
                 have E4 := Lib.hid (fun (g o : Nat) (u : Value) hne h => hg4.cell (a := ⟨g, o, none⟩) (v := u) h hne)
                 have d0 : wy.cell? ⟨w.heap.size, 0, none⟩ = some (.int .i64 cf) := hg4.cell (by go_simp) (by simp [Value.ownBlock]; omega)
                 have d1 : wy.cell? ⟨w.heap.size, 1, none⟩ = some (.int .i64 ct) := hg4.cell (by go_simp) (by simp [Value.ownBlock]; omega)
                 have d2 : wy.cell? ⟨w.heap.size, 2, none⟩ = some (.int .i64 cn) := hg4.cell (by go_simp) (by simp [Value.ownBlock]; omega)
                 have d3 : wy.cell? ⟨w.heap.size, 3, none⟩ = some (.int .u8 cy) := hg4.cell (by go_simp) (by simp [Value.ownBlock]; omega)))
          all_goals
            go_wp2_with fail
            go_meet
            exact ⟨_, _, rfl, hnc, hcm, H5.out, hB5z⟩
        case rest =>
          obtain ⟨Ax, cx, rfl, hnc, hcm, hTc, hE⟩ := hcut
          have HLo := Lib.hid hTc
          have hBc : Below w.heap.size w wc := Below.call hB9 hE
          have hDc : Below w5.heap.size w5 wc := Below.call hD9 hE
          have hnl1 : nl + 1 ≤ maxLen := by simp only [maxLen]; omega
          clear hTc k9_0 k9_1 k9_2 k9_3 hi0 hz0 hz1 hz2
          go_wp2_with fail
          refine (asked_any _ Ax n (nl + 1) c cx L S _ _ _ _ _ hn hnl1 (HX.out.below' hBc) (HLo.out.below' (Below.refl _ _))).mono ?_
          rintro e wd ⟨rfl, hbd⟩
          have hBd : Below w.heap.size w wd := Below.call hBc hbd
          have hDd : Below w5.heap.size w5 wd := Below.call hDc hbd
          have hEd : Below w9.heap.size w9 wd := Below.call hE hbd
          by_cases ha : askV n (nl + 1) L (setAt F nl cf) (setAt T nl ct) = 0
          · rw [ha]
            have HA := Lib.hid ha
            clear ha
            go_wp2_with fail
            refine (least_any _ Ax n (nl + 1) c cx L S _ _ _ _ _ hn hnl1 (HX.out.below' hBd) (HLo.out.below' hbd)).mono ?_
            rintro e we ⟨A11, c11, m11, X11, rfl, _, hs11, hok11, _, hbe⟩
            obtain ⟨hm11, hsol11⟩ := hok11 HA.out
            rw [HA.out]
            have hm11' := hm11.symm
            subst hm11'
            have HI11 := Lib.hid (fun i hi => sol_within HL.out H6.out (sol_longer HS8.out hsol11) (i := i) hi)
            have hBe : Below w.heap.size w we := Below.call hBd hbe
            have hDe : Below w5.heap.size w5 we := Below.call hDd hbe
            have hEe : Below w9.heap.size w9 we := Below.call hEd hbe
            have H11 := Lib.hid hs11
            clear hs11 hok11 hm11 hsol11
            go_wp2
            go_loopw [24] (fun v wr => ∃ i : Nat, i ≤ n ∧ v = .int .i64 i ∧ Below we.heap.size we wr) (fun v _ => n - (intOf v).toNat)
            case atStart => exact ⟨0, by omega, rfl, Below.refl _ _⟩
            case round =>
              obtain ⟨i, hi, rfl, hBr⟩ := hrel
              have hBw := Below.call hBe hBr
              have hDw := Below.call hDe hBr
              have hEw := Below.call hEe hBr
              by_cases hlt : i < n
              · have hdi : decide ((i : Int) < n) = true := by simp; omega
                obtain ⟨b1, off1, rfl, hb1', hcc1⟩ := H8.out (by omega)
                obtain ⟨b2, off2, rfl, hb2', hcc2⟩ := H10.out (by omega)
                obtain ⟨b3, off3, rfl, hb3', hcc3⟩ := H11.out (by omega)
                obtain ⟨R1, C1, e1, hl1, hX1⟩ := hcc1 i hlt
                obtain ⟨R2, C2, e2, hl2, hX2⟩ := hcc2 i hlt
                obtain ⟨R3, C3, e3, hl3, hX3⟩ := hcc3 i hlt
                have d1 := Later.cell ((hDw.cell (p := ⟨b1, _, none⟩) hb1').trans e1) (Nat.lt_of_lt_of_le hb1' hDw.size)
                have d2 := Later.cell ((hEw.cell (p := ⟨b2, _, none⟩) hb2').trans e2) (Nat.lt_of_lt_of_le hb2' hEw.size)
                have d3 := Later.cell ((hBr.cell (p := ⟨b3, _, none⟩) hb3').trans e3) (Nat.lt_of_lt_of_le hb3' hBr.size)
                have W1 := fun y : Later wr => rwithin_any _ _ _ _ C1 C2 _ _ _ hl1 hl2 ((hX1.below' hDw).later y) ((hX2.below' hEw).later y)
                rw [HI10.out i hlt] at W1
                have V1 := Lib.hid W1
                have E1 := Lib.hid e1
                have E3 := Lib.hid e3
                have HX1 := Lib.hid (hX1.below' hDw)
                have HX3 := Lib.hid (hX3.below' hBr)
                clear hcc1 hcc2 hcc3 e1 e2 e3 hX1 hX2 hX3 W1
                go_wp2
                refine wp_region_later (by kernel_rfl) (by kernel_rfl) ?_
                repeat go_big_quiet_step (((go_at_call 17; exact Later.call (V1.out _))))
                refine wpQuiet_nil ?_
                rintro _ ⟨x, rfl⟩
                have hBx : Below we.heap.size we x.wd := hBr.trans (x.below.mono hBr.size)
                have d4 := d1 x
                have d5 := d3 x
                have hz1x : b1 < x.wd.heap.size := Nat.lt_of_lt_of_le (Nat.lt_of_lt_of_le hb1' hDw.size) x.below.size
                have hz3x : b3 < x.wd.heap.size := Nat.lt_of_lt_of_le (Nat.lt_of_lt_of_le hb3' hBr.size) x.below.size
                have X1 := Lib.hid (HX1.out.below' x.below)
                have X3 := Lib.hid (HX3.out.below' x.below)
                clear d1 d2 d3
                obtain ⟨wo, ho⟩ : ∃ wo : World, wo = x.wd := ⟨_, rfl⟩
                rw [← ho] at hBx d4 d5 hz1x hz3x X1 X3 ⊢
                clear ho
                have d1 := Later.cell d4 hz1x
                have d3 := Later.cell d5 hz3x
                have W2 := fun y : Later wo => rwithin_any _ _ _ _ C1 C3 _ _ _ hl1 hl3 (X1.out.later y) (X3.out.later y)
                rw [HI11.out i hlt] at W2
                have V2 := Lib.hid W2
                clear W2 d4 d5
                go_wp2
                refine wp_region_later (by kernel_rfl) (by kernel_rfl) ?_
                repeat go_big_quiet_step (((go_at_call 17; exact Later.call (V2.out _))))
                refine wpQuiet_nil ?_
                rintro _ ⟨x, rfl⟩
                go_wp2
                go_roundw
                case rel => exact ⟨i + 1, by omega, by go_num, hBx.trans (x.below.mono hBx.size)⟩
                case measure => simp [intOf]; omega
              · have hie : i = n := by omega
                subst hie
                have hdi : decide ((i : Int) < i) = false := by simp
                obtain ⟨b2, off2, rfl, hb2', hcc2⟩ := H10.out (by omega)
                obtain ⟨R2, C2, e2, hl2, hX2⟩ := hcc2 r hr
                obtain ⟨bb, oo, rfl, hbb, hcb⟩ := hX2 (by omega)
                have c8 := (hEw.cell (p := ⟨b2, _, none⟩) hb2').trans e2
                have c9 := (hEw.cell (p := ⟨bb, _, none⟩) hbb).trans (hcb p hp)
                rw [HX10.out] at c9
                have q7 : decide ((p : Int) < L r) = true := by simp; omega
                clear hcc2 hcb e2 hX2 hlt
                go_wp2
                go_ret
                exact ⟨rfl, hBw⟩
          · have q6 : (askV n (nl + 1) L (setAt F nl cf) (setAt T nl ct) != 0) = true := by simpa using ha
            clear ha
            go_wp2_with fail
            refine (least_any _ A' n nl c c' L S F T N Y _ hn hl (HX.out.below' hBd) (HY.out.below' hBd)).mono ?_
            rintro e we ⟨A11, c11, m11, X11, rfl, _, hs11, hok11, _, hbe⟩
            obtain ⟨hm11, hsol11⟩ := hok11 h0.out
            rw [h0.out]
            have hm11' := hm11.symm
            subst hm11'
            have HI11 := Lib.hid (fun i hi => sol_within HL.out H6.out (HS8.out.mono hsol11 (fun _ _ _ _ q => q) (fun _ _ q => q)) (i := i) hi)
            have hBe : Below w.heap.size w we := Below.call hBd hbe
            have hDe : Below w5.heap.size w5 we := Below.call hDd hbe
            have hEe : Below w9.heap.size w9 we := Below.call hEd hbe
            have H11 := Lib.hid hs11
            clear hs11 hok11 hm11 hsol11
            go_wp2
            go_loopw [24] (fun v wr => ∃ i : Nat, i ≤ n ∧ v = .int .i64 i ∧ Below we.heap.size we wr) (fun v _ => n - (intOf v).toNat)
            case atStart => exact ⟨0, by omega, rfl, Below.refl _ _⟩
            case round =>
              obtain ⟨i, hi, rfl, hBr⟩ := hrel
              have hBw := Below.call hBe hBr
              have hDw := Below.call hDe hBr
              have hEw := Below.call hEe hBr
              by_cases hlt : i < n
              · have hdi : decide ((i : Int) < n) = true := by simp; omega
                obtain ⟨b1, off1, rfl, hb1', hcc1⟩ := H8.out (by omega)
                obtain ⟨b2, off2, rfl, hb2', hcc2⟩ := H10.out (by omega)
                obtain ⟨b3, off3, rfl, hb3', hcc3⟩ := H11.out (by omega)
                obtain ⟨R1, C1, e1, hl1, hX1⟩ := hcc1 i hlt
                obtain ⟨R2, C2, e2, hl2, hX2⟩ := hcc2 i hlt
                obtain ⟨R3, C3, e3, hl3, hX3⟩ := hcc3 i hlt
                have d1 := Later.cell ((hDw.cell (p := ⟨b1, _, none⟩) hb1').trans e1) (Nat.lt_of_lt_of_le hb1' hDw.size)
                have d2 := Later.cell ((hEw.cell (p := ⟨b2, _, none⟩) hb2').trans e2) (Nat.lt_of_lt_of_le hb2' hEw.size)
                have d3 := Later.cell ((hBr.cell (p := ⟨b3, _, none⟩) hb3').trans e3) (Nat.lt_of_lt_of_le hb3' hBr.size)
                have W1 := fun y : Later wr => rwithin_any _ _ _ _ C1 C2 _ _ _ hl1 hl2 ((hX1.below' hDw).later y) ((hX2.below' hEw).later y)
                rw [HI10.out i hlt] at W1
                have V1 := Lib.hid W1
                have E1 := Lib.hid e1
                have E3 := Lib.hid e3
                have HX1 := Lib.hid (hX1.below' hDw)
                have HX3 := Lib.hid (hX3.below' hBr)
                clear hcc1 hcc2 hcc3 e1 e2 e3 hX1 hX2 hX3 W1
                go_wp2
                refine wp_region_later (by kernel_rfl) (by kernel_rfl) ?_
                repeat go_big_quiet_step (((go_at_call 17; exact Later.call (V1.out _))))
                refine wpQuiet_nil ?_
                rintro _ ⟨x, rfl⟩
                have hBx : Below we.heap.size we x.wd := hBr.trans (x.below.mono hBr.size)
                have d4 := d1 x
                have d5 := d3 x
                have hz1x : b1 < x.wd.heap.size := Nat.lt_of_lt_of_le (Nat.lt_of_lt_of_le hb1' hDw.size) x.below.size
                have hz3x : b3 < x.wd.heap.size := Nat.lt_of_lt_of_le (Nat.lt_of_lt_of_le hb3' hBr.size) x.below.size
                have X1 := Lib.hid (HX1.out.below' x.below)
                have X3 := Lib.hid (HX3.out.below' x.below)
                clear d1 d2 d3
                obtain ⟨wo, ho⟩ : ∃ wo : World, wo = x.wd := ⟨_, rfl⟩
                rw [← ho] at hBx d4 d5 hz1x hz3x X1 X3 ⊢
                clear ho
                have d1 := Later.cell d4 hz1x
                have d3 := Later.cell d5 hz3x
                have W2 := fun y : Later wo => rwithin_any _ _ _ _ C1 C3 _ _ _ hl1 hl3 (X1.out.later y) (X3.out.later y)
                rw [HI11.out i hlt] at W2
                have V2 := Lib.hid W2
                clear W2 d4 d5
                go_wp2
                refine wp_region_later (by kernel_rfl) (by kernel_rfl) ?_
                repeat go_big_quiet_step (((go_at_call 17; exact Later.call (V2.out _))))
                refine wpQuiet_nil ?_
                rintro _ ⟨x, rfl⟩
                go_wp2
                go_roundw
                case rel => exact ⟨i + 1, by omega, by go_num, hBx.trans (x.below.mono hBx.size)⟩
                case measure => simp [intOf]; omega
              · have hie : i = n := by omega
                subst hie
                have hdi : decide ((i : Int) < i) = false := by simp
                obtain ⟨b2, off2, rfl, hb2', hcc2⟩ := H10.out (by omega)
                obtain ⟨R2, C2, e2, hl2, hX2⟩ := hcc2 r hr
                obtain ⟨bb, oo, rfl, hbb, hcb⟩ := hX2 (by omega)
                have c8 := (hEw.cell (p := ⟨b2, _, none⟩) hb2').trans e2
                have c9 := (hEw.cell (p := ⟨bb, _, none⟩) hbb).trans (hcb p hp)
                rw [HX10.out] at c9
                have q7 : decide ((p : Int) < L r) = true := by simp; omega
                clear hcc2 hcb e2 hX2 hlt
                go_wp2
                go_ret
                exact ⟨rfl, hBw⟩
  · go_wp2
    go_ret
    exact ⟨rfl, (by repeat (first | exact hB2 | exact Below.refl _ _ | (refine Below.setCell ?_ (by first | omega | (simp; done) | (simp; omega)) _) | (refine Below.alloc ?_ (by first | omega | (simp; done) | (simp; omega)) _) | refine Below.drew ?_))⟩

theorem more_walk (A A' : Option Addr) (n nl c c' : Nat) (L : Nat → Nat) (S : Nat → Nat → Bool) (F T N Y : Nat → Int) (r p cf ct cn cy : Int) (w : World) (hn : n ≤ maxLen) (hl : nl ≤ maxLen) (hX : Sets w A n L S) (hY : Cons w A' nl F T N Y) :
    Calls Try.prog 5 #[.slice A n c, .slice A' nl c', .int .i64 r, .int .i64 p, .agg #[.int .i64 cf, .int .i64 ct, .int .i64 cn, .int .u8 cy]] w (Ret w (.bool true)) := by
  by_cases h : nl < 80 ∧ askV n nl L F T = 0 ∧ MoreGo n nl L r p
  · obtain ⟨h80, h0, _, r', p', rfl, rfl, hr, hp⟩ := h
    exact more_good A A' n nl c c' r' p' L S F T N Y cf ct cn cy w hn hl hX hY h80 h0 hr hp
  · exact more_skip A A' n nl c c' L S F T N Y r p cf ct cn cy w hn hl hX hY (fun h1 h2 h3 => h ⟨h1, h2, h3⟩)

end Go.Proofs.Ytcdbaoejakcemaa
