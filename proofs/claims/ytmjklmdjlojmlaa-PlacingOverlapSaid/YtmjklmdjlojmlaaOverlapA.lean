/- Places: when two of them overlap, and when one is within another one. No condition. -/
import Derived.Test.YtmjklmdjlojmlaaPlaceA
namespace Go.Proofs.Ytmjklmdjlojmlaa
open Go.RowKit

theorem eq_place (a c e b d f : Int) (x y : Bool) (w : World) : (Op.equalIn 10000 24 (.agg #[.int .i64 a, .bool x, .int .u8 c]) (.agg #[.int .i64 b, .bool y, .int .u8 d])).run Try.prog w = .ok (a == b && (x == y && c == d)) w := by
  have u3 := Try.underlying5
  have a3 := Try.isAgg5
  have z3 := Try.sizeOf5
  have u4 := Try.underlying3
  have a4 := Try.isAgg3
  have z4 := Try.sizeOf3
  have u5 := Try.underlying4
  have a5 := Try.isAgg4
  have z5 := Try.sizeOf4
  have hS : Try.prog.underlying 24 = some (.struct (Try.prog.fieldsOf 24)) := by kernel_rfl
  have hp : Try.prog.stoodInHeld 24 = false := by kernel_rfl
  rw [show (10000 : Nat) = 9999 + 1 from rfl, run_equalIn_agg w 9999 24 _ _ hS hp]
  simp only [Program.fieldsOf, Try.underlying24]
  go_simp
  by_cases h1 : a = b <;> by_cases h2 : c = d <;> cases x <;> cases y <;> simp [h1, h2]

@[go_sem high] theorem eql_place (a c b d : Int) (x y : Bool) (w : World) : (binOp .eql 24 (.agg #[.int .i64 a, .bool x, .int .u8 c]) (.agg #[.int .i64 b, .bool y, .int .u8 d])).run Try.prog w = .ok (.bool (a == b && (x == y && c == d))) w := by
  rw [run_eql_struct, eq_place] <;> first | rfl | exact 0

def maskV (f : Int) : Int := if f = 0 then 3 else f

set_option maxHeartbeats 400000 in
theorem mask_any (l f : Int) (d : Bool) (w : World) :
    Calls Try.prog 31 #[.agg #[.int .i64 l, .bool d, .int .u8 f]] w (Ret w (.int .u8 (maskV f))) := by
  by_cases h1 : f = 0
  · subst h1
    go_enter Try.func31, Try.ntmps31
    go_wp2
    go_ret
    exact ⟨rfl, (by repeat (first | exact Below.refl _ _ | (refine Below.setCell ?_ (by first | omega | (simp; done) | (simp; omega)) _) | (refine Below.alloc ?_ (by first | omega | (simp; done) | (simp; omega)) _) | refine Below.drew ?_))⟩
  · have H := Lib.hid (show maskV f = f from by rw [maskV, if_neg h1])
    have q1 : (f == 0) = false := by simpa using h1
    clear h1
    go_enter Try.func31, Try.ntmps31
    go_wp2
    go_ret
    rw [H.out]
    exact ⟨rfl, (by repeat (first | exact Below.refl _ _ | (refine Below.setCell ?_ (by first | omega | (simp; done) | (simp; omega)) _) | (refine Below.alloc ?_ (by first | omega | (simp; done) | (simp; omega)) _) | refine Below.drew ?_))⟩

set_option maxHeartbeats 400000 in
theorem whole_any (l f : Int) (d : Bool) (w : World) :
    Calls Try.prog 30 #[.agg #[.int .i64 l, .bool d, .int .u8 f]] w (Ret w (.agg #[.int .i64 l, .bool d, .int .u8 0])) := by
  go_enter Try.func30, Try.ntmps30
  go_wp2
  refine bodyPost_ret (by simp [results, Try.results30, go_sem, *]; try rfl) rfl ⟨rfl, ?_⟩
  exact (by repeat (first | exact Below.refl _ _ | (refine Below.setCell ?_ (by first | omega | (simp; done) | (simp; omega)) _) | (refine Below.alloc ?_ (by first | omega | (simp; done) | (simp; omega)) _) | refine Below.drew ?_))

set_option maxHeartbeats 400000 in
theorem check2_ok (l f l2 f2 : Int) (d d2 : Bool) (w : World) (H1 : Hid (plC l f = 0)) (H2 : Hid (plC l2 f2 = 0)) :
    Calls Try.prog 29 #[.agg #[.int .i64 l, .bool d, .int .u8 f], .agg #[.int .i64 l2, .bool d2, .int .u8 f2]] w (Ret w (.int .i64 0)) := by
  have h1 := H1.out
  have h2 := H2.out
  clear H1 H2
  go_enter Try.func29, Try.ntmps29
  have e0 := Later.cell (w := ((w.alloc (.cells #[.int .i64 l, .bool d, .int .u8 f] 24)).alloc (.cells #[.int .i64 l2, .bool d2, .int .u8 f2] 24))) (b := w.heap.size) (o := 0) (v := some (.int .i64 l)) (by go_simp) (by first | omega | (simp; done) | (simp; omega))
  have e1 := Later.cell (w := ((w.alloc (.cells #[.int .i64 l, .bool d, .int .u8 f] 24)).alloc (.cells #[.int .i64 l2, .bool d2, .int .u8 f2] 24))) (b := w.heap.size) (o := 1) (v := some (.bool d)) (by go_simp) (by first | omega | (simp; done) | (simp; omega))
  have e2 := Later.cell (w := ((w.alloc (.cells #[.int .i64 l, .bool d, .int .u8 f] 24)).alloc (.cells #[.int .i64 l2, .bool d2, .int .u8 f2] 24))) (b := w.heap.size) (o := 2) (v := some (.int .u8 f)) (by go_simp) (by first | omega | (simp; done) | (simp; omega))
  have e3 := Later.cell (w := ((w.alloc (.cells #[.int .i64 l, .bool d, .int .u8 f] 24)).alloc (.cells #[.int .i64 l2, .bool d2, .int .u8 f2] 24))) (b := w.heap.size + 1) (o := 0) (v := some (.int .i64 l2)) (by go_simp) (by first | omega | (simp; done) | (simp; omega))
  have e4 := Later.cell (w := ((w.alloc (.cells #[.int .i64 l, .bool d, .int .u8 f] 24)).alloc (.cells #[.int .i64 l2, .bool d2, .int .u8 f2] 24))) (b := w.heap.size + 1) (o := 1) (v := some (.bool d2)) (by go_simp) (by first | omega | (simp; done) | (simp; omega))
  have e5 := Later.cell (w := ((w.alloc (.cells #[.int .i64 l, .bool d, .int .u8 f] 24)).alloc (.cells #[.int .i64 l2, .bool d2, .int .u8 f2] 24))) (b := w.heap.size + 1) (o := 2) (v := some (.int .u8 f2)) (by go_simp) (by first | omega | (simp; done) | (simp; omega))
  go_wp2
  refine wp_region_later (by kernel_rfl) (by kernel_rfl) ?_
  repeat go_big_quiet_step (((go_at_call 32; exact Later.call (placeCheck_any _ _ _ _))))
  refine wpQuiet_nil ?_
  rintro _ ⟨x, rfl⟩
  go_wp2
  go_ret
  exact ⟨rfl, Below.call (by repeat (first | exact Below.refl _ _ | (refine Below.setCell ?_ (by first | omega | (simp; done) | (simp; omega)) _) | (refine Below.alloc ?_ (by first | omega | (simp; done) | (simp; omega)) _) | refine Below.drew ?_)) x.below⟩

/-- Do two valid places of one root overlap; is the one within the other? -/
def ovF (f g : Int) : Bool := (f == 0 || g == 0) || f == g
def inF (f g : Int) : Bool := g == 0 || f == g
def rootB (l l2 : Int) (d d2 : Bool) : Bool := l == l2 && d == d2

set_option maxHeartbeats 1000000 in
theorem over_walk (l f l2 f2 m m2 : Int) (d d2 q r : Bool) (w : World) (H1 : Hid (plC l f = 0)) (H2 : Hid (plC l2 f2 = 0)) (H3 : Hid (maskV f = m)) (H4 : Hid (maskV f2 = m2))
    (hq : (l == l2 && d == d2) = q) (hr : q = false ∨ q = true ∧ (m = 1 ∧ m2 = 1 ∧ r = true ∨ m = 1 ∧ m2 = 2 ∧ r = false ∨ m = 1 ∧ m2 = 3 ∧ r = true ∨ m = 2 ∧ m2 = 1 ∧ r = false ∨ m = 2 ∧ m2 = 2 ∧ r = true ∨ m = 2 ∧ m2 = 3 ∧ r = true ∨ m = 3 ∧ m2 = 1 ∧ r = true ∨ m = 3 ∧ m2 = 2 ∧ r = true ∨ m = 3 ∧ m2 = 3 ∧ r = true)) :
    Calls Try.prog 21 #[.agg #[.int .i64 l, .bool d, .int .u8 f], .agg #[.int .i64 l2, .bool d2, .int .u8 f2]] w (Ret w (.tuple #[.bool (q && r), .int .i64 0])) := by
  have h3 := H3.out
  have h4 := H4.out
  clear H3 H4
  go_enter Try.func21, Try.ntmps21
  go_wp2_with fail
  refine (check2_ok l f l2 f2 d d2 _ H1 H2).mono ?_
  rintro e w1 ⟨rfl, hb1⟩
  have hB1 : Below w.heap.size w w1 := Below.call (by repeat (first | exact Below.refl _ _ | (refine Below.setCell ?_ (by first | omega | (simp; done) | (simp; omega)) _) | (refine Below.alloc ?_ (by first | omega | (simp; done) | (simp; omega)) _) | refine Below.drew ?_)) hb1
  have hS1 : w.heap.size ≤ w1.heap.size := hB1.size
  obtain ⟨hc1, hf1⟩ := bcell hb1
  have hz1_0 : w.heap.size < w1.heap.size := by have := hb1.size; first | omega | (simp at this; omega)
  have hz1_1 : w.heap.size + 1 < w1.heap.size := by have := hb1.size; first | omega | (simp at this; omega)
  have k0 : w1.cell? ⟨w.heap.size, 0, none⟩ = some (.int .i64 l) := by go_simp
  have k1 : w1.cell? ⟨w.heap.size, 1, none⟩ = some (.bool d) := by go_simp
  have k2 : w1.cell? ⟨w.heap.size, 2, none⟩ = some (.int .u8 f) := by go_simp
  have k3 : w1.cell? ⟨w.heap.size + 1, 0, none⟩ = some (.int .i64 l2) := by go_simp
  have k4 : w1.cell? ⟨w.heap.size + 1, 1, none⟩ = some (.bool d2) := by go_simp
  have k5 : w1.cell? ⟨w.heap.size + 1, 2, none⟩ = some (.int .u8 f2) := by go_simp
  clear hc1 hf1
  have d0 := Later.cell k0 hz1_0
  have d1 := Later.cell k1 hz1_0
  have d2' := Later.cell k2 hz1_0
  have d3 := Later.cell k3 hz1_1
  have d4 := Later.cell k4 hz1_1
  have d5 := Later.cell k5 hz1_1
  rcases hr with rfl | ⟨rfl, hr⟩
  · go_wp2
    refine wp_region_later (by kernel_rfl) (by kernel_rfl) ?_
    repeat go_big_quiet_step ((first | (go_at_call 31; exact Later.call (mask_any _ _ _ _)) | (go_at_call 30; exact Later.call (whole_any _ _ _ _))))
    refine wpQuiet_nil ?_
    rintro _ ⟨x, rfl⟩
    go_wp2
    go_ret2
    exact ⟨rfl, Below.call hB1 x.below⟩
  · rcases hr with ⟨rfl, rfl, rfl⟩ | ⟨rfl, rfl, rfl⟩ | ⟨rfl, rfl, rfl⟩ | ⟨rfl, rfl, rfl⟩ | ⟨rfl, rfl, rfl⟩ | ⟨rfl, rfl, rfl⟩ | ⟨rfl, rfl, rfl⟩ | ⟨rfl, rfl, rfl⟩ | ⟨rfl, rfl, rfl⟩
    all_goals
      go_wp2
      refine wp_region_later (by kernel_rfl) (by kernel_rfl) ?_
      repeat go_big_quiet_step ((first | (go_at_call 31; exact Later.call (mask_any _ _ _ _)) | (go_at_call 30; exact Later.call (whole_any _ _ _ _))))
      refine wpQuiet_nil ?_
      rintro _ ⟨x, rfl⟩
      go_wp2
      go_ret2
      exact ⟨rfl, Below.call hB1 x.below⟩

set_option maxHeartbeats 1000000 in
theorem in_walk (l f l2 f2 m m2 : Int) (d d2 q r : Bool) (w : World) (H1 : Hid (plC l f = 0)) (H2 : Hid (plC l2 f2 = 0)) (H3 : Hid (maskV f = m)) (H4 : Hid (maskV f2 = m2))
    (hq : (l == l2 && d == d2) = q) (hr : q = false ∨ q = true ∧ (m = 1 ∧ m2 = 1 ∧ r = true ∨ m = 1 ∧ m2 = 2 ∧ r = false ∨ m = 1 ∧ m2 = 3 ∧ r = true ∨ m = 2 ∧ m2 = 1 ∧ r = false ∨ m = 2 ∧ m2 = 2 ∧ r = true ∨ m = 2 ∧ m2 = 3 ∧ r = true ∨ m = 3 ∧ m2 = 1 ∧ r = false ∨ m = 3 ∧ m2 = 2 ∧ r = false ∨ m = 3 ∧ m2 = 3 ∧ r = true)) :
    Calls Try.prog 22 #[.agg #[.int .i64 l, .bool d, .int .u8 f], .agg #[.int .i64 l2, .bool d2, .int .u8 f2]] w (Ret w (.tuple #[.bool (q && r), .int .i64 0])) := by
  have h3 := H3.out
  have h4 := H4.out
  clear H3 H4
  go_enter Try.func22, Try.ntmps22
  go_wp2_with fail
  refine (check2_ok l f l2 f2 d d2 _ H1 H2).mono ?_
  rintro e w1 ⟨rfl, hb1⟩
  have hB1 : Below w.heap.size w w1 := Below.call (by repeat (first | exact Below.refl _ _ | (refine Below.setCell ?_ (by first | omega | (simp; done) | (simp; omega)) _) | (refine Below.alloc ?_ (by first | omega | (simp; done) | (simp; omega)) _) | refine Below.drew ?_)) hb1
  have hS1 : w.heap.size ≤ w1.heap.size := hB1.size
  obtain ⟨hc1, hf1⟩ := bcell hb1
  have hz1_0 : w.heap.size < w1.heap.size := by have := hb1.size; first | omega | (simp at this; omega)
  have hz1_1 : w.heap.size + 1 < w1.heap.size := by have := hb1.size; first | omega | (simp at this; omega)
  have k0 : w1.cell? ⟨w.heap.size, 0, none⟩ = some (.int .i64 l) := by go_simp
  have k1 : w1.cell? ⟨w.heap.size, 1, none⟩ = some (.bool d) := by go_simp
  have k2 : w1.cell? ⟨w.heap.size, 2, none⟩ = some (.int .u8 f) := by go_simp
  have k3 : w1.cell? ⟨w.heap.size + 1, 0, none⟩ = some (.int .i64 l2) := by go_simp
  have k4 : w1.cell? ⟨w.heap.size + 1, 1, none⟩ = some (.bool d2) := by go_simp
  have k5 : w1.cell? ⟨w.heap.size + 1, 2, none⟩ = some (.int .u8 f2) := by go_simp
  clear hc1 hf1
  have d0 := Later.cell k0 hz1_0
  have d1 := Later.cell k1 hz1_0
  have d2' := Later.cell k2 hz1_0
  have d3 := Later.cell k3 hz1_1
  have d4 := Later.cell k4 hz1_1
  have d5 := Later.cell k5 hz1_1
  rcases hr with rfl | ⟨rfl, hr⟩
  · go_wp2
    refine wp_region_later (by kernel_rfl) (by kernel_rfl) ?_
    repeat go_big_quiet_step ((first | (go_at_call 31; exact Later.call (mask_any _ _ _ _)) | (go_at_call 30; exact Later.call (whole_any _ _ _ _))))
    refine wpQuiet_nil ?_
    rintro _ ⟨x, rfl⟩
    go_wp2
    go_ret2
    exact ⟨rfl, Below.call hB1 x.below⟩
  · rcases hr with ⟨rfl, rfl, rfl⟩ | ⟨rfl, rfl, rfl⟩ | ⟨rfl, rfl, rfl⟩ | ⟨rfl, rfl, rfl⟩ | ⟨rfl, rfl, rfl⟩ | ⟨rfl, rfl, rfl⟩ | ⟨rfl, rfl, rfl⟩ | ⟨rfl, rfl, rfl⟩ | ⟨rfl, rfl, rfl⟩
    all_goals
      go_wp2
      refine wp_region_later (by kernel_rfl) (by kernel_rfl) ?_
      repeat go_big_quiet_step ((first | (go_at_call 31; exact Later.call (mask_any _ _ _ _)) | (go_at_call 30; exact Later.call (whole_any _ _ _ _))))
      refine wpQuiet_nil ?_
      rintro _ ⟨x, rfl⟩
      go_wp2
      go_ret2
      exact ⟨rfl, Below.call hB1 x.below⟩

/-- Both, at valid places of two roots. -/
theorem over_apart_any (l f l2 f2 : Int) (d d2 : Bool) (H1 : plC l f = 0) (H2 : plC l2 f2 = 0) (hq : (l == l2 && d == d2) = false) :
    (∀ W, Calls Try.prog 21 #[.agg #[.int .i64 l, .bool d, .int .u8 f], .agg #[.int .i64 l2, .bool d2, .int .u8 f2]] W (Ret W (.tuple #[.bool false, .int .i64 0])))
    ∧ (∀ W, Calls Try.prog 22 #[.agg #[.int .i64 l, .bool d, .int .u8 f], .agg #[.int .i64 l2, .bool d2, .int .u8 f2]] W (Ret W (.tuple #[.bool false, .int .i64 0]))) :=
  ⟨fun W => over_walk l f l2 f2 _ _ d d2 false true W H1 H2 rfl rfl hq (.inl rfl), fun W => in_walk l f l2 f2 _ _ d d2 false true W H1 H2 rfl rfl hq (.inl rfl)⟩

/-- Both, at valid places of one root. -/
theorem over_same_any (l f f2 : Int) (d : Bool) (H1 : plC l f = 0) (H2 : plC l f2 = 0) (h1 : f = 0 ∨ f = 1 ∨ f = 2) (h2 : f2 = 0 ∨ f2 = 1 ∨ f2 = 2) :
    (∀ W, Calls Try.prog 21 #[.agg #[.int .i64 l, .bool d, .int .u8 f], .agg #[.int .i64 l, .bool d, .int .u8 f2]] W (Ret W (.tuple #[.bool (ovF f f2), .int .i64 0])))
    ∧ (∀ W, Calls Try.prog 22 #[.agg #[.int .i64 l, .bool d, .int .u8 f], .agg #[.int .i64 l, .bool d, .int .u8 f2]] W (Ret W (.tuple #[.bool (inF f f2), .int .i64 0]))) := by
  have hq : (l == l && d == d) = true := by simp
  have C1 := fun r (hr : _) W => over_walk l f l f2 _ _ d d true r W H1 H2 rfl rfl hq (.inr ⟨rfl, hr⟩)
  have C2 := fun r (hr : _) W => in_walk l f l f2 _ _ d d true r W H1 H2 rfl rfl hq (.inr ⟨rfl, hr⟩)
  refine ⟨C1 (ovF f f2) ?_, C2 (inF f f2) ?_⟩
  all_goals
    rcases h1 with rfl | rfl | rfl <;> rcases h2 with rfl | rfl | rfl <;> simp [maskV, ovF, inF]

end Go.Proofs.Ytmjklmdjlojmlaa
