/- Layer 11 of the program: which points are reached. No condition. -/
import Derived.Test.YtbljhhkjjlgnmaaGrF
namespace Go.Proofs.Ytbljhhkjjlgnmaa
open Go.RowKit
set_option linter.unusedVariables false
set_option linter.unusedSimpArgs false

def visP (F : GFun) (S : Nat → Bool) (T : List Nat) (k : Nat) : (Nat → Bool) × List Nat := ((leadsN F (T.getD 0 0)).take k).foldl visit (S, T.tail)
theorem visP_zero (F : GFun) (S : Nat → Bool) (T : List Nat) : visP F S T 0 = (S, T.tail) := by simp [visP]
theorem visP_succ {F : GFun} {S : Nat → Bool} {T : List Nat} {k : Nat} (hk : k < (leadsN F (T.getD 0 0)).length) : visP F S T (k + 1) = visit (visP F S T k) ((leadsN F (T.getD 0 0)).getD k 0) := by
  have key : ∀ (L : List Nat) (x : (Nat → Bool) × List Nat), k < L.length → (L.take (k + 1)).foldl visit x = visit ((L.take k).foldl visit x) (L.getD k 0) := fun L x hk => by
    rw [List.take_add_one, List.foldl_append]
    simp only [List.getElem?_eq_getElem hk, Option.toList_some, List.foldl_cons, List.foldl_nil, List.getD, Option.getD_some]
  exact key _ _ hk
theorem visP_end (F : GFun) (S : Nat → Bool) (b : Nat) (T : List Nat) : visP F S (b :: T) (leadsN F b).length = (leadsN F b).foldl visit (S, T) := by
  simp [visP]
theorem tail_getD (T : List Nat) (j : Nat) : T.tail.getD j 0 = T.getD (j + 1) 0 := by
  cases T <;> simp [List.getD]
theorem unmet_nonneg_le (S : Nat → Bool) (m : Nat) : unmet S m ≤ m := unmet_le S m
theorem visP_size {F : GFun} {S : Nat → Bool} {b : Nat} {T : List Nat} (k : Nat) (hl : ∀ n ∈ leadsN F b, n < F.bn) : unmet (visP F S (b :: T) k).1 F.bn + (visP F S (b :: T) k).2.length = unmet S F.bn + T.length := by
  have := visit_size F.bn ((leadsN F b).take k) (S, T) (fun n hn => hl n (List.mem_of_mem_take hn))
  simpa [visP] using this
theorem leadsN_lt {F : GFun} (hO : F.Ok) {b : Nat} (hb : b < F.bn) : ∀ n ∈ leadsN F b, n < F.bn := fun n hn => by
  obtain ⟨m, hm, rfl⟩ := List.mem_map.1 hn
  have := hO.lead hb m hm
  omega
theorem intR_leads {F : GFun} (hO : F.Ok) {b : Nat} (hb : b < F.bn) : intR (F.jump b).leads = ⟨(leadsN F b).length, 1, fun j => [.int .i64 (.ofNat ((leadsN F b).getD j 0))]⟩ := by
  rw [intR, leadsN, List.length_map]
  congr 1
  funext j
  by_cases hj : j < (F.jump b).leads.length
  · have h2 := hO.lead hb _ (List.getElem_mem hj)
    have e : (F.jump b).leads[j] = Int.ofNat (F.jump b).leads[j].toNat := by simp only [Int.ofNat_eq_natCast]; omega
    simp only [List.getD, List.getElem?_map, List.getElem?_eq_getElem hj, Option.map_some, Option.getD_some]
    rw [← e]
  · simp only [List.getD, List.getElem?_map, List.getElem?_eq_none (show (F.jump b).leads.length ≤ j by omega), Option.map_none, Option.getD_none]
    rfl
theorem le_gt {t : Nat} {L : List Nat} (h : L.length = t) : 0 < t → ∃ b T, L = b :: T := fun h0 => by
  cases L with
  | nil => simp at h; omega
  | cons b T => exact ⟨b, T, rfl⟩

noncomputable def reachR (F : GFun) (N : Nat) : ORow := ⟨N, 1, fun j => [.bool (reachB F (pbN F j))]⟩


end Go.Proofs.Ytbljhhkjjlgnmaa
