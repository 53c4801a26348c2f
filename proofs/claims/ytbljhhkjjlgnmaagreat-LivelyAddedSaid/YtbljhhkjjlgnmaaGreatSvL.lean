/- A statement more in a block, where its statements lie. No condition. -/
import Derived.Test.YtbljhhkjjlgnmaaGreatN6
namespace Go.Proofs.YtbljhhkjjlgnmaaGreat
open Go.RowKit
set_option linter.unusedVariables false
set_option linter.unusedSimpArgs false

def insAG (F : GFun) (b0 i0 : Nat) (t : GStmt) (y : Option Addr × Nat) : Nat → Nat → Row := fun p i => if p = 0 ∧ i = 0 then ⟨y.1, F.sn b0 + 1, y.2, 26, fun i => ((F.ins b0 i0 t).s b0 i).sc⟩ else ⟨none, 0, 0, 0, fun _ => []⟩
def insAQ (F : GFun) (b0 : Nat) (y : Option Addr × Nat) : Nat → List SC := rUp F.blkC b0 0 [.val (.slice y.1 (F.sn b0 + 1) y.2)]
theorem insA_more {F : GFun} {b0 i0 : Nat} {t : GStmt} {y : Option Addr × Nat} {wc : World} {v : Value} (hs : ∀ b, F.sn b ≤ 9223372036854775807) (hs0 : F.sn b0 ≤ 24) (hF : F.At wc) (hx : XOk ⟨[], chiG (funX F) 4 (insAG F b0 i0 t y), []⟩ ⟨wc, []⟩) (hR : RowIs (chiG (funX F) 4 (insAG F b0 i0 t y)) wc ⟨F.bn, 14, insAQ F b0 y⟩ v) :
    ∃ a cap, v = .slice a F.bn cap ∧ (((F.ins b0 i0 t).withS b0 y.1 y.2).withB a cap).At wc := by
  refine GFun.at_row (F := (F.ins b0 i0 t).withS b0 y.1 y.2) hx hR rfl rfl (fun b hb vs h => ?_) rfl (fun b => ?_) (fun b => ⟨3, b, rfl⟩) hF.l hF.b (fun b => ?_) hF.j
  · simp only [insAQ, rUp] at h
    by_cases hbb : b = b0
    · rw [if_pos hbb] at h
      match vs, h with
      | [v0, v1, v2, v3, v4, v5, v6, v7, v8, v9, v10, v11, v12, v13], ⟨h0, h1, h2, h3, h4, h5, h6, h7, h8, h9, h10, h11, h12, h13, _⟩ =>
        refine ⟨?_, h1, h2, h3, h4, h5, h6, h7, h8, h9, h10, h11, h12, h13, trivial⟩
        have h0 : v0 = .slice y.1 (F.sn b0 + 1) y.2 := h0
        show v0 = .slice (if b = b0 then y.1 else F.sA b) (if b = b0 then F.sn b + 1 else F.sn b) (if b = b0 then y.2 else F.sc b)
        rw [h0, if_pos hbb, if_pos hbb, if_pos hbb, hbb]
    · rw [if_neg hbb] at h
      match vs, h with
      | [v0, v1, v2, v3, v4, v5, v6, v7, v8, v9, v10, v11, v12, v13], ⟨h0, h1, h2, h3, h4, h5, h6, h7, h8, h9, h10, h11, h12, h13, _⟩ =>
        refine ⟨?_, h1, h2, h3, h4, h5, h6, h7, h8, h9, h10, h11, h12, h13, trivial⟩
        have h0 : v0 = .slice (F.sA b) (F.sn b) (F.sc b) := h0
        show v0 = .slice (if b = b0 then y.1 else F.sA b) (if b = b0 then F.sn b + 1 else F.sn b) (if b = b0 then y.2 else F.sc b)
        rw [h0, if_neg hbb, if_neg hbb, if_neg hbb]
  · by_cases hbb : b = b0
    · refine ⟨4, 0, ?_⟩
      rw [chiG_ge (Nat.le_refl _)]
      show insAG F b0 i0 t y 0 0 = (⟨if b = b0 then y.1 else F.sA b, if b = b0 then F.sn b + 1 else F.sn b, if b = b0 then y.2 else F.sc b, 26, fun i => ((F.ins b0 i0 t).s b i).sc⟩ : Row)
      rw [if_pos hbb, if_pos hbb, if_pos hbb, hbb]
      simp only [insAG, and_self, if_true]
    · refine ⟨2, b, ?_⟩
      rw [chiG_lt (by omega)]
      show (⟨F.sA b, F.sn b, F.sc b, 26, fun i => (F.s b i).sc⟩ : Row) = (⟨if b = b0 then y.1 else F.sA b, if b = b0 then F.sn b + 1 else F.sn b, if b = b0 then y.2 else F.sc b, 26, fun i => (if b = b0 then (if i < i0 then F.s b i else if i = i0 then t else F.s b (i - 1)) else F.s b i).sc⟩ : Row)
      simp only [if_neg hbb]
  · show (if b = b0 then F.sn b + 1 else F.sn b) ≤ _
    split
    · rename_i e; rw [e]; omega
    · exact hs b
theorem insA_moved {F : GFun} {b0 i0 : Nat} {t : GStmt} {y : Option Addr × Nat} {a : Option Addr} {cap : Nat} : (((F.ins b0 i0 t).withS b0 y.1 y.2).withB a cap) = (F.ins b0 i0 t).moved F.lA F.lc a cap (fun b => if b = b0 then y.1 else F.sA b) (fun b => if b = b0 then y.2 else F.sc b) F.jA F.jc := rfl
theorem insA_ok {F : GFun} {b0 i0 : Nat} {t : GStmt} {y : Option Addr × Nat} {a : Option Addr} {cap : Nat} (h : (F.ins b0 i0 t).Ok) : (((F.ins b0 i0 t).withS b0 y.1 y.2).withB a cap).Ok := by
  rw [insA_moved]; exact (fchkV_moved ..).trans h
theorem insA_check {F : GFun} {b0 i0 : Nat} {t : GStmt} {y : Option Addr × Nat} {wc : World} {v : Value} (hs0 : F.sn b0 ≤ 24) (hF : F.At wc) (hK : F.Ty8) (hx : XOk ⟨[], chiG (funX F) 4 (insAG F b0 i0 t y), []⟩ ⟨wc, []⟩) (hR : RowIs (chiG (funX F) 4 (insAG F b0 i0 t y)) wc ⟨F.bn, 14, insAQ F b0 y⟩ v) :
    Calls Tryz.prog 23 #[.agg #[.int .i64 F.pa, .bool F.un, .slice F.lA F.ln F.lc, v]] wc (Ret wc (.int .i64 (rchkV (F.ins b0 i0 t)))) := by
  obtain ⟨a, cap, rfl, hA⟩ := insA_more hF.s hs0 hF hx hR
  have := rFnChk _ wc hA hK
  rw [insA_moved, rchkV_moved] at this
  exact this
end Go.Proofs.YtbljhhkjjlgnmaaGreat
