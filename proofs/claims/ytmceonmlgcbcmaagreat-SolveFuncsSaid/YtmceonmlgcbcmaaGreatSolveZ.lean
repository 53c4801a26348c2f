/- SolveFuncs: the regions of a function are a solution of its constraints, the walk. No condition. -/
import Derived.Test.YtmceonmlgcbcmaaGreatSolveX
import Derived.Test.YtmceonmlgcbcmaaGreatS5
namespace Go.Proofs.YtmceonmlgcbcmaaGreat
open Go.RowKit
set_option linter.unusedVariables false
set_option linter.unusedSimpArgs false
theorem sol_self {n N nl : Nat} {F T : Nat → Int} {S : Nat → Nat → Bool} : IsSol n N nl F T S (solF n nl F T S) := fun k hk j hj => by
 unfold solF
 simp only [decide_eq_true_eq]
theorem con_refF {F : GFun} {i : Nat} (hi : i < (allCon F).length) (h1 : conF F i < F.ln) : isRefK (F.lk (conF F i).toNat) = true := by
 obtain ⟨a, h⟩ := @conTo_at F (n := stN F.sn F.bn) i (by rw [← allCon_to]; exact hi)
 rw [← allCon_to] at h
 unfold conF at h1 ⊢
 rcases h.ok.why with ⟨_, h2, _⟩ | ⟨_, _, _, _, h2⟩ | ⟨_, _, _, _, _, _, h2, _⟩
 · rw [h2] at h1
   simp only [Int.ofNat_eq_natCast] at h1
   omega
 · exact h2
 · exact h2
theorem reg_bare {F : GFun} (hO : F.Ok) {k j : Nat} (hk : k < F.ln) (hj : j < stN F.sn F.bn) (hr : isRefK (F.lk k) = false) : regF F k j = false := by
 have hkn : k < regN F := by unfold regN; omega
 cases h : regF F k j with
 | false => rfl
 | true =>
   obtain ⟨i, hi, hl, hs⟩ := (@sol_self (regN F) (stN F.sn F.bn) (allCon F).length (conF F) (conT F) (owB F) k hkn j hj).1 h
   cases hl with
   | refl =>
     unfold owB at hs
     rw [hr] at hs
     simp at hs
   | step c hc _ e =>
     have f := con_fit hO c hc
     have := con_refF hc (by omega)
     rw [this] at hr; cases hr
theorem reg_loan {F : GFun} (hO : F.Ok) {a k : Nat} (ha : k < (loanPts F (stN F.sn F.bn)).length) (hn : (loanPts F (stN F.sn F.bn)).getD k 0 = a) (hw : wholeP (stAt F a).p = true) :
 ∀ j, j < stN F.sn F.bn → regF F (stAt F a).p.l.toNat j = true → regF F (F.ln + k) j = true := by
 obtain ⟨⟨g1, g2, g3⟩, hk⟩ := loanPts_ix _ k ha hn
 have haN : a < stN F.sn F.bn := by
  rcases Nat.lt_or_ge a (stN F.sn F.bn) with h | h
  · exact h
  · exfalso
    have : ∀ n i, i < (loanPts F n).length → (loanPts F n).getD i 0 < n := fun n => by
     induction n with
     | zero => intro i hi; simp [loanPts] at hi
     | succ n ih =>
       intro i hi
       simp only [loanPts] at hi ⊢
       by_cases g : i < (loanPts F n).length
       · rw [getD_app _ _ _ g]; have := ih i g; omega
       · obtain ⟨j, rfl⟩ : ∃ j, i = (loanPts F n).length + j := ⟨i - (loanPts F n).length, by omega⟩
         rw [getD_app2]
         rw [List.length_append] at hi
         split at hi
         · rename_i q
           simp only [List.length_cons, List.length_nil] at hi
           have : j = 0 := by omega
           subst this
           rw [if_pos q]; simp
         · simp only [List.length_nil] at hi; omega
    have := this _ k ha
    omega
 have hm : (⟨.ofNat (F.ln + (loanPts F a).length), (stAt F a).p.l, .ofNat a, 2⟩ : KCon) ∈ conN F a := by
  unfold conN
  rw [if_pos ⟨g1, g2⟩]
  unfold ofL
  rw [if_pos (show (stAt F a).p.whole = true from hw), if_pos (by rw [g3]; rfl)]
  exact List.mem_cons_self
 have hm2 : ∀ n, a < n → (⟨.ofNat (F.ln + (loanPts F a).length), (stAt F a).p.l, .ofNat a, 2⟩ : KCon) ∈ conTo F n := fun n => by
  induction n with
  | zero => intro h; omega
  | succ n ih =>
    intro h
    simp only [conTo, List.mem_append]
    by_cases g : a < n
    · exact .inl (ih g)
    · have : a = n := by omega
      subst this
      exact .inr hm
 have hm3 := hm2 _ haN
 rw [← allCon_to] at hm3
 obtain ⟨i, hi, he⟩ := List.mem_iff_getElem.1 hm3
 have e : (allCon F).getD i .zero = ⟨.ofNat (F.ln + (loanPts F a).length), (stAt F a).p.l, .ofNat a, 2⟩ := by
  simp only [List.getD, List.getElem?_eq_getElem hi, Option.getD_some]; exact he
 intro j hj h
 have hc := (@sol_self (regN F) (stN F.sn F.bn) (allCon F).length (conF F) (conT F) (owB F)).closed (con_fit hO) i hi j hj
 have eF : conF F i = .ofNat (F.ln + k) := by unfold conF; rw [e, hk]
 have eT : conT F i = (stAt F a).p.l := by unfold conT; rw [e]
 rw [eF, eT] at hc
 exact hc h
theorem bits_xok {c : Nat → Nat → Row} {w : World} (hx : XOk ⟨[], c, []⟩ ⟨w, []⟩) {q i n cap : Nat} {a : Option Addr} {f : Nat → Bool} (h : c q i = ⟨a, n, cap, 1, fun j => [.bool (f j)]⟩) : Bits w a n f := by
 intro hn
 have hx' := fun j (hj : j < n) => hx q i j (by simp only [h]; exact hj)
 simp only [h] at hx'
 obtain ⟨b, p, e, l, _⟩ := hx' 0 hn
 refine ⟨b, p, e, l, fun j hj => ?_⟩
 obtain ⟨b3, p3, e3, _, _, vs, f4, f5⟩ := hx' j hj
 rw [e] at e3; cases e3
 match vs, f4 with
 | [u], ⟨f4, _⟩ =>
   have f4 : u = .bool (f j) := f4
   subst f4
   simpa using f5 0 _ rfl
theorem cnt_none {f : Nat → Bool} : ∀ n, (∀ j, j < n → f j = false) → cntS f n = 0
 | 0, _ => rfl
 | n + 1, h => by rw [cntS, cnt_none n (fun j hj => h j (by omega)), if_neg (by rw [h n (by omega)]; decide)]
theorem size18Z {c : Nat → Nat → Row} {w : World} (hx : XOk ⟨[], c, []⟩ ⟨w, []⟩) (q i n cap : Nat) (a : Option Addr) (f : Nat → Bool) (hn : n ≤ 600) (h : c q i = ⟨a, n, cap, 1, fun j => [.bool (f j)]⟩) (hf : ∀ j, j < n → f j = false) :
 Calls Tryz.prog 48 #[.slice a n cap] w (Ret w (.int .i64 0)) := by
 have := sizeS_any a n cap f w (by unfold maxLen; omega) (bits_xok hx h)
 rw [cnt_none n hf] at this
 exact this
theorem within18T {c : Nat → Nat → Row} {w : World} (hx : XOk ⟨[], c, []⟩ ⟨w, []⟩) (q i q' i' n cap cap' : Nat) (a a' : Option Addr) (f g : Nat → Bool) (hn : n ≤ 600) (h : c q i = ⟨a, n, cap, 1, fun j => [.bool (f j)]⟩) (h' : c q' i' = ⟨a', n, cap', 1, fun j => [.bool (g j)]⟩) (hf : ∀ j, j < n → f j = true → g j = true) :
 Calls Tryz.prog 51 #[.slice a n cap, .slice a' n cap'] w (Ret w (.tuple #[.bool true, .int .i64 0])) := by
 have := rwithin_any a a' n n cap cap' f g w (by unfold maxLen; omega) (by unfold maxLen; omega) (bits_xok hx h) (bits_xok hx h')
 rw [wiE_ok hn, show wiB n n f g = true by unfold wiB withinB; rw [wiE_ok hn, decide_eq_true hf]; rfl] at this
 exact this
theorem holdsX (n nl N : Nat) (S Z : Nat → Nat → Bool) (F T Nn Y : Nat → Int) (w : World) (c : Nat → Nat → Row) (v v' v2 : Value) (B C : AdF) (hx : XOk ⟨[], c, []⟩ ⟨w, []⟩) (hB : ∀ j, j < n → ∃ q i, c q i = ⟨(B j).1, N, (B j).2, 1, fun k => [.bool (S j k)]⟩) (hC : ∀ j, j < n → ∃ q i, c q i = ⟨(C j).1, N, (C j).2, 1, fun k => [.bool (Z j k)]⟩)
 (hn : n ≤ 592) (hl : nl ≤ 1152) (hN : N ≤ 600) (hF : FitS n nl F T) (hZ : IsSol n N nl F T S Z) (hR : RowIs c w ⟨n, 1, fun j => [.val (.slice (B j).1 N (B j).2)]⟩ v) (hR' : RowIs c w ⟨nl, 4, fun j => [.int .i64 (F j), .int .i64 (T j), .int .i64 (Nn j), .int .u8 (Y j)]⟩ v') (hR2 : RowIs c w ⟨n, 1, fun j => [.val (.slice (C j).1 N (C j).2)]⟩ v2) :
 Calls Tryz.prog 43 #[v, v', v2] w (Ret w (.tuple #[.bool true, .int .i64 0])) := by
 obtain ⟨a, cap, rfl, hX⟩ := sets_row hx hR hB (by unfold maxLen; omega)
 obtain ⟨a', cap', rfl, hY⟩ := cons_row hR'
 obtain ⟨a2, cap2, rfl, hX2⟩ := sets_row hx hR2 hC (by unfold maxLen; omega)
 have := holds_any a a' a2 n nl n cap cap' cap2 (fun _ => N) (fun _ => N) S Z F T Nn Y w (by unfold maxLen; omega) (by unfold maxLen; omega) (by unfold maxLen; omega) hX hY hX2
 have e : askV n nl (fun _ => N) F T = 0 := ask_ok hn hl (fun _ _ => hN) (fun _ _ => rfl) hF
 rw [holdB_ok e, e] at this
 have e2 : rightSB n nl n (fun _ => N) (fun _ => N) F T S Z = true := by
  unfold rightSB withinB
  simp only [Bool.and_eq_true, decide_eq_true_eq]
  refine ⟨⟨trivial, fun i hi => ⟨trivial, fun j hj hs => hZ.has hi hj hs⟩⟩, fun i hi j hj h => hZ.closed hF i hi j hj h⟩
 rw [e2] at this
 exact this
attribute [local irreducible] Calls
theorem wSolveZ_1 {p : Prop} (h : p := by (first | (cbv; (try simp only [true_and, and_true]); (try ((repeat' apply And.intro) <;> (first | trivial | rfl | exact RowLe.rfl' _ | decide | (rw [wrap_nat har _ (by omega)]; done) | ((rw [wrap_nat har i (by have h9 : i < rN := (by assumption); omega)])) | ((rw [wrap_nat har j (by have h9 : j < P := (by assumption); omega)])) | fail))); done) | fail)) : Pf p := ⟨h⟩
set_option maxRecDepth 100000 in
set_option maxHeartbeats 8000000 in
theorem funcsL (F : GFun) (w : World) (hF : F.At w) (hK : F.Ty8) (hD : F.Fd) :
 Calls Tryz.prog 8 #[F.val] w (Ret w (.bool true)) := by
 have h1 (wc : World) (hk : KB ⟨w, []⟩ wc) := greatC F wc (hF.later hk)
 have h2 (wc : World) (hk : KB ⟨w, []⟩ wc) := gfC F wc (hF.later hk)
 have h2b (wc : World) (hk : KB ⟨w, []⟩ wc) := rFnChk F wc (hF.later hk) hK
 generalize greatB F = q1 at h1
 generalize gfB F = q2 at h2
 rw [rchk_eq] at h2b
 by_cases hO : fchkV F = 0
 case neg =>
  generalize fchkV F = z at h2b hO
  have hq : decide (z = 0) = false := decide_eq_false hO
  clear hK hO hD
  obtain ⟨pa, un, lA, ln, lc, lk, lt, bA, bn, bc, sA, sn, sc, s, jA, jn, jc, ja, jk, jo, jf, jx, je, jd⟩ := F
  obtain ⟨hX, hl, hb, hs, hj⟩ := hF
  simp only at hl hb hs hj
  refine go_start (args := [.pt (.agg (GFun.dat _))]) (c := (funX _)) Tryz.func8 rfl hX rfl rfl ?_
  obtain ⟨nd, hnd, nt, hnt, ar, har, cm, hcm, mx, hmx, mn, hmn, ar01, ar12, zpl, hzpl, zjn, hzjn, zup, hzup, zmi, hzmi, zdp, hzdp, hT⟩ := t0_all
  repeat' (first
   | refine go1 ?_ | refine gobt ?_ | refine gobn ?_ | refine go3 (fun hlt => ?_) (fun hge => ?_) | refine go2 (fun h => ?_) (fun h => ?_) | exact go0 | refine god ?_ | refine gof ?_ | refine gob ?_ | (with_reducible refine fork_cons ?_ ?_)
   | ((with_reducible apply go_call (f := 44) (hf := Tryz.call44)); (· (cbv; try rfl)); (· intro wc hbc hxc; exact alive_any wc))
   | ((with_reducible apply go_callq (f := 44) (hf := Tryz.call44)); (· (cbv; try rfl)); (· intro wc hbc hxc; exact alive_any wc))
   | ((with_reducible apply go_call_bool (f := 24) (hf := Tryz.call24)); (· (cbv; try rfl)); (· intro wc hbc hxc; exact h1 wc hbc); intro z hz)
   | ((with_reducible apply go_callq_bool (f := 24) (hf := Tryz.call24)); (· (cbv; try rfl)); (· intro wc hbc hxc; exact h1 wc hbc); intro z hz)
   | ((with_reducible apply go_call_bool (f := 25) (hf := Tryz.call25)); (· (cbv; try rfl)); (· intro wc hbc hxc; exact h2 wc hbc); intro z hz)
   | ((with_reducible apply go_callq_bool (f := 25) (hf := Tryz.call25)); (· (cbv; try rfl)); (· intro wc hbc hxc; exact h2 wc hbc); intro z hz)
   | ((with_reducible apply go_call (f := 36) (hf := Tryz.call36)); (· (cbv; try rfl)); (· intro wc hbc hxc; exact h2b wc hbc))
   | ((with_reducible apply go_callq (f := 36) (hf := Tryz.call36)); (· (cbv; try rfl)); (· intro wc hbc hxc; exact h2b wc hbc))
   | fail)
  all_goals rfl
 rw [hO] at h2b
 have hO : F.Ok := hO
 have h30 (wc : World) (hk : KB ⟨w, []⟩ wc) := regionsC F wc (hF.later hk) hO hD
 have h40 (wc : World) (hk : KB ⟨w, []⟩ wc) := clivesC F wc (hF.later hk) hO hD
 have h50 (wc : World) (hk : KB ⟨w, []⟩ wc) {c : Nat → Nat → Row} := Calls.to (c' := c) (conPlain _) rfl (allConC F wc (hF.later hk) hO.small hO.nearS hO.chk)
 have h60 (wc : World) (hk : KB ⟨w, []⟩ wc) {c : Nat → Nat → Row} := Calls.to (c' := c) (r := [natR (loanPts F (stN F.sn F.bn))]) ⟨fun _ _ => rfl, trivial⟩ rfl (loanPtsC F wc (hF.later hk) hO.small)
 have h80 (wc : World) (hk : KB ⟨w, []⟩ wc) := sizeC F wc (hF.later hk) hO.small
 have h90 := fun (wc : World) (c : Nat → Nat → Row) (v v' v2 : Value) (B C : AdF) hx hB hC => holdsX (regN F) (allCon F).length (stN F.sn F.bn) (owB F) (regF F) (conF F) (conT F) (fun j => ((allCon F).getD j .zero).at_) (fun j => ((allCon F).getD j .zero).why) wc c v v' v2 B C hx hB hC (regN_le hO).2 hO.cons hO.pts (con_fit hO) sol_self
 have hs0 (wc : World) (hk : KB ⟨w, []⟩ wc) (n : Nat) (hn : n < stN F.sn F.bn) := stmtN F wc (hF.later hk) hO.small n hn
 have hrf0 (wc : World) (hk : KB ⟨w, []⟩ wc) (l : Nat) (hl : l < F.ln) := rRef19C F (.ofNat l) wc (hF.later hk) (Int.natCast_nonneg l) (Int.ofNat_lt.2 hl)
 have hbare := @reg_bare F hO
 have hloan := @reg_loan F hO
 have hlix : ∀ k, k < (loanPts F (stN F.sn F.bn)).length → (isAt F ((loanPts F (stN F.sn F.bn)).getD k 0) = true ∧ (stAt F ((loanPts F (stN F.sn F.bn)).getD k 0)).k = 1) ∧ (loanPts F (stN F.sn F.bn)).getD k 0 < stN F.sn F.bn := fun k hk => by
  obtain ⟨⟨g1, g2, g3⟩, hk2⟩ := loanPts_ix _ k hk rfl
  refine ⟨⟨g1, g2⟩, ?_⟩
  have : ∀ n i, i < (loanPts F n).length → (loanPts F n).getD i 0 < n := fun n => by
   induction n with
   | zero => intro i hi; simp [loanPts] at hi
   | succ n ih =>
     intro i hi
     simp only [loanPts] at hi ⊢
     by_cases g : i < (loanPts F n).length
     · rw [getD_app _ _ _ g]; have := ih i g; omega
     · obtain ⟨j, rfl⟩ : ∃ j, i = (loanPts F n).length + j := ⟨i - (loanPts F n).length, by omega⟩
       rw [getD_app2]
       rw [List.length_append] at hi
       split at hi
       · rename_i q
         simp only [List.length_cons, List.length_nil] at hi
         have : j = 0 := by omega
         subst this
         rw [if_pos q]; simp
       · simp only [List.length_nil] at hi; omega
  exact this _ k hk
 have hnear : ∀ k, k < (loanPts F (stN F.sn F.bn)).length → 0 ≤ (stAt F ((loanPts F (stN F.sn F.bn)).getD k 0)).p.l ∧ (stAt F ((loanPts F (stN F.sn F.bn)).getD k 0)).p.l < F.ln := fun k hk => (hO.nearAt (hlix k hk).2 (hlix k hk).1.1 (hlix k hk).1.2).1
 have hN9 := hO.pts
 have hN0 := pts_pos hO
 have hl16 := hO.ln16
 have hP9 := (regN_le hO).1
 have hRN : regN F = F.ln + (loanPts F (stN F.sn F.bn)).length := rfl
 obtain ⟨rN, hrN⟩ : ∃ x, x = regN F := ⟨_, rfl⟩
 obtain ⟨P, hP⟩ : ∃ P, P = (loanPts F (stN F.sn F.bn)).length := ⟨_, rfl⟩
 obtain ⟨lp, hlp⟩ : ∃ f : Nat → Nat, f = fun j => (loanPts F (stN F.sn F.bn)).getD j 0 := ⟨_, rfl⟩
 obtain ⟨N, hN⟩ : ∃ N, N = stN F.sn F.bn := ⟨_, rfl⟩
 obtain ⟨M, hM⟩ : ∃ M, M = (allCon F).length := ⟨_, rfl⟩
 obtain ⟨fr, hfr⟩ : ∃ f : Nat → Int, f = conF F := ⟨_, rfl⟩
 obtain ⟨tn, htn⟩ : ∃ f : Nat → Int, f = conT F := ⟨_, rfl⟩
 obtain ⟨an, han⟩ : ∃ f : Nat → Int, f = fun j => ((allCon F).getD j .zero).at_ := ⟨_, rfl⟩
 obtain ⟨wy, hwy⟩ : ∃ f : Nat → Int, f = fun j => ((allCon F).getD j .zero).why := ⟨_, rfl⟩
 obtain ⟨ox, hox⟩ : ∃ f : Nat → Nat → Bool, f = owB F := ⟨_, rfl⟩
 obtain ⟨rf, hrf⟩ : ∃ f : Nat → Nat → Bool, f = regF F := ⟨_, rfl⟩
 obtain ⟨nr, hnr⟩ : ∃ f : Nat → Nat, f = nnN (regN F) (stN F.sn F.bn) := ⟨_, rfl⟩
 obtain ⟨sa, hsa⟩ : ∃ f : Nat → GStmt, f = fun k => stAt F ((loanPts F (stN F.sn F.bn)).getD k 0) := ⟨_, rfl⟩
 obtain ⟨rk, hrk⟩ : ∃ f : Nat → Bool, f = fun l => isRef (F.lk l) := ⟨_, rfl⟩
 obtain ⟨wp, hwp⟩ : ∃ f : Int → Bool → Int → Bool, f = fun l d f => wholeP ⟨l, d, f⟩ := ⟨_, rfl⟩
 obtain ⟨tg, th, tu, htg, t0, tp, tz, k3, k4, hup, hu1, hu2, huN, tN⟩ := famLetters N ox
 obtain ⟨sK, hsK⟩ : ∃ f : Nat → Nat, f = fun k => F.ln + k := ⟨_, rfl⟩
 have hs0K : sK 0 = F.ln := by rw [hsK] <;> rfl
 have hs1K : ∀ k, sK (k + 1) = sK k + 1 := fun k => by rw [hsK] <;> rfl
 have hsE : ∀ k, sK k = F.ln + k := fun k => by rw [hsK]
 have hz : ∀ i j, ox (F.ln + i) j = false := fun i j => by rw [hox]; unfold owB; rw [decide_eq_false (by omega)]; rfl
 have hpk : ∀ k, k < P → 0 ≤ (sa k).p.l ∧ (sa k).p.l < F.ln := fun k hk => by rw [hsa]; exact hnear k (hP ▸ hk)
 have hnl : ∀ i, i < rN → nr i = N := fun i hi => by rw [hnr, hN]; exact nnN_lt (hrN ▸ hi)
 have hbare : ∀ k, k < F.ln → rk k = false → ∀ j, j < N → rf k j = false := fun k hk hr j hj => by
  rw [hrf]; rw [hrk] at hr; exact hbare hk (hN ▸ hj) hr
 have hloan : ∀ k, k < P → wp (sa k).p.l (sa k).p.d (sa k).p.f = true → ∀ j, j < N → rf ((sa k).p.l.toNat) j = true → rf (F.ln + k) j = true := fun k hk hw j hj h => by
  rw [hrf, hsa] at h; rw [hsa, hwp] at hw; rw [hrf]
  exact hloan (hP ▸ hk) rfl hw j (hN ▸ hj) h
 have h3 (wc : World) (hk : KB ⟨w, []⟩ wc) : Calls Tryz.prog 39 #[F.val] wc (RetX wc (fun _ : AdF => .tup [.one (.rs 0), .one (.int .i64 0)]) (fun A => [⟨rN, 1, fun j => [.val (.slice (A j).1 N (A j).2)]⟩]) (fun A => rrG A nr rf)) := by
  rw [hnr, hrf, hrN, hN]; exact h30 wc hk
 have h4 (wc : World) (hk : KB ⟨w, []⟩ wc) : Calls Tryz.prog 26 #[F.val] wc (RetX wc (fun _ : AdF => .tup [.one (.rs 0), .one (.int .i64 0)]) (fun A => [⟨F.ln, 1, fun j => [.val (.slice (A j).1 N (A j).2)]⟩]) (fun A => tg F.ln A)) := by
  have e : (fun A : AdF => tg F.ln A) = fun A => rrG A (nnN F.ln (stN F.sn F.bn)) (owB F) := by funext A; rw [htg, hN, hox]
  rw [e, hN]
  refine (h40 wc hk).mono fun en w' h => h.fam fun A p i j hj => ?_
  unfold rrG at hj ⊢
  by_cases hp : p = 0
  · rw [if_pos hp] at hj ⊢
    rw [if_pos hp]
    simp only at hj
    by_cases hi : i < F.ln
    · have e : ∀ j, ownB F i j = owB F i j := fun j => by unfold ownB owB; rw [decide_eq_true hi, Bool.true_and]
      simp only [e]
    · rw [nnN, if_neg hi] at hj; exact absurd hj (Nat.not_lt_zero _)
  · rw [if_neg hp, if_neg hp]
 have h5 (wc : World) (hk : KB ⟨w, []⟩ wc) {c : Nat → Nat → Row} : Calls Tryz.prog 28 #[F.val] wc (RetR wc c (.tup [.one (.rs 0), .one (.int .i64 0)]) [⟨M, 4, fun j => [.int .i64 (fr j), .int .i64 (tn j), .int .i64 (an j), .int .u8 (wy j)]⟩]) := by
  rw [hM, hfr, htn, han, hwy]; exact h50 wc hk
 have h6 (wc : World) (hk : KB ⟨w, []⟩ wc) {c : Nat → Nat → Row} : Calls Tryz.prog 45 #[F.val] wc (RetR wc c (.pt (.one (.rs 0))) [⟨P, 1, fun j => [.int .i64 (.ofNat (lp j))]⟩]) := by
  have := @h60 wc hk c
  rw [natR] at this
  rw [hP, hlp]; exact this
 have h9 (wc : World) (k : Nat) (hk : k = P) (v v' v2 : Value) (A B : AdF) (hx : XOk ⟨[], chiG (chiG (funX F) 4 (rrG A nr rf)) 5 (tg (sK k) B), []⟩ ⟨wc, []⟩) (hR : RowIs (chiG (chiG (funX F) 4 (rrG A nr rf)) 5 (tg (sK k) B)) wc ⟨sK k, 1, fun j => [.val (.slice (B j).1 N (B j).2)]⟩ v) (hR' : RowIs (chiG (chiG (funX F) 4 (rrG A nr rf)) 5 (tg (sK k) B)) wc ⟨M, 4, fun j => [.int .i64 (fr j), .int .i64 (tn j), .int .i64 (an j), .int .u8 (wy j)]⟩ v') (hR2 : RowIs (chiG (chiG (funX F) 4 (rrG A nr rf)) 5 (tg (sK k) B)) wc ⟨rN, 1, fun j => [.val (.slice (A j).1 N (A j).2)]⟩ v2) :
  Calls Tryz.prog 43 #[v, v', v2] wc (Ret wc (.tuple #[.bool true, .int .i64 0])) := by
  have e : sK k = rN := by rw [hsE, hrN, hRN, hk, hP]
  rw [e] at hx hR hR' hR2
  rw [hrN] at hx hR hR' hR2
  rw [hM, hfr, htn, han, hwy] at hR'
  rw [hN] at hR hR2
  refine h90 wc _ v v' v2 B A hx (fun j hj => ⟨5, j, ?_⟩) (fun j hj => ⟨4, j, ?_⟩) hR hR' hR2
  · rw [htg, hN, hox, chiG_ge (Nat.le_refl _)]
    show rrG B (nnN (regN F) (stN F.sn F.bn)) (owB F) 0 j = _
    unfold rrG
    rw [if_pos rfl, nnN_lt hj]
  · rw [chiG_lt (by omega), chiG_ge (Nat.le_refl _), hnr, hrf]
    show rrG A (nnN (regN F) (stN F.sn F.bn)) (regF F) 0 j = _
    unfold rrG
    rw [if_pos rfl, nnN_lt hj]
 have hst (wc : World) (hk : KB ⟨w, []⟩ wc) (k : Nat) (hkP : k < P) : Calls Tryz.prog 49 #[F.val, .int .i64 (.ofNat (lp k))] wc (Ret wc (.tuple #[(sa k).val, .bool true])) := by
  have := hs0 wc hk _ (hlix k (hP ▸ hkP)).2
  rw [(hlix k (hP ▸ hkP)).1.1] at this
  rw [hlp, hsa]; exact this
 have hwh (l : Int) (d : Bool) (f : Int) (wc : World) : Calls Tryz.prog 50 #[.agg #[.int .i64 l, .bool d, .int .u8 f]] wc (Ret wc (.bool (wp l d f))) := by rw [hwp]; exact rWholeC _ _ _ wc
 have hre (wc : World) (hk : KB ⟨w, []⟩ wc) (l : Nat) (hl : l < F.ln) : Calls Tryz.prog 47 #[F.val, .int .i64 (.ofNat l)] wc (Ret wc (.bool (rk l))) := by rw [hrk]; exact hrf0 wc hk l hl
 have hsz (wc : World) (c : Nat → Nat → Row) (k cap : Nat) (a : Option Addr) (hx : XOk ⟨[], c, []⟩ ⟨wc, []⟩) (hk : k < F.ln) (hr : rk k = false) (e : c 4 k = ⟨a, N, cap, 1, fun j => [.bool (rf k j)]⟩) : Calls Tryz.prog 48 #[.slice a N cap] wc (Ret wc (.int .i64 0)) :=
  size18Z hx 4 k N _ _ (rf k) (by omega) e (fun j hj => hbare k hk hr j hj)
 have hwi (wc : World) (c : Nat → Nat → Row) (k cap cap' : Nat) (a a' : Option Addr) (hx : XOk ⟨[], c, []⟩ ⟨wc, []⟩) (hk : k < P) (hw : wp (sa k).p.l (sa k).p.d (sa k).p.f = true) (e : c 4 ((sa k).p.l.toNat) = ⟨a, N, cap, 1, fun j => [.bool (rf ((sa k).p.l.toNat) j)]⟩) (e' : c 4 (sK k) = ⟨a', N, cap', 1, fun j => [.bool (rf (sK k) j)]⟩) : Calls Tryz.prog 51 #[.slice a N cap, .slice a' N cap'] wc (Ret wc (.tuple #[.bool true, .int .i64 0])) :=
  within18T hx 4 _ 4 _ N _ _ _ _ (rf ((sa k).p.l.toNat)) (rf (sK k)) (by omega) e e' (by rw [hsE k]; exact hloan k hk hw)
 have tq : ∀ n A p i, p ≠ 0 → (tg n A p i).n = 0 := fun n A p i hp => by rw [htg]; simp only [rrG, if_neg hp]
 have hrS : rN = sK P := by rw [hsE, hrN, hRN, hP]
 have hrP : rN = F.ln + P := by rw [hrN, hRN, hP]
 rw [← hN] at hN9 hN0 h80
 rw [← hP] at hP9
 clear h30 h40 h50 h60 h90 hs0 hrf0 hnear hlix hrN hP hlp hN hM hfr htn han hwy hox hrf hnr htg hsK hRN hsa hrk hwp hO hK hD hbare hloan
 obtain ⟨pa, un, lA, ln, lc, lk, lt, bA, bn, bc, sA, sn, sc, s, jA, jn, jc, ja, jk, jo, jf, jx, je, jd⟩ := F
 obtain ⟨hX, hl, hb, hs, hj⟩ := hF
 simp only at hl hb hs hj
 try simp only at h1 h2 h2b h3 h4 h5 h6 h80 h9 hst hre hsz hwi hl16 hz hrP hpk hsE hs0K hnl
 refine go_start (args := [.pt (.agg (GFun.dat ⟨pa, un, lA, ln, lc, lk, lt, bA, bn, bc, sA, sn, sc, s, jA, jn, jc, ja, jk, jo, jf, jx, je, jd⟩))]) (c := (funX ⟨pa, un, lA, ln, lc, lk, lt, bA, bn, bc, sA, sn, sc, s, jA, jn, jc, ja, jk, jo, jf, jx, je, jd⟩)) Tryz.func8 rfl hX rfl rfl ?_
 obtain ⟨nd, hnd, nt, hnt, ar, har, cm, hcm, mx, hmx, mn, hmn, ar01, ar12, zpl, hzpl, zjn, hzjn, zup, hzup, zmi, hzmi, zdp, hzdp, hT⟩ := t0_all
 have hc4 : ∀ q i j, q < 4 → j < (funX ⟨pa, un, lA, ln, lc, lk, lt, bA, bn, bc, sA, sn, sc, s, jA, jn, jc, ja, jk, jo, jf, jx, je, jd⟩ q i).n → qbL 4 ((funX ⟨pa, un, lA, ln, lc, lk, lt, bA, bn, bc, sA, sn, sc, s, jA, jn, jc, ja, jk, jo, jf, jx, je, jd⟩ q i).el j) = true := fun q i j hq hj => by
  match q, hq with
  | 0, _ => rfl
  | 1, _ => rfl
  | 2, _ => rfl
  | 3, _ => rfl
 have hc5 : ∀ (A : AdF) q i j, q < 5 → j < (chiG (funX ⟨pa, un, lA, ln, lc, lk, lt, bA, bn, bc, sA, sn, sc, s, jA, jn, jc, ja, jk, jo, jf, jx, je, jd⟩) 4 (rrG A nr rf) q i).n → qbL 5 ((chiG (funX ⟨pa, un, lA, ln, lc, lk, lt, bA, bn, bc, sA, sn, sc, s, jA, jn, jc, ja, jk, jo, jf, jx, je, jd⟩) 4 (rrG A nr rf) q i).el j) = true := fun A q i j hq hj => by
  match q, hq with
  | 0, _ => rfl
  | 1, _ => rfl
  | 2, _ => rfl
  | 3, _ => rfl
  | 4, _ => rfl
 have hsn : ∀ i (A : AdF) (a : Option Addr) (cap : Nat), RowLe ⟨zpl (sK i) 1, 1, zjn (sK i) (fun j => [.val (.slice (A j).1 N (A j).2)]) (fun j => cutL [.val (.slice a N cap)] (0 + j * 1) 1)⟩ ⟨sK (i + 1), 1, fun j => [.val (.slice (tu A (sK i) (a, cap) j).1 N (tu A (sK i) (a, cap) j).2)]⟩ := fun i A a cap => by
  refine rowLe_snoc hzpl hzjn (hs1K i) (fun j hj => ?_) ?_
  · rw [hu1 A _ _ j hj]; exact leCL_rfl _
  · rw [hu2]; exact leCL_rfl _
 have hfz : ∀ i, RowLe ⟨N, 1, fun _ => [.lit false]⟩ ⟨N, 1, fun k => [.bool (ox (sK i) k)]⟩ := fun i => rowLe_of rfl (fun j hj => ⟨by rw [hsE i, hz i j]; rfl, trivial⟩)
 have hmk : (N : Int) ≤ 1073741824 := by omega
 have hadd : ∀ j, j ≤ P → ar .add .i64 (.ofNat ln) (.ofNat j) = .ofNat (sK j) := fun j hj => by
  rw [har, hsE j]
  show IntKind.i64.wrap ((ln : Int) + (j : Int)) = ((ln + j : Nat) : Int)
  rw [Go.IntWalk.i64_in _ (by omega)]; omega
 have hc6 : ∀ n (A1 A : AdF) q i j, q < 6 → j < (chiG (chiG (funX ⟨pa, un, lA, ln, lc, lk, lt, bA, bn, bc, sA, sn, sc, s, jA, jn, jc, ja, jk, jo, jf, jx, je, jd⟩) 4 (rrG A1 nr rf)) 5 (tg n A) q i).n → qbL 6 ((chiG (chiG (funX ⟨pa, un, lA, ln, lc, lk, lt, bA, bn, bc, sA, sn, sc, s, jA, jn, jc, ja, jk, jo, jf, jx, je, jd⟩) 4 (rrG A1 nr rf)) 5 (tg n A) q i).el j) = true := fun n A1 A q i j hq hj => by
  by_cases g : q < 5
  · rw [chiG_lt g] at hj ⊢
    exact qbL_up _ (hc5 A1 q i j g hj)
  · rw [chiG_ge (by omega)] at hj ⊢
    exact plainL_qb (tp n A _ _ _ hj)
 have hn6 : ∀ n (A1 A : AdF) q i, 6 ≤ q → (chiG (chiG (funX ⟨pa, un, lA, ln, lc, lk, lt, bA, bn, bc, sA, sn, sc, s, jA, jn, jc, ja, jk, jo, jf, jx, je, jd⟩) 4 (rrG A1 nr rf)) 5 (tg n A) q i).n = 0 := fun n A1 A q i hq => by
  rw [chiG_ge (by omega)]
  exact tq n A _ _ (by omega)
 have hpn : ∀ x : Int, 0 ≤ x → x < ln → x < ((sK P : Nat) : Int) := fun x h1 h2 => by rw [hsE P]; omega
 have hpk2 : ∀ k, k < P → (sa k).p.l.toNat < rN := fun k hk => by have := hpk k hk; rw [hrP]; omega
 have hsk2 : ∀ k, k < P → sK k < rN := fun k hk => by rw [hsE k, hrP]; omega
 repeat' (first
  | refine go1 ?_ | refine gobt ?_ | refine gobn ?_ | refine go3 (fun hlt => ?_) (fun hge => ?_) | refine go2 (fun h => ?_) (fun h => ?_) | exact go0
  | ((with_reducible apply go_drawQ [39, 26]); (· rfl); (· rfl); (· kernel_rfl); (· kernel_rfl))
  | refine gode ?_ | refine gof ?_ | (with_reducible refine fork_cons ?_ ?_)
  | ((first | with_reducible apply go_fin_rowsP hT | with_reducible apply go_ret_rowsP hT); (· (cbv; try rfl)); (· (cbv; try rfl)); (· exact wSolveZ_1); (· exact wSolveZ_1); (· rfl))
  | ((with_reducible refine go_ob ?_ ?_); (· first | trivial | (refine ⟨trivial, ?_⟩; omega) | (rw [hzpl]; refine ⟨trivial, ?_⟩; show _ + _ ≤ 1073741824; omega) | (rw [hzpl]; show _ + _ ≤ 1073741824; omega) | ((exact ⟨Int.natCast_nonneg N, hmk⟩)) | ((rw [hzpl]; show sK k + 1 ≤ 1073741824; rw [hsE k]; omega))))
  | ((with_reducible apply go_call (f := 44) (hf := Tryz.call44)); (· (cbv; try rfl)); (· intro wc hbc hxc; exact alive_any wc))
  | ((with_reducible apply go_callq (f := 44) (hf := Tryz.call44)); (· (cbv; try rfl)); (· intro wc hbc hxc; exact alive_any wc))
  | ((with_reducible apply go_call_bool (f := 24) (hf := Tryz.call24)); (· (cbv; try rfl)); (· intro wc hbc hxc; exact h1 wc hbc); intro z hz)
  | ((with_reducible apply go_callq_bool (f := 24) (hf := Tryz.call24)); (· (cbv; try rfl)); (· intro wc hbc hxc; exact h1 wc hbc); intro z hz)
  | ((with_reducible apply go_call_bool (f := 25) (hf := Tryz.call25)); (· (cbv; try rfl)); (· intro wc hbc hxc; exact h2 wc hbc); intro z hz)
  | ((with_reducible apply go_callq_bool (f := 25) (hf := Tryz.call25)); (· (cbv; try rfl)); (· intro wc hbc hxc; exact h2 wc hbc); intro z hz)
  | ((with_reducible apply go_call (f := 36) (hf := Tryz.call36)); (· (cbv; try rfl)); (· intro wc hbc hxc; exact h2b wc hbc))
  | ((with_reducible apply go_callq (f := 36) (hf := Tryz.call36)); (· (cbv; try rfl)); (· intro wc hbc hxc; exact h2b wc hbc))
  | (((with_reducible apply go_callX 4 (f := 39) (hf := Tryz.call39)); (· intro S; cbv; try rfl); (· intro wc S hbc hxc hrc; exact h3 wc hbc); (· intro A; rfl); (· intro A; rfl); (· rfl); (· rfl); (· trivial); (· exact hc4); (· intro A; exact ⟨fun j hj => rfl, trivial⟩); (· intro A p i j hj; exact rrG_plain p i j hj); (intro A1 hnew1)))
  | (((with_reducible apply go_callX 5 (f := 26) (hf := Tryz.call26)); (· intro S; cbv; try rfl); (· intro wc S hbc hxc hrc; exact h4 wc hbc); (· intro A; rfl); (· intro A; rfl); (· rfl); (· rfl); (· exact ⟨fun _ _ => rfl, trivial⟩); (· exact hc5 A1); (· intro A; exact ⟨fun j hj => rfl, trivial⟩); (· intro A p i j hj; exact tp ln A p i j hj); (intro A2 hnew2)))
  | ((with_reducible apply go_callR (f := 28) (hf := Tryz.call28)); (· intro S; cbv; try rfl); (· intro wc S hbc hxc hrc; exact h5 wc hbc); (· rfl))
  | ((with_reducible apply go_callR (f := 45) (hf := Tryz.call45)); (· intro S; cbv; try rfl); (· intro wc S hbc hxc hrc; exact h6 wc hbc); (· rfl))
  | ((with_reducible apply go_call (f := 46) (hf := Tryz.call46)); (· (cbv; try rfl)); (· intro wc hbc hxc; exact h80 wc hbc))
  | ((with_reducible apply go_callq (f := 46) (hf := Tryz.call46)); (· (cbv; try rfl)); (· intro wc hbc hxc; exact h80 wc hbc))
  | (((with_reducible refine go_loopX (σ := {x : Nat × AdF // x.1 ≤ P}) (fun x => chiG (chiG (funX ⟨pa, un, lA, ln, lc, lk, lt, bA, bn, bc, sA, sn, sc, s, jA, jn, jc, ja, jk, jo, jf, jx, je, jd⟩) 4 (rrG A1 nr rf)) 5 (tg (sK x.1.1) x.1.2)) [43, 45, 46, 67, 77, 83, 84, 85, 86, 87, 88, 89, 90, 91, 92, 93] (fun x => [(11, .pt (.one (.int .i64 (.ofNat x.1.1))))]) (fun x => []) (fun x => [(1, ⟨sK x.1.1, 1, fun j => [.val (.slice (x.1.2 j).1 N (x.1.2 j).2)]⟩)]) (fun x => P - x.1.1) ⟨(0, A2), Nat.zero_le _⟩ (by rw [hs0K]) rfl ?_ ?_ ?_ ?_); (· (refine le_mk ?_ ?_ ?_ ?_ <;> (cbv; (try simp only [true_and, and_true]); (try ((repeat' apply And.intro) <;> (first | trivial | rfl | exact RowLe.rfl' _ | (rw [hs0K]; exact RowLe.rfl' _))))))); (· (cbv; try rfl)); (· simp); (rintro ⟨⟨k, A⟩, hk0⟩ mm hmm); (have hk : k ≤ P := hk0)))
  | ((refine go_again (go_freeze 4 0 (sK k) (fun a cap => th (sK k) A (a, cap)) (R := ⟨N, 1, fun x => [.bool (ox (sK k) x)]⟩) rfl (hfz k) rfl (fun v => rfl) ⟨fun _ _ => rfl, fun _ _ => rfl, fun _ _ => rfl, fun _ _ => rfl, trivial⟩ (fun j hj => rfl) (hc5 A1) (fun p j x h => tp (sK k) A p j x h) (tz (sK k) A) (fun a cap p' i' h => k3 (sK k) A a cap p' i' h) (fun a cap => k4 (sK k) A a cap) (fun a1 c1 hn1 => ?_))))
  | (((with_reducible refine go_stopX (⟨(k + 1, tu A (sK k) (a1, c1)), Nat.succ_le_of_lt (by assumption)⟩ : {x : Nat × AdF // x.1 ≤ P}) (by (show _ = chiG _ 5 (tg (sK (k + 1)) (tu A (sK k) (a1, c1)))); rw [hup, hs1K]) ?_ ?_ ?_ ?_); (· exact Nat.lt_of_lt_of_eq (show P - (k + 1) < P - k by omega) (Eq.symm (by assumption))); (· (refine le_mk ?_ ?_ ?_ ?_ <;> (cbv; (try simp only [true_and, and_true]); (try ((repeat' apply And.intro) <;> (first | trivial | rfl | exact RowLe.rfl' _ | (rw [wrap_nat har _ (by omega)]) | (exact hsn _ _ _ _))))))); (· (cbv; try rfl)); (· simp)))
  | ((rw [hadd _ (Nat.le_refl _)]))
  | ((rw [hadd j (by omega)]))
  | (((with_reducible apply go_callRv (f := 43) (hf := Tryz.call43)); (· intro S; cbv; try rfl); (· intro wc S hbc hxc hrc; exact h9 wc k (by omega) _ _ _ A1 A hxc (hrc 1 _ rfl) (hrc 2 _ rfl) (hrc 0 _ rfl)); (refine go_boxT 1 6 rfl rfl rfl rfl rfl ⟨fun _ _ => rfl, fun _ _ => rfl, fun _ _ => rfl, fun _ _ => rfl, trivial⟩ rfl (hc6 _ A1 A) (hn6 _ A1 A) (fun a0 _ => ?_))))
  | ((with_reducible refine go_loopk (σ := {i : Nat // i ≤ rN}) [107, 108, 109, 110, 111, 112, 113, 114, 115, 116, 117, 118, 119, 120, 121, 122, 123, 124, 125, 126, 127, 128, 129, 130, 131, 132, 133, 134, 135, 136, 137, 138, 139, 140, 141] (fun x => [(14, .pt (.one (.int .i64 (.ofNat x.1))))]) (fun x => []) (fun x => []) (fun x => rN - x.1) ⟨0, Nat.zero_le _⟩ ?_ ?_ ?_ ?_); (· exact le_mkP wSolveZ_1 wSolveZ_1 wSolveZ_1 wSolveZ_1); (· (cbv; try rfl)); (· simp); (rintro ⟨i, hi⟩ mm hmm))
  | ((with_reducible refine go_stop (⟨i + 1, Nat.succ_le_of_lt (by assumption)⟩ : {i : Nat // i ≤ rN}) ?_ ?_ ?_ ?_); (· exact Nat.lt_of_lt_of_eq (show rN - (i + 1) < rN - i from by omega) (Eq.symm (by assumption))); (· exact le_mkP wSolveZ_1 wSolveZ_1 wSolveZ_1 wSolveZ_1); (· (cbv; try rfl)); (· simp))
  | ((with_reducible apply go_call (f := 47) (hf := Tryz.call47)); (· (cbv; try rfl)); (· intro wc hbc hxc; exact hre wc hbc i (by assumption)))
  | ((with_reducible apply go_callq (f := 47) (hf := Tryz.call47)); (· (cbv; try rfl)); (· intro wc hbc hxc; exact hre wc hbc i (by assumption)))
  | ((with_reducible apply go_call (f := 48) (hf := Tryz.call48)); (· (cbv; try rfl)); (· intro wc hbc hxc; exact hsz wc _ i _ _ hxc (by assumption) (by assumption) (by rw [← hnl i (by assumption)]; rfl)))
  | ((with_reducible apply go_callq (f := 48) (hf := Tryz.call48)); (· (cbv; try rfl)); (· intro wc hbc hxc; exact hsz wc _ i _ _ hxc (by assumption) (by assumption) (by rw [← hnl i (by assumption)]; rfl)))
  | ((with_reducible refine go_loopk (σ := {j : Nat // j ≤ P}) [17, 18, 19, 20, 144, 145, 146, 147, 148, 149, 150, 151, 152, 153, 154, 155, 156, 157, 158, 159, 160, 161, 162, 163, 164, 165, 166, 167, 168, 169, 170, 171, 172, 173, 174, 175, 176, 177, 178, 179, 180, 181] (fun x => [(16, .pt (.one (.int .i64 (.ofNat x.1))))]) (fun x => []) (fun x => []) (fun x => P - x.1) ⟨0, Nat.zero_le _⟩ ?_ ?_ ?_ ?_); (· exact le_mkP wSolveZ_1 wSolveZ_1 wSolveZ_1 wSolveZ_1); (· (cbv; try rfl)); (· simp); (rintro ⟨j, hj⟩ mm hmm))
  | ((with_reducible refine go_stop (⟨j + 1, Nat.succ_le_of_lt (by assumption)⟩ : {j : Nat // j ≤ P}) ?_ ?_ ?_ ?_); (· exact Nat.lt_of_lt_of_eq (show P - (j + 1) < P - j from by omega) (Eq.symm (by assumption))); (· exact le_mkP wSolveZ_1 wSolveZ_1 wSolveZ_1 wSolveZ_1); (· (cbv; try rfl)); (· simp))
  | ((with_reducible apply go_call (f := 49) (hf := Tryz.call49)); (· (cbv; try rfl)); (· intro wc hbc hxc; exact hst wc hbc j (by assumption)))
  | ((with_reducible apply go_callq (f := 49) (hf := Tryz.call49)); (· (cbv; try rfl)); (· intro wc hbc hxc; exact hst wc hbc j (by assumption)))
  | ((with_reducible apply go_call (f := 50) (hf := Tryz.call50)); (· (cbv; try rfl)); (· intro wc hbc hxc; exact hwh _ _ _ wc))
  | ((with_reducible apply go_callq (f := 50) (hf := Tryz.call50)); (· (cbv; try rfl)); (· intro wc hbc hxc; exact hwh _ _ _ wc))
  | (((with_reducible apply go_need); (· first | exact Int.natCast_nonneg _ | exact (hpk j (by assumption)).1); (· first | exact Int.ofNat_lt.2 (by assumption) | exact Int.ofNat_lt.2 (hsk2 j (by assumption)) | (rw [hrS]; exact hpn _ (hpk j (by assumption)).1 (hpk j (by assumption)).2))))
  | ((with_reducible apply go_call (f := 51) (hf := Tryz.call51)); (· (cbv; try rfl)); (· intro wc hbc hxc; exact hwi wc _ j _ _ _ _ hxc (by assumption) (by assumption) (by rw [← hnl _ (hpk2 j (by assumption))]; rfl) (by rw [← hnl _ (hsk2 j (by assumption))]; rfl)))
  | ((with_reducible apply go_callq (f := 51) (hf := Tryz.call51)); (· (cbv; try rfl)); (· intro wc hbc hxc; exact hwi wc _ j _ _ _ _ hxc (by assumption) (by assumption) (by rw [← hnl _ (hpk2 j (by assumption))]; rfl) (by rw [← hnl _ (hsk2 j (by assumption))]; rfl)))
  | (fail)
  | fail)
 all_goals first
  | rfl
  | exact absurd ((congrArg Int.ofNat hrS).trans (hadd P (Nat.le_refl _)).symm) (of_decide_eq_false (by assumption))
  | trace_state
end Go.Proofs.YtmceonmlgcbcmaaGreat
