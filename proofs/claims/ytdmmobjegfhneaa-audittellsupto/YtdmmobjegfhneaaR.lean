/- Seat 20: AuditTells is true. -/
import Derived.Test.YtdmmobjegfhneaaQ
import Derived.Test.YtdmmobjegfhneaaAx31
namespace Go.Proofs.Ytdmmobjegfhneaa
open Go.AX
set_option maxRecDepth 100000
theorem wf_u64 {n : Int} (h : (Lit.int .u64 n).wf = true) : u64 n = true := by
  simp [Lit.wf, IntKind.min, IntKind.max, IntKind.signed, IntKind.bits] at h
  rw [u64_iff]; omega
theorem ok_ent {n : Nat} {d : D} (h : okV tab (n + 2) 25 d = true) : ∃ r li la wh si ba qu qt pr sl, d = entD r li la wh si ba qu qt pr sl ∧ u64 r = true ∧ u64 qt = true ∧ u64 pr = true := by
  obtain ⟨l, rfl, h⟩ := okV_struct h rfl rfl
  obtain ⟨x0, l, rfl, h0, h⟩ := okVL_cons h
  obtain ⟨x1, l, rfl, h1, h⟩ := okVL_cons h
  obtain ⟨x2, l, rfl, h2, h⟩ := okVL_cons h
  obtain ⟨x3, l, rfl, h3, h⟩ := okVL_cons h
  obtain ⟨x4, l, rfl, h4, h⟩ := okVL_cons h
  obtain ⟨x5, l, rfl, h5, h⟩ := okVL_cons h
  obtain ⟨x6, l, rfl, h6, h⟩ := okVL_cons h
  obtain ⟨x7, l, rfl, h7, h⟩ := okVL_cons h
  obtain ⟨x8, l, rfl, h8, h⟩ := okVL_cons h
  obtain ⟨x9, l, rfl, h9, h⟩ := okVL_cons h
  obtain rfl := okVL_nil h
  obtain ⟨r, rfl, q0⟩ := okV_int h0 rfl rfl
  obtain ⟨li, rfl, _⟩ := okV_int h1 rfl rfl
  obtain ⟨la, rfl, _⟩ := okV_int h2 rfl rfl
  obtain ⟨wh, rfl, _⟩ := okV_int h3 rfl rfl
  obtain ⟨si, rfl, _⟩ := okV_int h4 rfl rfl
  obtain ⟨ba, rfl, _⟩ := okV_int h5 rfl rfl
  obtain ⟨qu, rfl, _⟩ := okV_int h6 rfl rfl
  obtain ⟨qt, rfl, q7⟩ := okV_int h7 rfl rfl
  obtain ⟨pr, rfl, q8⟩ := okV_int h8 rfl rfl
  obtain ⟨sl, rfl, _⟩ := okV_int h9 rfl rfl
  exact ⟨r, li, la, wh, si, ba, qu, qt, pr, sl, rfl, wf_u64 q0, wf_u64 q7, wf_u64 q8⟩
theorem ok_en {n : Nat} {d : D} (h : okV tab (n + 2) 25 d = true) : okEn d = true := by
  obtain ⟨r, li, la, wh, si, ba, qu, qt, pr, sl, rfl, _, h7, h8⟩ := ok_ent h
  show (true && (u64 qt && u64 pr)) = true
  rw [h7, h8]; rfl
theorem ok_log {n : Nat} {l : List D} (h : l.all (okV tab (n + 2) 25) = true) : l.all okEn = true := by
  rw [List.all_eq_true] at h ⊢
  exact fun d hd => ok_en (h d hd)
theorem same_self {l : List D} (h : l.all (okE k25) = true) (hl : l.length ≤ 1099511627776) : same_pre l l = true ∧ same_v0 l l = true := by
  unfold same_pre same_v0
  rw [h, D.eqbL_self, decide_eq_true hl]
  simp
theorem addL_ok {l : List D} {m : Int} {x : D} (h : okA l x = true) : (addL l m x).all (okE k25) = true ∧ (addL l m x).length ≤ 1099511627776 := by
  simp only [okA, Bool.and_eq_true, decide_eq_true_eq] at h
  obtain ⟨h1, h2, h3⟩ := h
  unfold addL
  cases rightD (l ++ [x]) with
  | false => exact ⟨rfl, by simp⟩
  | true =>
    cases decide (m ≤ (l.length : Int)) with
    | true => exact ⟨rfl, by simp⟩
    | false =>
      refine ⟨?_, ?_⟩
      · show (l ++ [x]).all (okE k25) = true
        rw [List.all_append, okL_k h1, List.all_cons, okEn_k h3]; rfl
      · show (l ++ [x]).length ≤ _
        rw [List.length_append, List.length_singleton]; omega
theorem was_eq (l : List D) : tl_w2v0 l = l := by
  unfold tl_w2v0
  rw [Nat.zero_add, seg_full]
  cases l <;> rfl
theorem tells_true {l : List D} {m r li la wh si ba qu qt pr sl : Int} (h : okA l (entD r li la wh si ba qu qt pr sl) = true) :
    FunT.run C_tl [.dat (.slc s25 l), .dat (.int .i64 m), .dat (entD r li la wh si ba qu qt pr sl)] [] = some ([.dat (.bool true)], []) := by
  have ha := addL_ok (m := m) h
  have hs := same_self ha.1 ha.2
  have h' := h
  simp only [okA, Bool.and_eq_true, decide_eq_true_eq] at h'
  obtain ⟨h1, h2, h3⟩ := h'
  have hw := same_self (okL_k h1) (show l.length ≤ 1099511627776 by omega)
  have hL : okL l = true := by simp only [okL, h1, decide_eq_true (show l.length ≤ 1099511627776 by omega), Bool.and_true]
  have hm := may_eq h3
  have hm1 : rmay_v0 r li la wh si ba qu qt pr sl = may_v0 r li la wh si ba qu qt pr sl := hm.1
  have hm2 : rmay_pre r li la wh si qt pr = true := hm.2
  have p2 : tl_p2 l = true := by
    unfold tl_p2
    rw [fits_en h1, Nat.zero_add, Nat.beq_refl, Bool.or_true, decide_eq_true (show l.length * 80 ≤ 35184372088832 by omega)]; rfl
  have p5 : tl_p5 l m r li la wh si ba qu qt pr sl = true := by
    unfold tl_p5
    have e1 : tl_w4v0 l m r li la wh si ba qu qt pr sl = tl_w3v0 l m r li la wh si ba qu qt pr sl := rfl
    have e2 : tl_w4v1 l m r li la wh si ba qu qt pr sl = tl_w3v1 l m r li la wh si ba qu qt pr sl := rfl
    have e3 : rg_v0 l = rightD l := rfl
    have g1 : same_pre (tl_w3v0 l m r li la wh si ba qu qt pr sl) (tl_w3v0 l m r li la wh si ba qu qt pr sl) = true := hs.1
    have g2 : same_v0 (tl_w3v0 l m r li la wh si ba qu qt pr sl) (tl_w3v0 l m r li la wh si ba qu qt pr sl) = true := hs.2
    have g3 : rg_pre l = true := by unfold rg_pre; rw [D.eqbL_self, hL, decide_eq_true rfl]; rfl
    rw [D.eqb_self, hm2, hm1, g3, hL, e1, e2, e3, g1, g2, was_eq, hw.1, hw.2, beq_self_eq_true, beq_self_eq_true, beq_self_eq_true]; rfl
  show T.run (.chk (tl_p2 l) (.chk (okA l _) (.chk (okA l _) (.chk (tl_p5 l m r li la wh si ba qu qt pr sl) _)))) = _
  rw [T.run_chk, T.run_chk, T.run_chk, T.run_chk, p2, p5]
  show (cond (okA l (entD r li la wh si ba qu qt pr sl)) (cond (okA l (entD r li la wh si ba qu qt pr sl)) _ _) _) = _
  rw [h]; rfl
theorem tells_law (xs : List D) (h : okAll tab 8 [22, 3, 25] xs = true) (hs : sizeDL xs ≤ 1048576) : ∃ F, FunOk Try.prog 3 F ∧ F (xs.map .dat) [] = some ([.dat (.bool true)], []) := by
  obtain ⟨x0, xs, rfl, h0, h⟩ := okAll_cons h
  obtain ⟨x1, xs, rfl, h1, h⟩ := okAll_cons h
  obtain ⟨x2, xs, rfl, h2, h⟩ := okAll_cons h
  obtain rfl := okAll_nil h
  obtain ⟨l, rfl, k0⟩ := okV_slc (s := s25) h0 rfl rfl rfl
  obtain ⟨m, rfl, _⟩ := okV_int h1 rfl rfl
  have k2 := ok_en h2
  obtain ⟨r, li, la, wh, si, ba, qu, qt, pr, sl, rfl, _⟩ := ok_ent h2
  simp only [sizeDL, sizeD] at hs
  have := length_sizeDL l
  refine ⟨_, ctl_ok, tells_true ?_⟩
  simp only [okA, ok_log k0, k2, decide_eq_true (show l.length ≤ 100000000000 by omega), Bool.and_true]
end Go.Proofs.Ytdmmobjegfhneaa
