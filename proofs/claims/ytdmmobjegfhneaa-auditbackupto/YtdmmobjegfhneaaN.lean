/- Seat 20: what is added, in few words. -/
import Derived.Test.YtdmmobjegfhneaaE
import Derived.Test.YtdmmobjegfhneaaI
namespace Go.Proofs.Ytdmmobjegfhneaa
open Go.AX
set_option maxRecDepth 100000
theorem nthD_append_lt {a b : List D} {i : Nat} (h : i < a.length) : nthD (a ++ b) i = nthD a i := by
  unfold nthD
  rw [List.getD_eq_getElem?_getD, List.getD_eq_getElem?_getD, List.getElem?_append_left h]
theorem nthD_append_len (a : List D) (d : D) : nthD (a ++ [d]) a.length = d := by
  unfold nthD
  rw [List.getD_eq_getElem?_getD, List.getElem?_append_right (Nat.le_refl _), Nat.sub_self]; rfl
theorem right_snoc (l : List D) (x : D) : rightD (l ++ [x]) = (rightD l && (mayD x && (!decide (0 < l.length) || behD x (nthD l (l.length - 1))))) := by
  unfold rightD
  have hb : badR (l ++ [x]) l.length = (!mayD x || decide (0 < l.length) && !behD x (nthD l (l.length - 1))) := by
    unfold badR
    rw [nthD_append_len]
    by_cases h : 0 < l.length
    · rw [nthD_append_lt (show l.length - 1 < l.length by omega)]
    · rw [decide_eq_false h]; rfl
  have hr : (List.range l.length).any (badR (l ++ [x])) = (List.range l.length).any (badR l) := by
    refine bool_ext ?_
    rw [List.any_eq_true, List.any_eq_true]
    have e : ∀ i, i < l.length → badR (l ++ [x]) i = badR l i := fun i hi => by
      unfold badR
      rw [nthD_append_lt hi, nthD_append_lt (show i - 1 < l.length by omega)]
    constructor
    · rintro ⟨i, hi, h⟩
      exact ⟨i, hi, by rw [← e i (List.mem_range.1 hi)]; exact h⟩
    · rintro ⟨i, hi, h⟩
      exact ⟨i, hi, by rw [e i (List.mem_range.1 hi)]; exact h⟩
  rw [List.length_append, List.length_singleton, List.range_succ, List.any_append, hr, List.any_cons, List.any_nil, hb]
  cases (List.range l.length).any (badR l) <;> cases mayD x <;> cases decide (0 < l.length) <;> cases behD x (nthD l (l.length - 1)) <;> rfl
def addL (l : List D) (m : Int) (x : D) : List D := bif rightD (l ++ [x]) then bif decide (m ≤ l.length) then [] else l ++ [x] else []
def addE (l : List D) (m : Int) (x : D) : Int := bif rightD (l ++ [x]) then bif decide (m ≤ l.length) then 8 else 0 else 1
abbrev okA (l : List D) (x : D) : Bool := l.all okEn && (decide (l.length ≤ 100000000000) && okEn x)
theorem fits_en {l : List D} (h : l.all okEn = true) : fits s25 l = true := by
  unfold fits
  rw [List.all_eq_true] at h ⊢
  intro x hx
  rw [en_ints (okEn_k (h x hx))]; rfl
theorem okEn_ent {r li la wh si ba qu qt pr sl : Int} (h : okEn (entD r li la wh si ba qu qt pr sl) = true) : u64 qt = true ∧ u64 pr = true := by
  simp only [okEn, Bool.and_eq_true] at h
  simp only [u64, Bool.and_eq_true]
  exact h.2
theorem add_eq {l : List D} {m r li la wh si ba qu qt pr sl : Int} (h : okA l (entD r li la wh si ba qu qt pr sl) = true) :
    add_pre l r li la wh si ba qu qt pr sl = true ∧ add_v0 l m r li la wh si ba qu qt pr sl = addL l m (entD r li la wh si ba qu qt pr sl) ∧ add_v1 l m r li la wh si ba qu qt pr sl = addE l m (entD r li la wh si ba qu qt pr sl) := by
  simp only [okA, Bool.and_eq_true, decide_eq_true_eq] at h
  obtain ⟨h1, h2, h3⟩ := h
  have e1 : seg l 0 (Int.toNat (l.length : Int) - 0) = l := seg_all _ (by omega)
  have e2 : seg (l ++ [entD r li la wh si ba qu qt pr sl]) 0 (l.length + 1) = l ++ [entD r li la wh si ba qu qt pr sl] := seg_all _ (by rw [List.length_append]; exact Nat.le_refl _)
  have e3 : (l ++ [entD r li la wh si ba qu qt pr sl]).all okEn = true := by rw [List.all_append, h1, List.all_cons, h3]; rfl
  have e4 : rg_v0 (l ++ [entD r li la wh si ba qu qt pr sl]) = rightD (l ++ [entD r li la wh si ba qu qt pr sl]) := rfl
  have e5 : rg_pre (l ++ [entD r li la wh si ba qu qt pr sl]) = true := by
    unfold rg_pre okL
    rw [D.eqbL_self, e3, decide_eq_true rfl, decide_eq_true (by rw [List.length_append, List.length_singleton]; omega)]; rfl
  have e6 : clip_pre l = true := by
    unfold clip_pre
    rw [decide_eq_true rfl, decide_eq_true (by omega)]; rfl
  refine ⟨?_, ?_, ?_⟩
  · unfold add_pre
    rw [e1, e2, e5, e6, fits_en h1, decide_eq_true (show l.length * 80 ≤ 35184372088832 by omega), decide_eq_true (show (l.length + 1) * 80 ≤ 35184372088832 by omega), List.length_append, List.length_singleton, Nat.beq_refl]; rfl
  · unfold add_v0 addL
    rw [e1, e2, e4]
  · unfold add_v1 addE
    rw [e1, e2, e4]
theorem radd_eq {l : List D} {m r li la wh si ba qu qt pr sl : Int} (h : okA l (entD r li la wh si ba qu qt pr sl) = true) :
    radd_pre l m r li la wh si ba qu qt pr sl = true ∧ radd_v0 l m r li la wh si ba qu qt pr sl = addL l m (entD r li la wh si ba qu qt pr sl) ∧ radd_v1 l m r li la wh si ba qu qt pr sl = addE l m (entD r li la wh si ba qu qt pr sl) := by
  simp only [okA, Bool.and_eq_true, decide_eq_true_eq] at h
  obtain ⟨h1, h2, h3⟩ := h
  obtain ⟨m1, m2⟩ := may_eq h3
  have m1 : rmay_v0 r li la wh si ba qu qt pr sl = mayD (entD r li la wh si ba qu qt pr sl) := m1
  have m2 : rmay_pre r li la wh si qt pr = true := m2
  have hokL : okL l = true := by unfold okL; rw [h1, decide_eq_true (by omega)]; rfl
  have e2 : seg (l ++ [entD r li la wh si ba qu qt pr sl]) 0 (0 + l.length + 1) = l ++ [entD r li la wh si ba qu qt pr sl] := seg_all _ (by rw [List.length_append, Nat.zero_add]; exact Nat.le_refl _)
  have e3 : (bif l.isEmpty then [(entD r li la wh si ba qu qt pr sl : D)] else l ++ [entD r li la wh si ba qu qt pr sl]) = l ++ [entD r li la wh si ba qu qt pr sl] := by cases l <;> rfl
  have hlen : Nat.beq (l ++ [entD r li la wh si ba qu qt pr sl]).length (l.length + 1) = true := by rw [List.length_append, List.length_singleton, Nat.beq_refl]
  have hs := right_snoc l (entD r li la wh si ba qu qt pr sl)
  unfold radd_pre radd_v0 radd_v1 addL addE
  rw [hs, m1, m2, hokL, e2, e3]
  by_cases hl : 0 < l.length
  · have hw : IntKind.wrap .i64 ((l.length : Int) - 1) = ((l.length - 1 : Nat) : Int) := by rw [IntKind.wrap_i64]; omega
    have hb : beh_v0 r li (D.getI (nthD (D.getL (nthD l (l.length - 1))) 0)) (D.getI (nthD (D.getL (nthD l (l.length - 1))) 1)) = behD (entD r li la wh si ba qu qt pr sl) (nthD l (l.length - 1)) := rfl
    have hx := okEn_k (okL_nth h1 (show l.length - 1 < l.length by omega))
    simp only [hw, Int.toNat_natCast, hb, hx, fits_en h1, hlen, Nat.zero_add, Nat.beq_refl, decide_eq_true (show 0 < (l.length : Int) by omega), decide_eq_true hl, decide_eq_true (show (0 : Int) ≤ ((l.length - 1 : Nat) : Int) by omega), decide_eq_true (show l.length - 1 < l.length by omega), decide_eq_true (show l.length * 80 ≤ 35184372088832 by omega), decide_eq_true (show (l.length + 1) * 80 ≤ 35184372088832 by omega), Bool.and_true, Bool.or_true, Bool.not_true, Bool.false_or, cond_true]
    cases rightD l <;> cases mayD (entD r li la wh si ba qu qt pr sl) <;> cases behD (entD r li la wh si ba qu qt pr sl) (nthD l (l.length - 1)) <;> refine ⟨?_, ?_, ?_⟩ <;> first | rfl | trivial
  · simp only [fits_en h1, hlen, Nat.zero_add, Nat.beq_refl, decide_eq_false (show ¬ 0 < (l.length : Int) by omega), decide_eq_false hl, decide_eq_true (show l.length * 80 ≤ 35184372088832 by omega), decide_eq_true (show (l.length + 1) * 80 ≤ 35184372088832 by omega), Bool.and_true, Bool.or_true, Bool.not_false, Bool.true_or, cond_false]
    cases rightD l <;> cases mayD (entD r li la wh si ba qu qt pr sl) <;> refine ⟨?_, ?_, ?_⟩ <;> first | rfl | trivial
def C_addc : FunT := fun args σ => match args, σ with
  | [.dat (.slc (.agg [.one, .one, .one, .one, .one, .one, .one, .one, .one, .one]) l), .dat (.int .i64 m), .dat (.agg [.int .u64 r, .int .i64 li, .int .i64 la, .int .i64 wh, .int .i64 si, .int .i64 ba, .int .i64 qu, .int .u64 qt, .int .u64 pr, .int .i64 sl])], [] => .chk (okA l (entD r li la wh si ba qu qt pr sl)) (.leaf ([.dat (.slc s25 (addL l m (entD r li la wh si ba qu qt pr sl))), .dat (.int .i64 (addE l m (entD r li la wh si ba qu qt pr sl)))], []))
  | _, _ => .fail
theorem caddc_ok : FunOk Try.prog 6 (FunT.run C_addc) := FunOk.of cadd_ok (fun args σ r' h => by
  unfold C_addc at h
  split at h
  · rename_i l m r li la wh si ba qu qt pr sl
    obtain ⟨h1, h⟩ := T.chk_some h
    obtain ⟨g1, g2, g3⟩ := add_eq (m := m) h1
    rw [← T.leaf_some h]
    show T.run (.chk (add_pre l r li la wh si ba qu qt pr sl) _) = _
    rw [g1, g2, g3]; rfl
  · simp [T.run_fail] at h)
def C_raddc : FunT := fun args σ => match args, σ with
  | [.dat (.slc (.agg [.one, .one, .one, .one, .one, .one, .one, .one, .one, .one]) l), .dat (.int .i64 m), .dat (.agg [.int .u64 r, .int .i64 li, .int .i64 la, .int .i64 wh, .int .i64 si, .int .i64 ba, .int .i64 qu, .int .u64 qt, .int .u64 pr, .int .i64 sl])], [] => .chk (okA l (entD r li la wh si ba qu qt pr sl)) (.leaf ([.dat (.slc s25 (addL l m (entD r li la wh si ba qu qt pr sl))), .dat (.int .i64 (addE l m (entD r li la wh si ba qu qt pr sl)))], []))
  | _, _ => .fail
theorem craddc_ok : FunOk Try.prog 7 (FunT.run C_raddc) := FunOk.of cradd_ok (fun args σ r' h => by
  unfold C_raddc at h
  split at h
  · rename_i l m r li la wh si ba qu qt pr sl
    obtain ⟨h1, h⟩ := T.chk_some h
    obtain ⟨g1, g2, g3⟩ := radd_eq (m := m) h1
    rw [← T.leaf_some h]
    show T.run (.chk (radd_pre l m r li la wh si ba qu qt pr sl) _) = _
    rw [g1, g2, g3]; rfl
  · simp [T.run_fail] at h)
end Go.Proofs.Ytdmmobjegfhneaa
