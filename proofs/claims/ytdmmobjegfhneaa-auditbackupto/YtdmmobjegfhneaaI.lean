/- Seat 20: numbers out of bytes, in few words. -/
import Derived.Test.YtdmmobjegfhneaaH
namespace Go.Proofs.Ytdmmobjegfhneaa
open Go.AX
set_option maxRecDepth 100000
def rdO (k : Int) (ds : List D) (f : Int) : Bool := f == 0 && decide (k ≤ ds.length)
def rdV (k : Int) (ds : List D) (f : Int) : Int := bif rdO k ds f then numV (ds.take k.toNat) else 0
def rdD (k : Int) (ds : List D) (f : Int) : List D := bif rdO k ds f then ds.drop k.toNat else ds
def rdF (k : Int) (ds : List D) (f : Int) : Int := bif f == 0 && !decide (k ≤ ds.length) then 12 else f
abbrev okRd (k : Int) (ds : List D) : Bool := ds.all okU8 && (decide (ds.length ≤ 1099511627776) && (decide (1 ≤ k) && decide (k ≤ 8)))
theorem seg_eq {ds : List D} {o n : Nat} (_ : o + n ≤ ds.length) : seg ds o n = (ds.drop o).take n := by
  unfold seg
  cases hb : Nat.beq o 0 && Nat.beq n ds.length with
  | true =>
    simp only [Bool.and_eq_true] at hb
    rw [Nat.eq_of_beq_eq_true hb.1, Nat.eq_of_beq_eq_true hb.2, List.drop_zero, List.take_length]; rfl
  | false => rfl
theorem okU8_bytes {b : List D} (h : b.all okU8 = true) : isBytes b = true := by
  unfold isBytes
  rw [List.all_eq_true] at h ⊢
  intro d hd
  have := h d hd
  simp only [okU8, Bool.and_eq_true] at this
  exact this.1
theorem fits_bytesL {b : List D} (h : b.all okU8 = true) : fits .one b = true := by
  rw [fits_one_iff]
  intro d hd
  obtain ⟨n, rfl⟩ := isBytes_mem (okU8_bytes h) hd
  rfl
theorem okU8_take {b : List D} (h : b.all okU8 = true) (n : Nat) : (b.take n).all okU8 = true := by
  rw [List.all_eq_true] at *; exact fun d hd => h d (List.mem_of_mem_take hd)
theorem okU8_drop {b : List D} (h : b.all okU8 = true) (n : Nat) : (b.drop n).all okU8 = true := by
  rw [List.all_eq_true] at *; exact fun d hd => h d (List.mem_of_mem_drop hd)
theorem rdD_ok {k f : Int} {ds : List D} (h : ds.all okU8 = true) : (rdD k ds f).all okU8 = true ∧ (rdD k ds f).length ≤ ds.length := by
  unfold rdD
  cases rdO k ds f with
  | true => exact ⟨okU8_drop h _, by rw [cond_true, List.length_drop]; omega⟩
  | false => exact ⟨h, Nat.le_refl _⟩
theorem fit_k {k : Int} (h1 : 1 ≤ k) (h2 : k ≤ 8) : fit_v0 k = k := by unfold fit_v0; rw [if_neg (show ¬ 1 > k by omega), if_neg (by omega)]
theorem size_k {k : Int} (h1 : 1 ≤ k) (h2 : k ≤ 8) : size_v0 k = k := by unfold size_v0; rw [decide_eq_false (show ¬ k < 1 by omega), decide_eq_false (show ¬ 8 < k by omega)]; rfl
theorem okNb_take {ds : List D} (h : ds.all okU8 = true) {n : Nat} (hn : n ≤ 8) : okNb (ds.take n) = true := by
  unfold okNb
  rw [okU8_take h, Bool.true_and]
  exact decide_eq_true (by rw [List.length_take]; omega)
theorem take_eq {k f : Int} {ds : List D} (h1 : 1 ≤ k) (h2 : k ≤ 8) (h : ds.all okU8 = true) (_ : ds.length ≤ 1099511627776) :
    take_pre ds f k true = true ∧ take_v0 ds f k true = (bif rdO k ds f then ds.take k.toNat else []) ∧ take_v1 ds f k true = rdD k ds f ∧ take_v2 ds f k true = rdF k ds f := by
  have hp : (if 0 > k then 0 else k) = k := if_neg (by omega)
  have hleft : left_v0 ds f true = bif f == 0 then (ds.length : Int) else 0 := rfl
  unfold take_pre take_v0 take_v1 take_v2 rdD rdF rdO rule_v0
  rw [hp, hleft]
  by_cases hf : f = 0
  · subst hf
    simp only [beq_self_eq_true, cond_true, Bool.true_and]
    by_cases hk : k ≤ (ds.length : Int)
    · rw [decide_eq_true hk]
      have e1 : seg ds 0 (k.toNat - 0) = ds.take k.toNat := by rw [seg_take, Nat.sub_zero]
      have e2 : seg ds k.toNat (ds.length - k.toNat) = ds.drop k.toNat := seg_drop ds k.toNat
      have e3 : seg (ds.take k.toNat) 0 (ds.take k.toNat).length = ds.take k.toNat := seg_all _ (by omega)
      have e4 : (ds.take k.toNat).length ≤ 8 := by rw [List.length_take]; omega
      simp only [e1, e2, e3, fits_bytesL (okU8_take h _), decide_eq_true (show 0 ≤ k by omega), decide_eq_true (show k.toNat ≤ ds.length by omega), Nat.le_refl, decide_true, decide_eq_true (show (ds.take k.toNat).length * 1 ≤ 35184372088832 by omega), Nat.zero_add, Nat.beq_refl]
      refine ⟨?_, ?_, ?_, ?_⟩ <;> first | rfl | trivial
    · rw [decide_eq_false hk]
      refine ⟨?_, ?_, ?_, ?_⟩ <;> first | rfl | trivial
  · have hf1 : (f == 0) = false := beq_eq_false_iff_ne.2 hf
    have hfv : (fault_v0 f true == 0) = false := hf1
    rw [hf1, cond_false, decide_eq_false (show ¬ k ≤ 0 by omega)]
    simp only [hfv, cond_false, Bool.false_and]
    refine ⟨?_, ?_, ?_, ?_⟩ <;> first | rfl | trivial
def C_snumc : FunT := fun args σ => match args, σ with
  | [.ptr (.agg [.one, .one, .one]) 0 0 [], .dat (.int .i64 k)], [⟨.agg [.one, .one, .one], false, false, .dat (.agg [.slc .one ds, .int .i64 f, .bool true])⟩] => .chk (okRd k ds) (.leaf ([.dat (.int .u64 (rdV k ds f))], [scB (rdD k ds f) (rdF k ds f) true]))
  | _, _ => .fail
theorem csnumc_ok : FunOk Try.prog 29 (FunT.run C_snumc) := FunOk.of csnum_ok (fun args σ r h => by
  unfold C_snumc at h
  split at h
  · rename_i k ds f
    obtain ⟨h1, h⟩ := T.chk_some h
    simp only [okRd, Bool.and_eq_true, decide_eq_true_eq] at h1
    obtain ⟨h1, h2, h3, h4⟩ := h1
    rw [← T.leaf_some h]
    obtain ⟨t1, t2, t3, t4⟩ := take_eq (f := f) h3 h4 h1 h2
    have e5 : snum_pre ds f k true = true := by
      unfold snum_pre
      rw [fit_k h3 h4, t1, t2, decide_eq_true rfl]
      cases rdO k ds f with
      | true => rw [cond_true, okNb_take h1 (by omega)]; rfl
      | false => rfl
    show T.run (.chk (snum_pre ds f k true) _) = _
    rw [e5, fit_k h3 h4, t2, t3, t4]
    unfold rdV
    cases rdO k ds f <;> rfl
  · simp [T.run_fail] at h)
def rdA (k : Int) (ds : List D) (a e : Int) : Int := bif rdO k (ds.drop a.toNat) e then a + k else a
theorem rtake_eq {k a e : Int} {ds : List D} (h1 : 1 ≤ k) (h2 : k ≤ 8) (ha : 0 ≤ a) (ha2 : a ≤ ds.length) (hl : ds.length ≤ 1099511627776) :
    rtake_pre ds a e k = true ∧ rtake_v0 ds a e k = (bif rdO k (ds.drop a.toNat) e then (ds.drop a.toNat).take k.toNat else []) ∧ rtake_v1 ds a e k = rdA k ds a e ∧ rtake_v2 ds a e k = rdF k (ds.drop a.toNat) e := by
  have hw : IntKind.wrap .i64 ((ds.length : Int) - a) = (ds.length : Int) - a := by rw [IntKind.wrap_i64]; omega
  have hw2 : IntKind.wrap .i64 (a + k) = a + k := by rw [IntKind.wrap_i64]; omega
  have hd : (ds.drop a.toNat).length = ds.length - a.toNat := List.length_drop
  unfold rtake_pre rtake_v0 rtake_v1 rtake_v2 rdA rdF rdO
  rw [hw, hw2, hd, decide_eq_false (show ¬ k < 0 by omega)]
  simp only [cond_false]
  by_cases he : e = 0
  · subst he
    simp only [beq_self_eq_true, bne_self_eq_false, cond_false, Bool.true_and, Bool.false_or]
    by_cases hk : k ≤ ((ds.length - a.toNat : Nat) : Int)
    · rw [decide_eq_true hk, decide_eq_false (show ¬ (ds.length : Int) - a < k by omega), decide_eq_true (show 0 ≤ a + k by omega), decide_eq_true ha, decide_eq_true (show a.toNat ≤ (a + k).toNat by omega), decide_eq_true (show (a + k).toNat ≤ ds.length by omega), show (a + k).toNat - a.toNat = k.toNat by omega, seg_eq (show a.toNat + k.toNat ≤ ds.length by omega)]
      refine ⟨?_, ?_, ?_, ?_⟩ <;> first | rfl | trivial
    · rw [decide_eq_false hk, decide_eq_true (show (ds.length : Int) - a < k by omega)]
      refine ⟨?_, ?_, ?_, ?_⟩ <;> first | rfl | trivial
  · have h5 : (e == 0) = false := beq_eq_false_iff_ne.2 he
    have h6 : (e != 0) = true := bne_iff_ne.2 he
    rw [h5, h6]
    refine ⟨?_, ?_, ?_, ?_⟩ <;> first | rfl | trivial
def C_qnumc : FunT := fun args σ => match args, σ with
  | [.ptr (.agg [.one, .one, .one]) 0 0 [], .dat (.int .i64 k)], [⟨.agg [.one, .one, .one], false, false, .dat (.agg [.slc .one ds, .int .i64 a, .int .i64 e])⟩] => .chk (okRd k ds && (decide (0 ≤ a) && decide (a ≤ ds.length))) (.leaf ([.dat (.int .u64 (rdV k (ds.drop a.toNat) e))], [rcB ds (rdA k ds a e) (rdF k (ds.drop a.toNat) e)]))
  | _, _ => .fail
theorem cqnumc_ok : FunOk Try.prog 31 (FunT.run C_qnumc) := FunOk.of cqnum_ok (fun args σ r h => by
  unfold C_qnumc at h
  split at h
  · rename_i k ds a e
    obtain ⟨h1, h⟩ := T.chk_some h
    simp only [okRd, Bool.and_eq_true, decide_eq_true_eq] at h1
    obtain ⟨⟨h1, h2, h3, h4⟩, h5, h6⟩ := h1
    rw [← T.leaf_some h]
    obtain ⟨t1, t2, t3, t4⟩ := rtake_eq (e := e) h3 h4 h5 h6 h2
    have e5 : qnum_pre ds a e k = true := by
      unfold qnum_pre
      rw [size_k h3 h4, t1, t2]
      cases rdO k (ds.drop a.toNat) e with
      | true => rw [cond_true, okNb_take (okU8_drop h1 _) (by omega)]; rfl
      | false => rfl
    show T.run (.chk (qnum_pre ds a e k) _) = _
    rw [e5, size_k h3 h4, t2, t3, t4]
    unfold rdV
    cases rdO k (ds.drop a.toNat) e <;> rfl
  · simp [T.run_fail] at h)
end Go.Proofs.Ytdmmobjegfhneaa
