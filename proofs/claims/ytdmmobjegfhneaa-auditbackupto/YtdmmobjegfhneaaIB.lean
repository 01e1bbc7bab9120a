/- Seat 20: numbers out of bytes, way by way. -/
import Derived.Test.YtdmmobjegfhneaaI
namespace Go.Proofs.Ytdmmobjegfhneaa
open Go.AX
set_option maxRecDepth 100000
def C_snw : FunT := fun args σ => match args, σ with
  | [.ptr (.agg [.one, .one, .one]) 0 0 [], .dat (.int .i64 k)], [⟨.agg [.one, .one, .one], false, false, .dat (.agg [.slc .one ds, .int .i64 0, .bool true])⟩] =>
    .chk (okRd k ds) (.br (decide (k ≤ ds.length)) (.leaf ([.dat (.int .u64 (numV (ds.take k.toNat)))], [scB (ds.drop k.toNat) 0 true])) (.leaf ([.dat (.int .u64 0)], [scB ds 12 true])))
  | [.ptr (.agg [.one, .one, .one]) 0 0 [], .dat (.int .i64 k)], [⟨.agg [.one, .one, .one], false, false, .dat (.agg [.slc .one ds, .int .i64 12, .bool true])⟩] =>
    .chk (okRd k ds) (.leaf ([.dat (.int .u64 0)], [scB ds 12 true]))
  | _, _ => .fail
theorem csnw_ok : FunOk Try.prog 29 (FunT.run C_snw) := FunOk.of csnumc_ok (fun args σ r h => by
  unfold C_snw at h
  split at h
  · rename_i k ds
    obtain ⟨h1, h⟩ := T.chk_some h
    rw [← h]
    show T.run (.chk (okRd k ds) _) = _
    rw [h1, T.run_chk, cond_true, T.run_leaf, T.run_br]
    unfold rdV rdD rdF rdO
    simp only [beq_self_eq_true, Bool.true_and]
    cases decide (k ≤ (ds.length : Int)) <;> rfl
  · rename_i k ds
    obtain ⟨h1, h⟩ := T.chk_some h
    rw [← h]
    show T.run (.chk (okRd k ds) _) = _
    rw [h1]; rfl
  · simp [T.run_fail] at h)
def C_qnw : FunT := fun args σ => match args, σ with
  | [.ptr (.agg [.one, .one, .one]) 0 0 [], .dat (.int .i64 k)], [⟨.agg [.one, .one, .one], false, false, .dat (.agg [.slc .one ds, .int .i64 a, .int .i64 0])⟩] =>
    .chk (okRd k ds && (decide (0 ≤ a) && decide (a ≤ ds.length))) (.br (decide (a + k ≤ ds.length)) (.leaf ([.dat (.int .u64 (numV ((ds.drop a.toNat).take k.toNat)))], [rcB ds (a + k) 0])) (.leaf ([.dat (.int .u64 0)], [rcB ds a 12])))
  | [.ptr (.agg [.one, .one, .one]) 0 0 [], .dat (.int .i64 k)], [⟨.agg [.one, .one, .one], false, false, .dat (.agg [.slc .one ds, .int .i64 a, .int .i64 12])⟩] =>
    .chk (okRd k ds && (decide (0 ≤ a) && decide (a ≤ ds.length))) (.leaf ([.dat (.int .u64 0)], [rcB ds a 12]))
  | _, _ => .fail
theorem cqnw_ok : FunOk Try.prog 31 (FunT.run C_qnw) := FunOk.of cqnumc_ok (fun args σ r h => by
  unfold C_qnw at h
  split at h
  · rename_i k ds a
    obtain ⟨h1, h⟩ := T.chk_some h
    rw [← h]
    show T.run (.chk (okRd k ds && (decide (0 ≤ a) && decide (a ≤ ds.length))) _) = _
    rw [h1, T.run_chk, cond_true, T.run_leaf, T.run_br]
    simp only [Bool.and_eq_true, decide_eq_true_eq] at h1
    have e : decide (k ≤ ((ds.drop a.toNat).length : Int)) = decide (a + k ≤ (ds.length : Int)) := by
      rw [List.length_drop]
      exact decide_eq_decide.2 (by omega)
    unfold rdV rdA rdF rdO
    simp only [beq_self_eq_true, Bool.true_and, e]
    cases decide (a + k ≤ (ds.length : Int)) <;> rfl
  · rename_i k ds a
    obtain ⟨h1, h⟩ := T.chk_some h
    rw [← h]
    show T.run (.chk (okRd k ds && (decide (0 ≤ a) && decide (a ≤ ds.length))) _) = _
    rw [h1]; rfl
  · simp [T.run_fail] at h)
def C_frmc : FunT := fun args σ => match args, σ with
  | [.dat (.slc .one ds)], [] => .leaf ([.ptr (.agg [.one, .one, .one]) 0 0 []], [scB ds 0 true])
  | _, _ => .fail
theorem cfrmc_ok : FunOk Try.prog 27 (FunT.run C_frmc) := FunOk.of cfrm_ok (fun args σ r h => by
  unfold C_frmc at h
  split at h
  · rename_i ds
    have e4 : seg ds 0 (Int.toNat (ds.length : Int) - 0) = ds := seg_all _ (by omega)
    have e5 : own_pre ds = true := by
      unfold own_pre
      rw [decide_eq_true rfl, decide_eq_true (show Int.toNat (ds.length : Int) ≤ ds.length by omega)]; rfl
    rw [← T.leaf_some h]
    show T.run (.chk (own_pre ds) (.leaf (_, [scB (seg ds 0 (Int.toNat (ds.length : Int) - 0)) 0 true]))) = _
    rw [e4, e5]; rfl
  · simp [T.run_fail] at h)
end Go.Proofs.Ytdmmobjegfhneaa
