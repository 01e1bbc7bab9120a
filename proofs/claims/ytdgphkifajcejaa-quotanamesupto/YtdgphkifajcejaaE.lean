/- Seat 06: the fixed calls, and what is told of a row. -/
import Derived.Test.YtdgphkifajcejaaD
namespace Go.Proofs.Ytdgphkifajcejaa
open Go.AX
set_option maxRecDepth 100000

def C_rfirst : FunT := fun args σ => match args, σ with
  | [.dat (.slc .one ds)], [] => .chk (okL ds) (.leaf ([.dat (.int .i64 (firstI ds)), .dat (.int .i64 (firstE ds))], []))
  | _, _ => .fail
theorem crfirst_ok : FunOk Try.prog 9 (FunT.run C_rfirst) := rfirst_ok.of (by
  intro args σ r h
  unfold C_rfirst at h
  split at h
  · exact h
  · simp [T.run_fail] at h)

def C_rslots : FunT := fun args σ => match args, σ with
  | [.dat (.slc .one ds)], [] => .chk (okL ds) (.leaf ([.dat (.slc .one (slotsTo ds ds.length))], []))
  | _, _ => .fail
theorem crslots_ok : FunOk Try.prog 16 (FunT.run C_rslots) := rslots_ok.of (by
  intro args σ r h
  unfold C_rslots at h
  split at h
  · rename_i ds
    obtain ⟨hc, h'⟩ := T.chk_some h
    rw [← T.leaf_some h']
    unfold S_rslots
    simp only [hc, T.run_chk, cond_true, T.run_leaf, beq_self, seg_full]
  · simp [T.run_fail] at h)

def C_rput : FunT := fun args σ => match args, σ with
  | [.dat (.slc .one ds), .dat (.int .i64 i), .dat (.int .i64 x)], [] => .chk (okL ds) (.leaf ([.dat (.slc .one (putL ds i x)), .dat (.int .i64 (bif inB ds i then 0 else 1))], []))
  | _, _ => .fail
theorem crput_ok : FunOk Try.prog 11 (FunT.run C_rput) := rput_ok.of (by
  intro args σ r h
  unfold C_rput at h
  split at h
  · rename_i ds i x
    obtain ⟨hc, h'⟩ := T.chk_some h
    rw [← T.leaf_some h']
    unfold S_rput putL
    cases hi : inB ds i with
    | true =>
      obtain ⟨g1, g2⟩ := inB_spec hi
      have e : seg (ds.set i.toNat (D.int .i64 x)) 0 ds.length = ds.set i.toNat (D.int .i64 x) := by
        have := seg_full (ds.set i.toNat (D.int .i64 x))
        rwa [List.length_set] at this
      simp only [ge_iff_le, g1, e, hc, (show ¬ i < 0 by omega), (show ¬ (ds.length : Int) ≤ i by omega), decide_true, decide_false, beq_self_eq_true, T.run_chk, T.run_br, cond_true, cond_false, T.run_leaf, Bool.and_self, List.length_set, Nat.beq_refl]
    | false =>
      simp only [cond_false]
      by_cases g1 : i < 0
      · simp only [g1, decide_true, T.run_br, T.run_chk, cond_true, cond_false, T.run_leaf, show (true == false) = false from rfl]
      · have g2 : i ≥ ds.length := by
          unfold inB at hi
          rw [decide_eq_true (show 0 ≤ i by omega), Bool.true_and] at hi
          have := of_decide_eq_false hi
          omega
        simp only [g1, g2, decide_true, decide_false, T.run_br, cond_true, cond_false, T.run_leaf, beq_self_eq_true]
  · simp [T.run_fail] at h)

theorem eqbL_len : ∀ {a b : List D}, D.eqbL a b = true → a.length = b.length
  | [], [], _ => rfl
  | _ :: _, _ :: _, h => by simp only [D.eqbL, Bool.and_eq_true] at h; simp [eqbL_len h.2]
  | [], _ :: _, h => by simp [D.eqbL] at h
  | _ :: _, [], h => by simp [D.eqbL] at h
def C_ints : FunT := fun args σ => match args, σ with
  | [.dat (.slc .one a), .dat (.slc .one b)], [] => .chk (okL a && okL b) (.leaf ([.dat (.bool (D.eqbL a b))], []))
  | _, _ => .fail
theorem cints_ok : FunOk Try.prog 13 (FunT.run C_ints) := ints_ok.of (by
  intro args σ r h
  unfold C_ints at h
  split at h
  · rename_i a b
    obtain ⟨hc, h'⟩ := T.chk_some h
    rw [← T.leaf_some h']
    unfold S_ints
    by_cases hl : a.length = b.length
    · simp only [hc, hl, T.run_br, T.run_chk, T.run_leaf, bne_self_eq_false, cond_false, cond_true, decide_true, Bool.and_self]
    · have h1 : ((a.length : Int) != (b.length : Int)) = true := by simp; omega
      have h2 : D.eqbL a b = false := by
        cases he : D.eqbL a b with
        | false => rfl
        | true => exact absurd (eqbL_len he) hl
      rw [h2]
      simp only [h1, T.run_br, T.run_leaf, cond_true]
  · simp [T.run_fail] at h)

abbrev Sq : Specs := [(6, S_of), (8, C_first), (10, C_put), (12, C_add), (15, C_slots), (17, S_count), (18, C_has), (9, C_rfirst), (11, C_rput), (13, C_ints), (16, C_rslots)]
theorem Sq_ok : SpecsOk Try.prog Sq := .cons of_ok (.cons cfirst_ok (.cons cput_ok (.cons cadd_ok (.cons cslots_ok (.cons count_ok (.cons chas_ok (.cons crfirst_ok (.cons crput_ok (.cons cints_ok (.cons crslots_ok (.nil _)))))))))))

theorem alive_run  : runF (envOf tab Sq [] [] []) true Try.f14 [] [] =some ([AV.dat (D.bool true)], []) := by kernel_rfl

end Go.Proofs.Ytdgphkifajcejaa
