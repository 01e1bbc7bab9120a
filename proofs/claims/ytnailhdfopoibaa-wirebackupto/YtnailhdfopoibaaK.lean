/- Seat 02: WireTakes, round by round. -/
import Derived.Test.YtnailhdfopoibaaI
import Derived.Test.YtnailhdfopoibaaJ
namespace Go.Proofs.Ytnailhdfopoibaa
open Go.AX
set_option maxRecDepth 100000

abbrev askE : Ek := .agg [.int .i64, .int .i64, .int .i64]

theorem neq_false {a b : Int} (h : a = b) : (a != b) = false := by subst h; simp

/-- One thing is asked of both. -/
def askOne (d : D) (s : Sc) (r : Rf) : Sc × Rf :=
  if (nthD d.getL 0).getI = 0 then (s.took (fitI (nthD d.getL 1).getI), r.took (fitI (nthD d.getL 1).getI))
  else if (nthD d.getL 0).getI = 1 then (s.text2 (nthD d.getL 1).getI, r.text2 (nthD d.getL 1).getI)
  else if (nthD d.getL 0).getI = 2 then (s.took (nthD d.getL 1).getI, r.took (nthD d.getL 1).getI)
  else if (nthD d.getL 0).getI = 3 then (s.rule false (nthD d.getL 2).getI, r.rule false (nthD d.getL 2).getI)
  else (s.rule true (nthD d.getL 2).getI, r)

theorem takes_round (lp : Loops) (i : Nat) (ls : List D) (s : Sc) (r : Rf) (K : Kt) (h : Sim s r) (hi : i < ls.length) (hi' : i < 100) (hok : okE askE (nthD ls i) = true) (hl : ls.length ≤ LIM) :
    ∃ fr', Sim (askOne (nthD ls i) s r).1 (askOne (nthD ls i) s r).2 ∧ cleanF (liveAt Try.f4 0) 0 fr' = mkF 140 [(1, .dat (.slc shS ls)), (5, ptrS), (6, ptrR), (7, .dat (.int .i64 ((i + 1 : Nat) : Int)))] ∧
      oneRound (envOf tab Sq [] lp []) Try.f4 0 2 (mkF 140 [(1, .dat (.slc shS ls)), (5, ptrS), (6, ptrR), (7, .dat (.int .i64 i))]) [scanB s, refB r] K = K .normal fr' [scanB (askOne (nthD ls i) s r).1, refB (askOne (nthD ls i) s r).2] := by
  have c0 : decide ((i : Int) < (ls.length : Int)) = true := decide_eq_true (by omega)
  have c1 : decide ((i : Int) < 100) = true := decide_eq_true (by omega)
  have c2 : decide ((0 : Int) ≤ (i : Int)) = true := decide_eq_true (by omega)
  have c3 : decide (i < ls.length) = true := decide_eq_true hi
  have e1 : IntKind.wrap .i64 ((i : Int) + 1) = ((i + 1 : Nat) : Int) := by unfold LIM at hl; rw [IntKind.wrap_i64]; omega
  have hsok := Sc.ok_spec h.sok
  have hsl : List.length (Sc.ds s) ≤ 35184372088832 := hsok.2
  have c4 : (isBytes (Sc.ds s) && decide (List.length (Sc.ds s) ≤ 35184372088832)) = true := by
    rw [hsok.1, decide_eq_true hsl]; rfl
  have c5 : (fits .one (Sc.ds s) && decide (List.length (Sc.ds s) ≤ 35184372088832)) = true := by
    rw [isBytes_fits hsok.1, decide_eq_true hsl]; rfl
  rw [takes_step lp, c0, c1, c2, Int.toNat_natCast, c3, hok, c4, c5, e1]
  unfold askOne
  generalize hN : (nthD (D.getL (nthD ls i)) 1).getI = N
  generalize hE : (nthD (D.getL (nthD ls i)) 2).getI = E
  generalize hKd : (nthD (D.getL (nthD ls i)) 0).getI = kd
  simp only [beq_self_eq_true, cond_true, decide_true, Bool.and_true]
  have same : ∀ e : Int, decide (e = e) = true := fun e => decide_eq_true rfl
  by_cases k0 : kd = 0
  · rw [if_pos k0]
    have hs := h.took (fitI N)
    have hq : (kd == 0) = true := by simp [k0]
    rw [hq, cond_true]
    rw [h.ok, neq_false (h.num_eq (pos_fit N)).1, hs.ok, neq_false hs.left_eq, neq_false hs.fault_eq, neq_false hs.end_eq]
    refine ⟨_, hs, ?_, rfl⟩
    kernel_rfl
  have hq0 : (kd == 0) = false := by simpa using k0
  rw [hq0, cond_false, if_neg k0]
  by_cases k1 : kd = 1
  · rw [if_pos k1]
    have hs := h.text2 N
    have hq : (kd == 1) = true := by simp [k1]
    have ht : (!decide (byteVs ((s.text1 N).takes s.textN) = byteVs ((r.text1 N).takes r.textN))) = false := by rw [decide_eq_true (h.textS_eq N)]; rfl
    rw [hq, cond_true]
    rw [h.ok, ht, hs.ok, neq_false hs.left_eq, neq_false hs.fault_eq, neq_false hs.end_eq]
    refine ⟨_, hs, ?_, rfl⟩
    kernel_rfl
  have hq1 : (kd == 1) = false := by simpa using k1
  rw [hq1, cond_false, if_neg k1]
  by_cases k2 : kd = 2
  · rw [if_pos k2]
    have hs := h.took N
    have hq : (kd == 2) = true := by simp [k2]
    have b1 := (Sc.ok_takes N h.sok).1
    have b2 := (Rf.ok_takes N h.ok).1
    have ht : (!decide (byteVs (s.takes N) = byteVs (r.takes N))) = false := by rw [h.takes_eq, decide_eq_true rfl]; rfl
    rw [hq, cond_true]
    rw [b1, h.ok, b2, ht, hs.ok, neq_false hs.left_eq, neq_false hs.fault_eq, neq_false hs.end_eq]
    refine ⟨_, hs, ?_, rfl⟩
    kernel_rfl
  have hq2 : (kd == 2) = false := by simpa using k2
  rw [hq2, cond_false, if_neg k2]
  by_cases k3 : kd = 3
  · rw [if_pos k3]
    have hs := h.rule false E
    have hq : (kd == 3) = true := by simp [k3]
    rw [hq, cond_true]
    rw [hs.ok, neq_false hs.left_eq, neq_false hs.fault_eq, neq_false hs.end_eq]
    refine ⟨_, hs, ?_, rfl⟩
    kernel_rfl
  have hq3 : (kd == 3) = false := by simpa using k3
  rw [hq3, cond_false, if_neg k3]
  have hs : Sim (s.rule true E) r := h.rule true E
  rw [h.ok, neq_false hs.left_eq, neq_false hs.fault_eq, neq_false hs.end_eq]
  refine ⟨_, hs, ?_, rfl⟩
  kernel_rfl

end Go.Proofs.Ytnailhdfopoibaa
