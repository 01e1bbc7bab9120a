/- Seat 02: what is asked of a scan. -/
import Derived.Test.YtnailhdfopoibaaB
namespace Go.Proofs.Ytnailhdfopoibaa
open Go.AX
set_option maxRecDepth 100000

/-! Left -/
def S_left : FunT := fun args σ => match args, σ with
  | [.ptr (.agg [.one, .one, .one]) 0 0 []], [⟨.agg [.one, .one, .one], false, false, .dat (.agg [.slc .one ds, .int .i64 f, .bool b])⟩] =>
    .leaf ([.dat (.int .i64 (Sc.left ⟨ds, f, b⟩))], [scanB ⟨ds, f, b⟩])
  | [.dat .nilp], [] => .leaf ([.dat (.int .i64 0)], [])
  | _, _ => .fail

theorem left_run (s : Sc) : runF (envOf tab [(28, S_fine)] [] [] []) true Try.f20 [ptrS] [scanB s] =
  (bif !Sc.fine s then some ([AV.dat (D.int IntKind.i64 (0 : Int))], [{ sh := Sh.agg [Sh.one, Sh.one, Sh.one], dyn := false, frz := false, v := AV.dat (D.agg [D.slc Sh.one (Sc.ds s), D.int IntKind.i64 (Sc.f s), D.bool (Sc.b s)]) }]) else some ([AV.dat (D.int IntKind.i64 (↑(List.length (Sc.ds s)) : Int))], [{ sh := Sh.agg [Sh.one, Sh.one, Sh.one], dyn := false, frz := false, v := AV.dat (D.agg [D.slc Sh.one (Sc.ds s), D.int IntKind.i64 (Sc.f s), D.bool (Sc.b s)]) }])) := by kernel_rfl
theorem left_nil  : runF (envOf tab [(28, S_fine)] [] [] []) true Try.f20 [.dat .nilp] [] =some ([AV.dat (D.int IntKind.i64 (0 : Int))], []) := by kernel_rfl

theorem left_ok : FunOk Try.prog 20 (FunT.run S_left) := by
  refine fun_ok (E := envOf tab [(28, S_fine)] [] [] []) (fz := true) (fn := Try.f20) (envOf_ok progOk (.cons fine_ok (.nil _))) (by kernel_rfl) (by kernel_rfl) (loops_none (by kernel_rfl)) ?_
  intro args σ r h
  unfold S_left at h
  split at h
  · rename_i ds f b
    rw [← T.leaf_some h]
    refine (left_run ⟨ds, f, b⟩).trans ?_
    unfold Sc.left
    cases hf : Sc.fine ⟨ds, f, b⟩ <;> rfl
  · rw [← T.leaf_some h, left_nil]
  · simp [T.run_fail] at h

/-! End -/
def S_end : FunT := fun args σ => match args, σ with
  | [.ptr (.agg [.one, .one, .one]) 0 0 []], [⟨.agg [.one, .one, .one], false, false, .dat (.agg [.slc .one ds, .int .i64 f, .bool b])⟩] =>
    .leaf ([.dat (.int .i64 (Sc.endI ⟨ds, f, b⟩))], [scanB ⟨ds, f, b⟩])
  | _, _ => .fail

theorem end_run (s : Sc) : runF (envOf tab [(20, S_left), (22, S_fault)] [] [] []) true Try.f23 [ptrS] [scanB s] =
  (bif decide (Sc.left s > (0 : Int)) then some ([AV.dat (D.int IntKind.i64 (13 : Int))], [{ sh := Sh.agg [Sh.one, Sh.one, Sh.one], dyn := false, frz := false, v := AV.dat (D.agg [D.slc Sh.one (Sc.ds s), D.int IntKind.i64 (Sc.f s), D.bool (Sc.b s)]) }]) else some ([AV.dat (D.int IntKind.i64 (Sc.fault s))], [{ sh := Sh.agg [Sh.one, Sh.one, Sh.one], dyn := false, frz := false, v := AV.dat (D.agg [D.slc Sh.one (Sc.ds s), D.int IntKind.i64 (Sc.f s), D.bool (Sc.b s)]) }])) := by kernel_rfl

theorem end_ok : FunOk Try.prog 23 (FunT.run S_end) := by
  refine fun_ok (E := envOf tab [(20, S_left), (22, S_fault)] [] [] []) (fz := true) (fn := Try.f23) (envOf_ok progOk (.cons left_ok (.cons fault_ok (.nil _)))) (by kernel_rfl) (by kernel_rfl) (loops_none (by kernel_rfl)) ?_
  intro args σ r h
  unfold S_end at h
  split at h
  · rename_i ds f b
    rw [← T.leaf_some h]
    refine (end_run ⟨ds, f, b⟩).trans ?_
    unfold Sc.endI
    cases hf : decide (Sc.left ⟨ds, f, b⟩ > 0) <;> rfl
  · simp [T.run_fail] at h

/-! Rule -/
def S_rule : FunT := fun args σ => match args, σ with
  | [.ptr (.agg [.one, .one, .one]) 0 0 [], .dat (.bool ok), .dat (.int .i64 e)], [⟨.agg [.one, .one, .one], false, false, .dat (.agg [.slc .one ds, .int .i64 f, .bool b])⟩] =>
    .leaf ([], [scanB (Sc.rule ⟨ds, f, b⟩ ok e)])
  | [.dat .nilp, .dat (.bool _), .dat (.int .i64 _)], [] => .leaf ([], [])
  | _, _ => .fail

theorem rule_run (s : Sc) (ok : Bool) (e : Int) : runF (envOf tab [(28, S_fine)] [] [] []) true Try.f18 [ptrS, .dat (.bool ok), .dat (.int .i64 e)] [scanB s] =
  (bif (!ok) == true then 
   (bif !ok then 
    (bif Sc.fine s then some ([], [{ sh := Sh.agg [Sh.one, Sh.one, Sh.one], dyn := false, frz := false, v := AV.dat (D.agg [D.slc Sh.one (Sc.ds s), D.int IntKind.i64 e, D.bool (Sc.b s)]) }]) else some ([], [{ sh := Sh.agg [Sh.one, Sh.one, Sh.one], dyn := false, frz := false, v := AV.dat (D.agg [D.slc Sh.one (Sc.ds s), D.int IntKind.i64 (Sc.f s), D.bool (Sc.b s)]) }])) else some ([], [{ sh := Sh.agg [Sh.one, Sh.one, Sh.one], dyn := false, frz := false, v := AV.dat (D.agg [D.slc Sh.one (Sc.ds s), D.int IntKind.i64 (Sc.f s), D.bool (Sc.b s)]) }])) else 
   (bif !ok then none else some ([], [{ sh := Sh.agg [Sh.one, Sh.one, Sh.one], dyn := false, frz := false, v := AV.dat (D.agg [D.slc Sh.one (Sc.ds s), D.int IntKind.i64 (Sc.f s), D.bool (Sc.b s)]) }]))) := by kernel_rfl
theorem rule_nil (ok : Bool) (e : Int) : runF (envOf tab [(28, S_fine)] [] [] []) true Try.f18 [.dat .nilp, .dat (.bool ok), .dat (.int .i64 e)] [] =
  (bif (!ok) == true then 
   (bif !ok then some ([], []) else some ([], [])) else 
   (bif !ok then none else some ([], []))) := by kernel_rfl

theorem rule_ok : FunOk Try.prog 18 (FunT.run S_rule) := by
  refine fun_ok (E := envOf tab [(28, S_fine)] [] [] []) (fz := true) (fn := Try.f18) (envOf_ok progOk (.cons fine_ok (.nil _))) (by kernel_rfl) (by kernel_rfl) (loops_none (by kernel_rfl)) ?_
  intro args σ r h
  unfold S_rule at h
  split at h
  · rename_i ok e ds f b
    rw [← T.leaf_some h]
    refine (rule_run ⟨ds, f, b⟩ ok e).trans ?_
    unfold Sc.rule
    cases hf : Sc.fine ⟨ds, f, b⟩ <;> cases ok <;> rfl
  · rename_i ok e
    rw [← T.leaf_some h, rule_nil]
    cases ok <;> rfl
  · simp [T.run_fail] at h

/-! Take -/
abbrev E_take : Env := envOf tab [(20, S_left), (18, S_rule), (28, S_fine)] [] [] []
theorem take_run (s : Sc) (n : Int) : runF E_take true Try.f16 [ptrS, .dat (.int .i64 n)] [scanB s] =
  (bif !Sc.fine (Sc.rule s (decide ((if (0 : Int) > n then (0 : Int) else n) ≤ Sc.left s)) (12 : Int)) then some ([AV.dat (D.slc Sh.one [])], [{ sh := Sh.agg [Sh.one, Sh.one, Sh.one], dyn := false, frz := false, v := AV.dat (D.agg [D.slc Sh.one (Sc.ds (Sc.rule s (decide ((if (0 : Int) > n then (0 : Int) else n) ≤ Sc.left s)) (12 : Int))), D.int IntKind.i64 (Sc.f (Sc.rule s (decide ((if (0 : Int) > n then (0 : Int) else n) ≤ Sc.left s)) (12 : Int))), D.bool (Sc.b (Sc.rule s (decide ((if (0 : Int) > n then (0 : Int) else n) ≤ Sc.left s)) (12 : Int)))]) }]) else 
   (bif decide ((0 : Int) ≤ if (0 : Int) > n then (0 : Int) else n) then 
    (bif decide (Int.toNat (if (0 : Int) > n then (0 : Int) else n) ≤ List.length (Sc.ds (Sc.rule s (decide ((if (0 : Int) > n then (0 : Int) else n) ≤ Sc.left s)) (12 : Int)))) then 
     (bif decide ((0 : Int) ≤ if (0 : Int) > n then (0 : Int) else n) then 
      (bif decide (Int.toNat (if (0 : Int) > n then (0 : Int) else n) ≤ List.length (Sc.ds (Sc.rule s (decide ((if (0 : Int) > n then (0 : Int) else n) ≤ Sc.left s)) (12 : Int)))) && decide (List.length (Sc.ds (Sc.rule s (decide ((if (0 : Int) > n then (0 : Int) else n) ≤ Sc.left s)) (12 : Int))) ≤ List.length (Sc.ds (Sc.rule s (decide ((if (0 : Int) > n then (0 : Int) else n) ≤ Sc.left s)) (12 : Int)))) then 
       (bif fits Sh.one (seg (Sc.ds (Sc.rule s (decide ((if (0 : Int) > n then (0 : Int) else n) ≤ Sc.left s)) (12 : Int))) (0 : Nat) (Int.toNat (if (0 : Int) > n then (0 : Int) else n) - (0 : Nat))) then 
        (bif decide (((0 : Nat) + List.length (seg (Sc.ds (Sc.rule s (decide ((if (0 : Int) > n then (0 : Int) else n) ≤ Sc.left s)) (12 : Int))) (0 : Nat) (Int.toNat (if (0 : Int) > n then (0 : Int) else n) - (0 : Nat)))) * (1 : Nat) ≤ (35184372088832 : Nat)) then 
         (bif Nat.beq (List.length ([] ++ seg (Sc.ds (Sc.rule s (decide ((if (0 : Int) > n then (0 : Int) else n) ≤ Sc.left s)) (12 : Int))) (0 : Nat) (Int.toNat (if (0 : Int) > n then (0 : Int) else n) - (0 : Nat)))) ((0 : Nat) + List.length (seg (Sc.ds (Sc.rule s (decide ((if (0 : Int) > n then (0 : Int) else n) ≤ Sc.left s)) (12 : Int))) (0 : Nat) (Int.toNat (if (0 : Int) > n then (0 : Int) else n) - (0 : Nat)))) then some ([AV.dat (D.slc Sh.one (seg ([] ++ seg (Sc.ds (Sc.rule s (decide ((if (0 : Int) > n then (0 : Int) else n) ≤ Sc.left s)) (12 : Int))) (0 : Nat) (Int.toNat (if (0 : Int) > n then (0 : Int) else n) - (0 : Nat))) (0 : Nat) ((0 : Nat) + List.length (seg (Sc.ds (Sc.rule s (decide ((if (0 : Int) > n then (0 : Int) else n) ≤ Sc.left s)) (12 : Int))) (0 : Nat) (Int.toNat (if (0 : Int) > n then (0 : Int) else n) - (0 : Nat))))))], [{ sh := Sh.agg [Sh.one, Sh.one, Sh.one], dyn := false, frz := false, v := AV.dat (D.agg [D.slc Sh.one (seg (Sc.ds (Sc.rule s (decide ((if (0 : Int) > n then (0 : Int) else n) ≤ Sc.left s)) (12 : Int))) (Int.toNat (if (0 : Int) > n then (0 : Int) else n)) (List.length (Sc.ds (Sc.rule s (decide ((if (0 : Int) > n then (0 : Int) else n) ≤ Sc.left s)) (12 : Int))) - Int.toNat (if (0 : Int) > n then (0 : Int) else n))), D.int IntKind.i64 (Sc.f (Sc.rule s (decide ((if (0 : Int) > n then (0 : Int) else n) ≤ Sc.left s)) (12 : Int))), D.bool (Sc.b (Sc.rule s (decide ((if (0 : Int) > n then (0 : Int) else n) ≤ Sc.left s)) (12 : Int)))]) }]) else none) else none) else none) else none) else none) else none) else none)) := by kernel_rfl
theorem take_nil (n : Int) : runF E_take true Try.f16 [.dat .nilp, .dat (.int .i64 n)] [] =some ([AV.dat (D.slc Sh.one [])], []) := by kernel_rfl

def S_take : FunT := fun args σ => match args, σ with
  | [.ptr (.agg [.one, .one, .one]) 0 0 [], .dat (.int .i64 n)], [⟨.agg [.one, .one, .one], false, false, .dat (.agg [.slc .one ds, .int .i64 f, .bool b])⟩] =>
    .chk (fits .one ds && decide (ds.length ≤ LIM)) (.leaf ([.dat (.slc .one (Sc.takes ⟨ds, f, b⟩ n))], [scanB (Sc.took ⟨ds, f, b⟩ n)]))
  | [.dat .nilp, .dat (.int .i64 _)], [] => .leaf ([.dat (.slc .one [])], [])
  | _, _ => .fail

theorem take_ok : FunOk Try.prog 16 (FunT.run S_take) := by
  refine fun_ok (E := E_take) (fz := true) (fn := Try.f16) (envOf_ok progOk (.cons left_ok (.cons rule_ok (.cons fine_ok (.nil _))))) (by kernel_rfl) (by kernel_rfl) (loops_none (by kernel_rfl)) ?_
  intro args σ r h
  unfold S_take at h
  split at h
  · rename_i n ds f b
    obtain ⟨hc, h'⟩ := T.chk_some h
    rw [← T.leaf_some h']
    refine (take_run ⟨ds, f, b⟩ n).trans ?_
    simp only [Bool.and_eq_true, decide_eq_true_eq] at hc
    obtain ⟨hf, hl⟩ := hc
    unfold LIM at hl
    rw [show (if (0 : Int) > n then (0 : Int) else n) = pos n from rfl]
    rw [show Sc.rule ⟨ds, f, b⟩ (decide (pos n ≤ Sc.left ⟨ds, f, b⟩)) 12 = Sc.short ⟨ds, f, b⟩ n from rfl]
    unfold Sc.takes Sc.took
    cases hs : (Sc.short ⟨ds, f, b⟩ n).fine with
    | false => rfl
    | true =>
      obtain ⟨h1, h2, h3⟩ := Sc.short_fine hs
      rw [h2]
      have c1 := pos_nonneg n
      have e1 : seg ds 0 ((pos n).toNat - 0) = ds.take (pos n).toNat := seg_take ds _
      have e2 : seg ds (pos n).toNat (ds.length - (pos n).toNat) = ds.drop (pos n).toNat := seg_drop ds _
      have c2 : fits .one (ds.take (pos n).toNat) = true := by
        rw [fits_one_iff] at hf ⊢
        exact fun d hd => hf d (List.mem_of_mem_take hd)
      have c3 : (ds.take (pos n).toNat).length * 1 ≤ 35184372088832 := by
        rw [List.length_take]; omega
      have c4 : (pos n).toNat ≤ ds.length := h3
      simp only [e1, e2, c1, c2, c3, c4, Bool.not_true, cond_false, cond_true, decide_true, Bool.and_true, Nat.le_refl, Nat.zero_add, List.nil_append, Nat.beq_refl, seg_full]
      rfl
  · rw [← T.leaf_some h, take_nil]
  · simp [T.run_fail] at h

end Go.Proofs.Ytnailhdfopoibaa
