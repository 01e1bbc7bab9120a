/- Seat 02: the document's scan. -/
import Derived.Test.YtnailhdfopoibaaD
namespace Go.Proofs.Ytnailhdfopoibaa
open Go.AX
set_option maxRecDepth 100000

/-- The document's scan: the bytes, how many were taken, the fault. -/
structure Rf where
  ds : List D
  at_ : Int
  e : Int

def refB (s : Rf) : Blk := ⟨shS, false, false, .dat (.agg [.slc .one s.ds, .int .i64 s.at_, .int .i64 s.e])⟩
def Rf.ok (s : Rf) : Bool := isBytes s.ds && decide (s.ds.length ≤ LIM) && decide (0 ≤ s.at_) && decide (s.at_ ≤ s.ds.length)
def Rf.can (s : Rf) (n : Int) : Bool := s.e == 0 && decide (pos n ≤ s.ds.length - s.at_)
def Rf.takes (s : Rf) (n : Int) : List D := bif s.can n then (s.ds.drop s.at_.toNat).take (pos n).toNat else []
def Rf.took (s : Rf) (n : Int) : Rf := ⟨s.ds, bif s.can n then s.at_ + pos n else s.at_, bif s.e == 0 && !s.can n then 12 else s.e⟩
def Rf.rule (s : Rf) (ok : Bool) (e : Int) : Rf := ⟨s.ds, s.at_, bif !ok && s.e == 0 then e else s.e⟩
def Rf.left (s : Rf) : Int := bif s.e == 0 then s.ds.length - s.at_ else 0
def Rf.endI (s : Rf) : Int := bif s.e == 0 && decide (s.at_ < s.ds.length) then 13 else s.e

theorem rtake_run (s : Rf) (n : Int) : runF (envOf tab [] [] [] []) true Try.f17 [ptrS, .dat (.int .i64 n)] [refB s] =
  (bif decide (n < (0 : Int)) then 
   (bif Rf.e s != (0 : Int) then some ([AV.dat (D.slc Sh.one [])], [{ sh := Sh.agg [Sh.one, Sh.one, Sh.one], dyn := false, frz := false, v := AV.dat (D.agg [D.slc Sh.one (Rf.ds s), D.int IntKind.i64 (Rf.at_ s), D.int IntKind.i64 (Rf.e s)]) }]) else 
    (bif decide ((0 : Int) > IntKind.wrap IntKind.i64 ((↑(List.length (Rf.ds s)) : Int) - Rf.at_ s)) then some ([AV.dat (D.slc Sh.one [])], [{ sh := Sh.agg [Sh.one, Sh.one, Sh.one], dyn := false, frz := false, v := AV.dat (D.agg [D.slc Sh.one (Rf.ds s), D.int IntKind.i64 (Rf.at_ s), D.int IntKind.i64 (12 : Int)]) }]) else 
     (bif decide ((0 : Int) ≤ IntKind.wrap IntKind.i64 (Rf.at_ s + (0 : Int))) then 
      (bif decide ((0 : Int) ≤ Rf.at_ s) then 
       (bif decide (Int.toNat (Rf.at_ s) ≤ Int.toNat (IntKind.wrap IntKind.i64 (Rf.at_ s + (0 : Int)))) && decide (Int.toNat (IntKind.wrap IntKind.i64 (Rf.at_ s + (0 : Int))) ≤ List.length (Rf.ds s)) then some ([AV.dat (D.slc Sh.one (seg (Rf.ds s) (Int.toNat (Rf.at_ s)) (Int.toNat (IntKind.wrap IntKind.i64 (Rf.at_ s + (0 : Int))) - Int.toNat (Rf.at_ s))))], [{ sh := Sh.agg [Sh.one, Sh.one, Sh.one], dyn := false, frz := false, v := AV.dat (D.agg [D.slc Sh.one (Rf.ds s), D.int IntKind.i64 (IntKind.wrap IntKind.i64 (Rf.at_ s + (0 : Int))), D.int IntKind.i64 (Rf.e s)]) }]) else none) else none) else none))) else 
   (bif Rf.e s != (0 : Int) then some ([AV.dat (D.slc Sh.one [])], [{ sh := Sh.agg [Sh.one, Sh.one, Sh.one], dyn := false, frz := false, v := AV.dat (D.agg [D.slc Sh.one (Rf.ds s), D.int IntKind.i64 (Rf.at_ s), D.int IntKind.i64 (Rf.e s)]) }]) else 
    (bif decide (n > IntKind.wrap IntKind.i64 ((↑(List.length (Rf.ds s)) : Int) - Rf.at_ s)) then some ([AV.dat (D.slc Sh.one [])], [{ sh := Sh.agg [Sh.one, Sh.one, Sh.one], dyn := false, frz := false, v := AV.dat (D.agg [D.slc Sh.one (Rf.ds s), D.int IntKind.i64 (Rf.at_ s), D.int IntKind.i64 (12 : Int)]) }]) else 
     (bif decide ((0 : Int) ≤ IntKind.wrap IntKind.i64 (Rf.at_ s + n)) then 
      (bif decide ((0 : Int) ≤ Rf.at_ s) then 
       (bif decide (Int.toNat (Rf.at_ s) ≤ Int.toNat (IntKind.wrap IntKind.i64 (Rf.at_ s + n))) && decide (Int.toNat (IntKind.wrap IntKind.i64 (Rf.at_ s + n)) ≤ List.length (Rf.ds s)) then some ([AV.dat (D.slc Sh.one (seg (Rf.ds s) (Int.toNat (Rf.at_ s)) (Int.toNat (IntKind.wrap IntKind.i64 (Rf.at_ s + n)) - Int.toNat (Rf.at_ s))))], [{ sh := Sh.agg [Sh.one, Sh.one, Sh.one], dyn := false, frz := false, v := AV.dat (D.agg [D.slc Sh.one (Rf.ds s), D.int IntKind.i64 (IntKind.wrap IntKind.i64 (Rf.at_ s + n)), D.int IntKind.i64 (Rf.e s)]) }]) else none) else none) else none)))) := by kernel_rfl
theorem rrule_run (s : Rf) (ok : Bool) (e : Int) : runF (envOf tab [] [] [] []) true Try.f19 [ptrS, .dat (.bool ok), .dat (.int .i64 e)] [refB s] =
  (bif (!ok) == true then 
   (bif !ok then 
    (bif Rf.e s == (0 : Int) then some ([], [{ sh := Sh.agg [Sh.one, Sh.one, Sh.one], dyn := false, frz := false, v := AV.dat (D.agg [D.slc Sh.one (Rf.ds s), D.int IntKind.i64 (Rf.at_ s), D.int IntKind.i64 e]) }]) else some ([], [{ sh := Sh.agg [Sh.one, Sh.one, Sh.one], dyn := false, frz := false, v := AV.dat (D.agg [D.slc Sh.one (Rf.ds s), D.int IntKind.i64 (Rf.at_ s), D.int IntKind.i64 (Rf.e s)]) }])) else some ([], [{ sh := Sh.agg [Sh.one, Sh.one, Sh.one], dyn := false, frz := false, v := AV.dat (D.agg [D.slc Sh.one (Rf.ds s), D.int IntKind.i64 (Rf.at_ s), D.int IntKind.i64 (Rf.e s)]) }])) else 
   (bif !ok then none else some ([], [{ sh := Sh.agg [Sh.one, Sh.one, Sh.one], dyn := false, frz := false, v := AV.dat (D.agg [D.slc Sh.one (Rf.ds s), D.int IntKind.i64 (Rf.at_ s), D.int IntKind.i64 (Rf.e s)]) }]))) := by kernel_rfl
theorem rleft_run (s : Rf) : runF (envOf tab [] [] [] []) true Try.f21 [ptrS] [refB s] =
  (bif Rf.e s != (0 : Int) then some ([AV.dat (D.int IntKind.i64 (0 : Int))], [{ sh := Sh.agg [Sh.one, Sh.one, Sh.one], dyn := false, frz := false, v := AV.dat (D.agg [D.slc Sh.one (Rf.ds s), D.int IntKind.i64 (Rf.at_ s), D.int IntKind.i64 (Rf.e s)]) }]) else some ([AV.dat (D.int IntKind.i64 (IntKind.wrap IntKind.i64 ((↑(List.length (Rf.ds s)) : Int) - Rf.at_ s)))], [{ sh := Sh.agg [Sh.one, Sh.one, Sh.one], dyn := false, frz := false, v := AV.dat (D.agg [D.slc Sh.one (Rf.ds s), D.int IntKind.i64 (Rf.at_ s), D.int IntKind.i64 (Rf.e s)]) }])) := by kernel_rfl
theorem rend_run (s : Rf) : runF (envOf tab [] [] [] []) true Try.f24 [ptrS] [refB s] =
  (bif Rf.e s == (0 : Int) then 
   (bif decide (Rf.at_ s < (↑(List.length (Rf.ds s)) : Int)) then some ([AV.dat (D.int IntKind.i64 (13 : Int))], [{ sh := Sh.agg [Sh.one, Sh.one, Sh.one], dyn := false, frz := false, v := AV.dat (D.agg [D.slc Sh.one (Rf.ds s), D.int IntKind.i64 (Rf.at_ s), D.int IntKind.i64 (Rf.e s)]) }]) else some ([AV.dat (D.int IntKind.i64 (Rf.e s))], [{ sh := Sh.agg [Sh.one, Sh.one, Sh.one], dyn := false, frz := false, v := AV.dat (D.agg [D.slc Sh.one (Rf.ds s), D.int IntKind.i64 (Rf.at_ s), D.int IntKind.i64 (Rf.e s)]) }])) else some ([AV.dat (D.int IntKind.i64 (Rf.e s))], [{ sh := Sh.agg [Sh.one, Sh.one, Sh.one], dyn := false, frz := false, v := AV.dat (D.agg [D.slc Sh.one (Rf.ds s), D.int IntKind.i64 (Rf.at_ s), D.int IntKind.i64 (Rf.e s)]) }])) := by kernel_rfl

theorem Rf.ok_spec {s : Rf} (h : s.ok = true) : isBytes s.ds = true ∧ s.ds.length ≤ LIM ∧ 0 ≤ s.at_ ∧ s.at_ ≤ s.ds.length := by
  unfold Rf.ok at h
  simp only [Bool.and_eq_true, decide_eq_true_eq] at h
  exact ⟨h.1.1.1, h.1.1.2, h.1.2, h.2⟩

theorem rtake_eq (s : Rf) (n : Int) (h : s.ok = true) : runF (envOf tab [] [] [] []) true Try.f17 [ptrS, .dat (.int .i64 n)] [refB s] = some ([.dat (.slc .one (s.takes n))], [refB (s.took n)]) := by
  obtain ⟨h1, h2, h3, h4⟩ := Rf.ok_spec h
  unfold LIM at h2
  rw [rtake_run]
  have e1 : IntKind.wrap .i64 ((s.ds.length : Int) - s.at_) = s.ds.length - s.at_ := by rw [IntKind.wrap_i64]; omega
  rw [e1]
  unfold Rf.takes Rf.took
  cases he : s.e == 0 with
  | false =>
    have hc : s.can n = false := by unfold Rf.can; rw [he]; rfl
    have hn : (s.e != 0) = true := by simpa [bne] using he
    rw [hc, hn]
    cases decide (n < 0) <;> rfl
  | true =>
    have hn : (s.e != 0) = false := by simpa [bne] using he
    rw [hn]
    have hcan : s.can n = decide (pos n ≤ s.ds.length - s.at_) := by unfold Rf.can; rw [he]; rfl
    by_cases hp : pos n ≤ s.ds.length - s.at_
    · rw [hcan, decide_eq_true hp]
      have c1 := pos_nonneg n
      have e2 : IntKind.wrap .i64 (s.at_ + pos n) = s.at_ + pos n := by rw [IntKind.wrap_i64]; omega
      have fin : ∀ m : Int, m = pos n → (bif decide (m > s.ds.length - s.at_) then some ([AV.dat (D.slc Sh.one [])], [({ sh := Sh.agg [Sh.one, Sh.one, Sh.one], dyn := false, frz := false, v := AV.dat (D.agg [D.slc Sh.one (Rf.ds s), D.int IntKind.i64 (Rf.at_ s), D.int IntKind.i64 (12 : Int)]) } : Blk)]) else
     (bif decide ((0 : Int) ≤ IntKind.wrap IntKind.i64 (Rf.at_ s + m)) then
      (bif decide ((0 : Int) ≤ Rf.at_ s) then
       (bif decide (Int.toNat (Rf.at_ s) ≤ Int.toNat (IntKind.wrap IntKind.i64 (Rf.at_ s + m))) && decide (Int.toNat (IntKind.wrap IntKind.i64 (Rf.at_ s + m)) ≤ List.length (Rf.ds s)) then some ([AV.dat (D.slc Sh.one (seg (Rf.ds s) (Int.toNat (Rf.at_ s)) (Int.toNat (IntKind.wrap IntKind.i64 (Rf.at_ s + m)) - Int.toNat (Rf.at_ s))))], [{ sh := Sh.agg [Sh.one, Sh.one, Sh.one], dyn := false, frz := false, v := AV.dat (D.agg [D.slc Sh.one (Rf.ds s), D.int IntKind.i64 (IntKind.wrap IntKind.i64 (Rf.at_ s + m)), D.int IntKind.i64 (Rf.e s)]) }]) else none) else none) else none)) = some ([AV.dat (D.slc Sh.one ((s.ds.drop s.at_.toNat).take (pos n).toNat))], [refB ⟨s.ds, s.at_ + pos n, s.e⟩]) := by
        intro m hm
        subst hm
        have c2 : ¬ (pos n > s.ds.length - s.at_) := by omega
        have c3 : 0 ≤ s.at_ + pos n := by omega
        have c4 : s.at_.toNat ≤ (s.at_ + pos n).toNat := by omega
        have c5 : (s.at_ + pos n).toNat ≤ s.ds.length := by omega
        have e3 : (s.at_ + pos n).toNat - s.at_.toNat = (pos n).toNat := by omega
        simp only [e2, c2, c3, h3, c4, c5, decide_true, decide_false, cond_true, cond_false, Bool.and_self, e3, seg_eq]
        rfl
      by_cases hz : n < 0
      · rw [decide_eq_true hz]
        exact fin 0 (by unfold pos; omega)
      · rw [decide_eq_false hz]
        exact fin n (by unfold pos; omega)
    · rw [hcan, decide_eq_false hp]
      by_cases hz : n < 0
      · exfalso
        unfold pos at hp; omega
      · have c2 : n > s.ds.length - s.at_ := by unfold pos at hp; omega
        rw [decide_eq_false hz, decide_eq_true c2]
        rfl

def S_rtake : FunT := fun args σ => match args, σ with
  | [.ptr (.agg [.one, .one, .one]) 0 0 [], .dat (.int .i64 n)], [⟨.agg [.one, .one, .one], false, false, .dat (.agg [.slc .one ds, .int .i64 a, .int .i64 e])⟩] =>
    .chk (Rf.ok ⟨ds, a, e⟩) (.leaf ([.dat (.slc .one (Rf.takes ⟨ds, a, e⟩ n))], [refB (Rf.took ⟨ds, a, e⟩ n)]))
  | _, _ => .fail

theorem rtake_ok : FunOk Try.prog 17 (FunT.run S_rtake) := by
  refine fun_ok (E := envOf tab [] [] [] []) (fz := true) (fn := Try.f17) (envOf_ok progOk (.nil _)) (by kernel_rfl) (by kernel_rfl) (loops_none (by kernel_rfl)) ?_
  intro args σ r h
  unfold S_rtake at h
  split at h
  · rename_i n ds a e
    obtain ⟨hc, h'⟩ := T.chk_some h
    rw [← T.leaf_some h']
    exact rtake_eq ⟨ds, a, e⟩ n hc
  · simp [T.run_fail] at h

def S_rrule : FunT := fun args σ => match args, σ with
  | [.ptr (.agg [.one, .one, .one]) 0 0 [], .dat (.bool ok), .dat (.int .i64 e')], [⟨.agg [.one, .one, .one], false, false, .dat (.agg [.slc .one ds, .int .i64 a, .int .i64 e])⟩] =>
    .leaf ([], [refB (Rf.rule ⟨ds, a, e⟩ ok e')])
  | _, _ => .fail

theorem rrule_ok : FunOk Try.prog 19 (FunT.run S_rrule) := by
  refine fun_ok (E := envOf tab [] [] [] []) (fz := true) (fn := Try.f19) (envOf_ok progOk (.nil _)) (by kernel_rfl) (by kernel_rfl) (loops_none (by kernel_rfl)) ?_
  intro args σ r h
  unfold S_rrule at h
  split at h
  · rename_i ok e' ds a e
    rw [← T.leaf_some h]
    refine (rrule_run ⟨ds, a, e⟩ ok e').trans ?_
    unfold Rf.rule
    cases he : (e == 0) <;> cases ok <;> simp [refB]
  · simp [T.run_fail] at h

def S_rleft : FunT := fun args σ => match args, σ with
  | [.ptr (.agg [.one, .one, .one]) 0 0 []], [⟨.agg [.one, .one, .one], false, false, .dat (.agg [.slc .one ds, .int .i64 a, .int .i64 e])⟩] =>
    .chk (Rf.ok ⟨ds, a, e⟩) (.leaf ([.dat (.int .i64 (Rf.left ⟨ds, a, e⟩))], [refB ⟨ds, a, e⟩]))
  | _, _ => .fail

theorem rleft_ok : FunOk Try.prog 21 (FunT.run S_rleft) := by
  refine fun_ok (E := envOf tab [] [] [] []) (fz := true) (fn := Try.f21) (envOf_ok progOk (.nil _)) (by kernel_rfl) (by kernel_rfl) (loops_none (by kernel_rfl)) ?_
  intro args σ r h
  unfold S_rleft at h
  split at h
  · rename_i ds a e
    obtain ⟨hc, h'⟩ := T.chk_some h
    rw [← T.leaf_some h']
    refine (rleft_run ⟨ds, a, e⟩).trans ?_
    obtain ⟨h1, h2, h3, h4⟩ := Rf.ok_spec hc
    unfold LIM at h2
    have e1 : IntKind.wrap .i64 ((ds.length : Int) - a) = ds.length - a := by
      simp only at h2 h3 h4
      rw [IntKind.wrap_i64]; omega
    unfold Rf.left
    simp only [e1]
    cases he : (e == 0) <;> simp [bne, he, refB]
  · simp [T.run_fail] at h

def S_rend : FunT := fun args σ => match args, σ with
  | [.ptr (.agg [.one, .one, .one]) 0 0 []], [⟨.agg [.one, .one, .one], false, false, .dat (.agg [.slc .one ds, .int .i64 a, .int .i64 e])⟩] =>
    .leaf ([.dat (.int .i64 (Rf.endI ⟨ds, a, e⟩))], [refB ⟨ds, a, e⟩])
  | _, _ => .fail

theorem rend_ok : FunOk Try.prog 24 (FunT.run S_rend) := by
  refine fun_ok (E := envOf tab [] [] [] []) (fz := true) (fn := Try.f24) (envOf_ok progOk (.nil _)) (by kernel_rfl) (by kernel_rfl) (loops_none (by kernel_rfl)) ?_
  intro args σ r h
  unfold S_rend at h
  split at h
  · rename_i ds a e
    rw [← T.leaf_some h]
    refine (rend_run ⟨ds, a, e⟩).trans ?_
    unfold Rf.endI
    cases he : (e == 0) <;> cases hd : decide (a < (ds.length : Int)) <;> simp [refB]
  · simp [T.run_fail] at h

end Go.Proofs.Ytnailhdfopoibaa
